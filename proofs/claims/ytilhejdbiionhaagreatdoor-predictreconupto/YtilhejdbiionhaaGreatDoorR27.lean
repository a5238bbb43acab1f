/- Part 27 of a proof: CwVe, CwVf, CwPb, CwI, CwPc -/
import Derived.Test.YtilhejdbiionhaaGreatDoorR17
import Derived.Test.YtilhejdbiionhaaGreatDoorR18
import Derived.Test.YtilhejdbiionhaaGreatDoorR22
import Derived.Test.YtilhejdbiionhaaGreatDoorR23
import Derived.Test.YtilhejdbiionhaaGreatDoorR25
import Derived.Test.YtilhejdbiionhaaGreatDoorR26
set_option linter.all false

namespace Go.Cw
open Go Go.Abs
structure RInv(r p:Nat)(m:RM):Prop where
 vr:∀q∈m.vars,qcx q.v
 wr:∀q∈m.own,qcx q.v
 s0:0≤m.steps
 s1:m.steps≤16384
 rd:((m.reads.length+r:Nat):Int)≤8192 * m.steps+8192
 pt:((m.puts.length+p:Nat):Int)≤m.steps
 ow:((m.own.length+p:Nat):Int)≤m.steps
 va:((m.vars.length+p:Nat):Int)≤m.steps+34359738368
 ot:m.out.length≤16
theorem RInv.mono{r p r' p':Nat}{m:RM}(h:RInv r p m)(h1:r'≤r)(h2:p'≤p):RInv r' p' m :=
 ⟨h.vr,h.wr,h.s0,h.s1,by have:=h.rd;omega,by have:=h.pt;omega,by have:=h.ow;omega,by have:=h.va;omega,h.ot⟩
theorem RInv.lenR{r p:Nat}{m:RM}(h:RInv r p m):m.reads.length≤134225920:=by have:=h.rd;have:=h.s1;omega
theorem RInv.lenP{r p:Nat}{m:RM}(h:RInv r p m):m.puts.length≤16384:=by have:=h.pt;have:=h.s1;omega
theorem RInv.lenO{r p:Nat}{m:RM}(h:RInv r p m):m.own.length≤16384:=by have:=h.ow;have:=h.s1;omega
theorem RInv.lenV{r p:Nat}{m:RM}(h:RInv r p m):m.vars.length≤34359754752:=by have:=h.va;have:=h.s1;omega
theorem setR_len(l:List Pr)(p:Pr):(setR l p).length≤l.length+1:=by
 have:=posP_le p.key l;unfold setR restP;split<;>simp<;>omega
theorem setR_mem{l:List Pr}{p q:Pr}(h:q∈setR l p):q=p∨q∈l:=by
 unfold setR at h;simp only[List.mem_append,List.mem_cons]at h;rcases h with h|h|h
 ·exact .inr (List.mem_of_mem_take h)
 ·exact .inl h
 ·exact .inr (List.mem_of_mem_drop h)
theorem arithR_eq(op a b:Int):qel op a b=qcs (arithR op a b):=by
 unfold qel arithR;split
 ·rfl
 split
 ·rfl
 split
 ·rfl
 split<;>rfl
theorem arithR_i{op a b:Int}(hb:i64 b)(h:(arithR op a b).2=0):i64 (arithR op a b).1:=by
 have:=i64_arith (op:=op) (a:=a) (v:=vI (arithR op a b).1) hb (by rw[arithR_eq];unfold qcs;rw[if_pos h]);exact this.1
theorem calcR_inv{r p:Nat}{m:RM}{x:Int×Int}(h:RInv r p m)(hx:x.2=0→i64 x.1)(h0:(calcR m x).2.st=0):RInv r p (calcR m x).2∧qcx (calcR m x).1:=by
 unfold calcR at h0⊢;split at h0
 ·simp[RM.ab]at h0
 rename_i h4;split at h0
 ·simp[RM.ab]at h0
 rename_i h5;rw[if_neg h4,if_neg h5];exact⟨h,rng_vI (hx (by simpa using h5))⟩
section
variable {C:Cfg} (hC:rngC C)
include hC
theorem fetchR_inv{r p:Nat}{m:RM}(h:RInv (r+1) p m)(k:qac)(h0:(qbl C m k).2.st=0):RInv r p (qbl C m k).2∧qcx (qbl C m k).1:=by
 unfold qbl at h0⊢;split at h0
 ·simp[RM.ab]at h0
 rename_i h1;rw[if_neg h1];split at h0
 ·rename_i h2;rw[if_pos h2];exact⟨h.mono (by omega) (Nat.le_refl _),rng_getP h.wr k⟩
 rename_i h2;rw[if_neg h2];split at h0
 ·simp[RM.rst]at h0
 rename_i h3;rw[if_neg h3];refine⟨⟨h.vr,h.wr,h.s0,h.s1,?_,h.pt,h.ow,h.va,h.ot⟩,rng_getP hC k⟩;have:=withS_len m.reads k;have:=h.rd;simp only;omega
theorem twoR_inv{r p:Nat}{m:RM}(h:RInv r p m){op:Int}{a b:V}(ha:qcx a)(hb:qcx b)(h0:(twoR m op a b).2.st=0):RInv r p (twoR m op a b).2∧qcx (twoR m op a b).1:=by
 unfold twoR at h0⊢;split at h0
 ·rename_i h1;rw[if_pos h1];split at h0
  ·rename_i h2;rw[if_pos h2];exact calcR_inv h (fun hz=>arithR_i hb.1 hz) h0
  ·simp[RM.ab]at h0
 rename_i h1;rw[if_neg h1];split at h0
 ·rename_i h2;rw[if_pos h2];split at h0
  ·rename_i h3;rw[if_pos h3];exact⟨h,rng_vB _⟩
  ·simp[RM.ab]at h0
 rename_i h2;rw[if_neg h2];split at h0
 ·rename_i h3;rw[if_pos h3];split at h0
  ·rename_i h4;rw[if_pos h4];exact⟨h,rng_vB _⟩
  ·simp[RM.ab]at h0
 rename_i h3;rw[if_neg h3];split at h0
 ·rename_i h4;rw[if_pos h4];split at h0
  ·rename_i h5;rw[if_pos h5];split at h0
   ·simp[RM.ab]at h0
   ·rename_i h6;rw[if_neg h6];refine⟨h,⟨by simp[vS],by simp[vS]⟩,?_⟩;have h7:W64 ((a.s.size:Int)+b.s.size)=(a.s.size:Int)+b.s.size:=W64_id (by omega) (by have:=ha.2;have:=hb.2;omega);rw[h7]at h6;simp only[vS,ByteArray.size_append];omega
  ·simp[RM.ab]at h0
 rename_i h4;rw[if_neg h4];split at h0
 ·rename_i h5;rw[if_pos h5];exact⟨h,rng_vB _⟩
 ·simp[RM.ab]at h0
theorem oneR_inv(hf:∀n,i64 n→qa3 (C.fmt n)=true){r p:Nat}{m:RM}(h:RInv (r+1) p m){op:Int}{a:V}(ha:qcx a)(h0:(oneR C m op a).2.st=0):RInv r p (oneR C m op a).2∧qcx (oneR C m op a).1:=by
 have h':=h.mono (show r≤r+1 by omega) (Nat.le_refl p);unfold oneR at h0⊢;split at h0
 ·simp[RM.ab]at h0
 rename_i h1;rw[if_neg h1];split at h0
 ·rename_i h2;rw[if_pos h2];exact calcR_inv h' (fun _=>i64_neg _) h0
 rename_i h2;rw[if_neg h2];split at h0
 ·rename_i h3;rw[if_pos h3];exact⟨h',rng_vB _⟩
 rename_i h3;rw[if_neg h3];split at h0
 ·rename_i h4;rw[if_pos h4];have hp:=hf _ ha.1;unfold qa3 at hp;simp only[Bool.and_eq_true,decide_eq_true_eq]at hp;exact⟨h',⟨by simp[vS],by simp[vS]⟩,by simp only[vS];omega⟩
 rename_i h4;rw[if_neg h4];split at h0
 ·rename_i h5;rw[if_pos h5];exact⟨h',rng_vI ⟨by omega,by have:=ha.2;omega⟩⟩
 rename_i h5;rw[if_neg h5];simp only at h0⊢;split at h0
 ·rename_i h6;exact absurd h0 h6
 rename_i h6;rw[if_neg h6];have hF:=fetchR_inv hC h a.s (by simpa using h6);split at h0
 ·rename_i h7;rw[if_pos h7];exact⟨hF.1,rng_vB _⟩
 rename_i h7;rw[if_neg h7];split at h0
 ·rename_i h8;rw[if_pos h8];exact⟨hF.1,⟨by simp,by simp⟩,by simp[em]⟩
 rename_i h8;rw[if_neg h8];by_cases h9:(qbl C m a.s).1.k≠(if op=23 then 2 else 1)
 ·rw[if_pos h9]at h0;simp[RM.ab]at h0
 ·rw[if_neg h9];exact hF
theorem opR_inv(hf:∀n,i64 n→qa3 (C.fmt n)=true){r p:Nat}{m:RM}(h:RInv (r+1) p m){op:Int}{l:List V}(hl:∀v∈l,qcx v)(h0:(opR C m op l).2.st=0):RInv r p (opR C m op l).2∧qcx (opR C m op l).1:=by
 unfold opR at h0⊢;split at h0
 ·exact oneR_inv hC hf h (hl _ (by simp)) h0
 ·exact twoR_inv hC (h.mono (by omega) (Nat.le_refl _)) (hl _ (by simp)) (hl _ (by simp)) h0
 ·simp[RM.ab]at h0
mutual
theorem evR_inv(hf:∀n,i64 n→qa3 (C.fmt n)=true):∀(e:Ex) (m:RM) (r p:Nat),rngX e→RInv (r+nodes e) p m→m.st=0→(evR C e m).2.st=0→RInv r p (evR C e m).2∧qcx (evR C e m).1
 | .mk op n s args,m,r,p,hX,h,hm,h0=>by
  have hX':=(qdd _).1 hX;simp only[Ex.n,Ex.s,Ex.args]at hX';have hn:nodes (.mk op n s args)=nodesL args+1:=nodes_eq _;rw[hn]at h;have h':=h.mono (show r≤r+(nodesL args+1)by omega) (Nat.le_refl p);rw[evR]at h0⊢;split at h0
  ·rename_i h1;rw[if_pos h1];exact⟨h',rng_vI hX'.1.1⟩
  rename_i h1;rw[if_neg h1];split at h0
  ·rename_i h2;rw[if_pos h2];exact⟨h',⟨by simp[vS],by simp[vS]⟩,hX'.1.2⟩
  rename_i h2;rw[if_neg h2];split at h0
  ·rename_i h3;rw[if_pos h3];split at h0
   ·rename_i h4;rw[if_pos h4];exact⟨h',rng_getP h.vr s⟩
   ·simp[RM.ab]at h0
  rename_i h3;rw[if_neg h3];simp only at h0⊢;split at h0
  ·rename_i h4;exact absurd h0 h4
  rename_i h4;rw[if_neg h4];have hL:=evRL_inv hf args m (r+1) p hX'.2 (h.mono (by omega) (Nat.le_refl _)) hm (by simpa using h4);exact opR_inv hC hf hL.1 hL.2 h0
theorem evRL_inv(hf:∀n,i64 n→qa3 (C.fmt n)=true):∀(l:List Ex) (m:RM) (r p:Nat),(∀x∈l,rngX x)→RInv (r+nodesL l) p m→m.st=0→(evRL C l m).2.st=0→RInv r p (evRL C l m).2∧∀v∈(evRL C l m).1,qcx v
 | [],m,r,p,hX,h,hm,h0=>by rw[evRL];exact⟨h.mono (by omega) (Nat.le_refl _),by simp⟩
 |e::l,m,r,p,hX,h,hm,h0=>by
  rw[nodesL_cons]at h;rw[evRL]at h0⊢;simp only at h0⊢;split at h0
  ·rename_i h1;exact absurd h0 h1
  rename_i h1;rw[if_neg h1];have hE:=evR_inv hf e m (r+nodesL l) p (hX e (by simp)) (h.mono (by omega) (Nat.le_refl _)) hm (by simpa using h1);have hL:=evRL_inv hf l _ r p (fun x hx=>hX x (by simp[hx])) hE.1 (by simpa using h1) h0;refine⟨hL.1,fun v hv=>?_⟩;rcases List.mem_cons.1 hv with rfl|hv
  ·exact hE.2
  ·exact hL.2 v hv
end
end
theorem tickR_inv{m:RM}(h:RInv 0 0 m)(h0:(qdo m).st=0):RInv 8192 1 (qdo m):=by
 have e:W64 (m.steps+1)=m.steps+1:=W64_id (by have:=h.s0;omega) (by have:=h.s1;omega);unfold qdo at h0⊢;rw[e]at h0⊢;split at h0
 ·simp[RM.ab]at h0
 rename_i h1;rw[if_neg h1];refine⟨h.vr,h.wr,by have:=h.s0;simp only;omega,by simp only;omega,?_,?_,?_,?_,h.ot⟩
 ·have:=h.rd;simp only;omega
 ·have:=h.pt;simp only;omega
 ·have:=h.ow;simp only;omega
 ·have:=h.va;simp only;omega
theorem RInv.var{r p:Nat}{m:RM}(h:RInv r (p+1) m){v:V}(hv:qcx v)(k:qac):RInv r p { m with vars:=setR m.vars ⟨k,v⟩ }:=by
 refine⟨fun q hq=>?_,h.wr,h.s0,h.s1,h.rd,by have:=h.pt;simp only;omega,by have:=h.ow;simp only;omega,?_,h.ot⟩
 ·rcases setR_mem hq with rfl|hq
  ·exact hv
  ·exact h.vr q hq
 ·have:=setR_len m.vars ⟨k,v⟩;have:=h.va;simp only;omega
theorem RInv.store{C:Cfg}{r p:Nat}{m:RM}(h:RInv r (p+1) m){v:V}(hv:qcx v)(k:qac)(h0:(storeR C m k v).st=0):RInv r p (storeR C m k v):=by
 unfold storeR at h0⊢;split at h0
 ·simp[RM.ab]at h0
 rename_i h1;rw[if_neg h1];split at h0
 ·simp[RM.rst]at h0
 rename_i h2;rw[if_neg h2];refine⟨h.vr,fun q hq=>?_,h.s0,h.s1,h.rd,?_,?_,by have:=h.va;simp only;omega,h.ot⟩
 ·rcases setR_mem hq with rfl|hq
  ·exact hv
  ·exact h.wr q hq
 ·have:=withS_len m.puts k;have:=h.pt;simp only;omega
 ·have:=setR_len m.own ⟨k,v⟩;have:=h.ow;simp only;omega
theorem RInv.emit{r p:Nat}{m:RM}(h:RInv r p m){v:V}(h0:(emitR m v).st=0):RInv r p (emitR m v):=by
 unfold emitR at h0⊢;split at h0
 ·simp[RM.ab]at h0
 rename_i h1;rw[if_neg h1];refine⟨h.vr,h.wr,h.s0,h.s1,h.rd,h.pt,h.ow,h.va,?_⟩;simp only[List.length_append,List.length_singleton];omega
theorem loopR_inv{body:RM→RM}{name:qac}{b:Int}(hb:i64 b)(hB:∀m,RInv 0 0 m→m.st=0→(body m).st=0→RInv 0 0 (body m)):∀(f:Nat) (i:Int) (m:RM),i64 i→RInv 0 0 m→m.st=0→(loopR body name b f i m).st=0→RInv 0 0 (loopR body name b f i m)
 | 0,i,m,hi,h,hm,h0=>by rw[loopR];exact h
 |f+1,i,m,hi,h,hm,h0=>by
  rw[loopR]at h0⊢;by_cases h1:i<b∧m.st=0
  ·rw[if_pos h1]at h0⊢;have hw:W64 (i+1)=i+1:=W64_id (by have:=hi.1;omega) (by have:=hb.2;omega);by_cases h2:(qdo m).st=0
   ·rw[if_pos h2]at h0⊢;have ht:=(tickR_inv h h2).var (p:=0) (rng_vI hi) name;by_cases h3:(body { qdo m with vars:=setR (qdo m).vars ⟨name,vI i⟩ }).st=0
    ·exact loopR_inv hb hB f _ _ (by rw[hw];exact⟨by have:=hi.1;omega,by have:=hb.2;omega⟩) (hB _ (ht.mono (by omega) (Nat.le_refl _)) h2 h3) h3 h0
    ·rw[loopR_dead f _ h3]at h0;exact absurd h0 h3
   ·rw[if_neg h2,loopR_dead f _ h2]at h0;exact absurd h0 h2
  ·rw[if_neg h1]at h0⊢;exact h
section
variable {C:Cfg} (hC:rngC C) (hf:∀n,i64 n→qa3 (C.fmt n)=true)
include hC hf
mutual
theorem stR_inv:∀(t:St) (d:Nat) (m:RM),okS t d→goS t→RInv 8192 1 m→m.st=0→(stR C t m).st=0→RInv 0 0 (stR C t m)
 | .mk op name mx a b body els,d,m,hok,hg,h,hm,h0=>by
  have hok':=(qco _ _).1 hok;have hg':=(goS_iff _).1 hg;have hop:=okS_op hok;simp only[St.op,St.a,St.b,St.body,St.els]at hok' hg' hop;rw[stR]at h0⊢;split at h0
  ·simp[RM.ab]at h0
  rename_i h8;rw[if_neg h8];split at h0
  ·rename_i h1;exact absurd h0 h1
  rename_i h1;rw[if_neg h1];have hA:=evR_inv hC hf a m 4097 1 (hg'.1 h8).1 (h.mono (by have:=(hg'.1 h8).2;omega) (Nat.le_refl _)) hm (by simpa using h1);have hA0:=hA.1.mono (Nat.zero_le _) (Nat.zero_le _);split at h0
  ·rename_i h2;rw[if_pos h2];exact(hA.1.var hA.2 name).mono (Nat.zero_le _) (Nat.le_refl _)
  rename_i h2;rw[if_neg h2];split at h0
  ·rename_i h3;rw[if_pos h3];exact(hA.1.store rng_nil _ h0).mono (Nat.zero_le _) (Nat.le_refl _)
  rename_i h3;rw[if_neg h3];split at h0
  ·rename_i h4;rw[if_pos h4];exact hA0.emit h0
  rename_i h4;rw[if_neg h4];split at h0
  ·rename_i h5;rw[if_pos h5];split at h0
   ·rename_i h6;rw[if_pos h6];exact blkR_inv body (d+1) _ hok'.2.1 hg'.2.2.1 hA0 (by simpa using h1) h0
   ·rename_i h6;rw[if_neg h6];exact blkR_inv els (d+1) _ hok'.2.2 hg'.2.2.2 hA0 (by simpa using h1) h0
  rename_i h5;rw[if_neg h5];have hgb:=hg'.2.1 (by omega);split at h0
  ·rename_i h6;exact absurd h0 h6
  rename_i h6;rw[if_neg h6];have hB:=evR_inv hC hf b _ 0 1 hgb.1 (hA.1.mono (by have:=hgb.2;omega) (Nat.le_refl _)) (by simpa using h1) (by simpa using h6);split at h0
  ·rename_i h7;rw[if_pos h7];exact(hB.1.store hB.2 _ h0).mono (Nat.zero_le _) (Nat.le_refl _)
  rename_i h7;rw[if_neg h7];split at h0
  ·simp[RM.ab]at h0
  rename_i h9;rw[if_neg h9];exact loopR_inv hB.2.1 (fun m hm h1 h2=>blkR_inv body (d+1) m hok'.2.1 hg'.2.2.1 hm h1 h2) _ _ _ hA.2.1 (hB.1.mono (Nat.zero_le _) (Nat.zero_le _)) (by simpa using h6) h0
theorem blkR_inv:∀(l:List St) (d:Nat) (m:RM),okL l d→(∀x∈l,goS x)→RInv 0 0 m→m.st=0→(blkR C l m).st=0→RInv 0 0 (blkR C l m)
 | [],d,m,hok,hg,h,hm,h0=>by rw[blkR];exact h
 |t::l,d,m,hok,hg,h,hm,h0=>by
  rw[blkR,if_neg (by simp[hm])]at h0⊢;by_cases h2:(qdo m).st=0
  ·rw[if_pos h2]at h0⊢;have hT:=tickR_inv h h2;by_cases h3:(stR C t (qdo m)).st=0
   ·exact blkR_inv l d _ (fun x hx=>hok x (by simp[hx])) (fun x hx=>hg x (by simp[hx])) (stR_inv t d _ (hok t (by simp)) (hg t (by simp)) hT h2 h3) h3 h0
   ·rw[blkR_dead C l h3]at h0;exact absurd h0 h3
  ·rw[if_neg h2,blkR_dead C l h2]at h0;exact absurd h0 h2
end
end
theorem setArgsR_inv:∀(ps:List Param) (vs:List V) (l:List Pr),(∀v∈vs,qcx v)→(∀q∈l,qcx q.v)→(∀q∈qcv ps vs l,qcx q.v)∧(qcv ps vs l).length≤l.length+ps.length
 | [],vs,l,hv,h=>by cases vs<;>exact⟨h,by simp[qcv]⟩
 |x::ps,[],l,hv,h=>by refine⟨by simpa[qcv]using h,by simp[qcv]⟩
 |x::ps,v::vs,l,hv,h=>by
  rw[qcv];have ih:=setArgsR_inv ps vs (setR l ⟨x.name,v⟩) (fun w hw=>hv w (by simp[hw])) (fun q hq=>by
   rcases setR_mem hq with rfl|hq
   ·exact hv v (by simp)
   ·exact h q hq)
  refine⟨ih.1,?_⟩;have:=setR_len l ⟨x.name,v⟩;simp only[List.length_cons];have:=ih.2;omega
end Go.Cw

namespace Go.Cw
open Go Go.Abs
def firstV:List Pr→List (qac×V)→List (qac×V)
 | [],m=>m
 |p::l,m=>firstV l (if (qbg m p.key).isSome=true then m else qbr m p.key p.v)
theorem firstV_all{P:V→Prop}:∀(l:List Pr) (m:List (qac×V)),(∀q∈l,P q.v)→(∀q∈m,P q.2)→∀q∈firstV l m,P q.2
 | [],m,_,h=>by rw[firstV];exact h
 |p::l,m,hl,h=>by
  rw[firstV];refine firstV_all l _ (fun q hq=>hl q (by simp[hq])) ?_;split
  ·exact h
  ·intro q hq;rcases kSet_mem hq with rfl|hq
   ·exact hl p (by simp)
   ·exact h q hq
def varsOk(l:List Pr):Bool:=l.all fun q=>varOk q.v.k q.v.n q.v.s
def evOk(e:Ex)(st:List Pr)(ft:Foot):Prop:=¬(chkE e 1≠0∨qb7 st=false∨footOk ft.all ft.reads ft.writes=false)
instance (e:Ex) (st:List Pr) (ft:Foot):Decidable (evOk e st ft):=inferInstanceAs (Decidable (¬_))
abbrev msV(vars:List Pr):MS:=⟨firstV vars [],[],[],[],[],0⟩
def endS:EV×MS→V×Eff
 |(.error z,s)=>(V.nil,doneS (.error z,s))
 |(.ok v,s)=>(v,doneS (.ok (),s))
def evalS(fmt:Int→qac)(e:Ex)(vars st:List Pr)(ft:Foot):V×Eff :=
 if evOk e st ft∧varsOk vars=true then endS (evE (cfgR fmt st ft) e (msV vars))else(V.nil,wrongE)
structure EvIn(fmt:Int→qac)(e:Ex)(vs st:List Pr):Prop where
 fmt:∀n,i64 n→qa3 (fmt n)=true
 ex:rngX e
 vars:∀q∈vs,qcx q.v
 st:∀q∈st,qcx q.v
 len:vs.length≤34359738368
theorem evOk_iff{e:Ex}{st:List Pr}{ft:Foot}:evOk e st ft↔chkE e 1=0∧qb7 st=true∧footOk ft.all ft.reads ft.writes=true:=by
 unfold evOk;simp only[not_or,Decidable.not_not,Bool.not_eq_false]
end Go.Cw

namespace Go.Cw
open Go Go.Abs
abbrev MV:=qac→Option AX
def unk:AX:=⟨false,V.nil⟩
def kn(v:V):AX:=⟨true,v⟩
structure XS where
 r:List qac
 w:List qac
 f:Bool
def addS(l:List qac)(s:qac):List qac:=if qd1 l s=true then l else l++[s]
theorem hasK_mem{l:List qac}{s:qac}:qd1 l s=true↔s∈l:=by
 unfold qd1
 induction l with
 |nil=>simp[anyL]
 |cons x l ih =>
  simp only[anyL,Bool.or_eq_true,decide_eq_true_eq,ih,List.mem_cons];exact⟨fun h=>h.imp (fun e=>e.symm) id,fun h=>h.imp (fun e=>e.symm) id⟩
def boAV(b:Bool):AV:=Bo b
abbrev tru(l:List qac):List (qac×Bool):=l.map fun s=>(s,true)
theorem kSet_tru(s:qac):∀(l:List qac),qbr (tru l) s true=tru (addS l s)
 | []=>by simp[qbr,addS,qd1,anyL]
 |x::l=>by
  by_cases h:x=s
  ·subst h;simp[qbr,addS,qd1,anyL]
  ·have ih:=kSet_tru s l;have e:addS (x::l) s=x::addS l s:=by
    have e1:qd1 (x::l) s=qd1 l s:=by simp[qd1,anyL,h]
    unfold addS;rw[e1];split<;>simp
   simp only[tru,List.map_cons,qbr,if_neg h,e]at ih⊢;rw[ih]
theorem addS_nodup{l:List qac}(h:l.Nodup)(s:qac):(addS l s).Nodup:=by
 unfold addS;split
 ·exact h
 ·rename_i hs;exact List.nodup_append.2 ⟨h,by simp,fun a ha b hb=>by simp at hb;subst hb;rintro rfl;exact hs (hasK_mem.2 ha)⟩
theorem mem_addS{l:List qac}{s x:qac}:x∈addS l s↔x∈l∨x=s:=by
 unfold addS;split
 ·rename_i h;exact⟨.inl,fun h'=>h'.elim id fun e=>e▸hasK_mem.1 h⟩
 ·simp
def keyX(wr:Bool)(a:AX)(x:XS):Bool×XS :=
 if a.known=false then(false,⟨x.r,x.w,true⟩)else if keyOk a.v.s=false then(false,x)
 else(true,if wr then⟨x.r,addS x.w a.v.s,x.f⟩else⟨addS x.r a.v.s,x.w,x.f⟩)
def abL:List qac:=[⟨#[97]⟩,⟨#[98]⟩]
def varEx(s:qac):Ex:=.mk 3 0 s []
def qdj(n:Nat):List Ex:=(abL.take n).map varEx
def qcz(vs:List V):List Pr:=(abL.zip vs).map fun p=>⟨p.1,p.2⟩
def apE(fmt:Int→qac)(op:Int)(vs:List V):V×Eff:=evalS fmt (.mk op 0 em (qdj vs.length)) (qcz vs) [] ⟨false,[],[]⟩
def apS(fmt:Int→qac)(op:Int)(vs:List V):AX×Bool:=(kn (apE fmt op vs).1,decide ((apE fmt op vs).2.status=1))
def updF(f:MV)(s:qac)(a:AX):MV:=fun k=>if s=k then some a else f k
def axEq(x y:AX):Bool:=decide (x.known=y.known)&&eqVal x.v y.v
theorem axEq_iff{x y:AX}:axEq x y=true↔x=y:=by
 rcases x with⟨k,a,b,c⟩;rcases y with⟨k',a',b',c'⟩;simp[axEq,eqVal]
def jn(x:AX):Option AX→AX
 |none=>unk
 |some y=>if axEq x y=true then x else unk
def joinF(f g:MV):MV:=fun k=>(f k).map fun x=>jn x (g k)
section
variable (fmt:Int→qac)
mutual
def exE:Ex→MV→XS→(AX×Bool)×XS
 | .mk op n s args,f,x =>
  if op=1 then((kn (vI n),true),x)
  else if op=2 then((kn (vS s),true),x)
  else if op=3 then(((f s).getD unk,true),x)
  else match exL args f x with
   |(none,x')=>((unk,false),x')
   |(some l,x') =>
    if op=22∨op=23∨op=24 then((unk,(keyX false (l.headD unk) x').1),(keyX false (l.headD unk) x').2)
    else if l.all (·.known)=false then((unk,true),x')
    else(apS fmt op (l.map (·.v)),x')
def exL:List Ex→MV→XS→Option (List AX)×XS
 | [],_,x=>(some [],x)
 |e::l,f,x=>match exE e f x with
  |((_,false),x')=>(none,x')
  |((a,true),x')=>match exL l f x' with
   |(none,x'')=>(none,x'')
   |(some r,x'')=>(some (a::r),x'')
end
theorem exE_eq(e:Ex)(f:MV)(x:XS):exE fmt e f x =
  if e.op=1 then((kn (vI e.n),true),x)
  else if e.op=2 then((kn (vS e.s),true),x)
  else if e.op=3 then(((f e.s).getD unk,true),x)
  else match exL fmt e.args f x with
   |(none,x')=>((unk,false),x')
   |(some l,x') =>
    if e.op=22∨e.op=23∨e.op=24 then((unk,(keyX false (l.headD unk) x').1),(keyX false (l.headD unk) x').2)
    else if l.all (·.known)=false then((unk,true),x')
    else(apS fmt e.op (l.map (·.v)),x'):=by cases e;rw[exE];rfl
def cntX(body:MV→XS→Option MV×XS)(name:qac):Nat→Int→MV→XS→Option MV×XS
 | 0,_,f,x=>(some f,x)
 |n+1,i,f,x=>match body (updF f name (kn (vI i))) x with
  |(none,x')=>(none,x')
  |(some f',x')=>cntX body name n (i+1) f' x'
def repX(body:MV→XS→Option MV×XS)(name:qac):Nat→MV→XS→Option MV×XS
 | 0,f,x=>(some f,x)
 |n+1,f,x=>match body (updF f name unk) x with
  |(o,x')=>if x'.f=true then(none,x')else match o with
   |none=>(some f,x')
   |some f'=>repX body name n (joinF f f') x'
def brX(r1:Option MV×XS)(e:XS→Option MV×XS):Option MV×XS :=
 if r1.2.f=true then(none,r1.2)
 else if (e r1.2).2.f=true then(none,(e r1.2).2)
 else(match r1.1,(e r1.2).1 with
  |none,o=>o
  |some f,none=>some f
  |some f,some g=>some (joinF f g),(e r1.2).2)
mutual
def exSt:St→MV→XS→Option MV×XS
 | .mk op name mx a b body els,f,x =>
  if op=8 then(none,x)
  else match exE fmt a f x with
  |((_,false),x1)=>(none,x1)
  |((va,true),x1) =>
   if op=1∨op=2 then(some (updF f name va),x1)
   else if op=7 then(some f,x1)
   else if op=4 then(if (keyX true va x1).1 then some f else none,(keyX true va x1).2)
   else if op=5 then
    (if va.known=true∧va.v.n=1 then exBl body f x1
    else if va.known=true then exBl els f x1
    else brX (exBl body f x1) fun x=>exBl els f x)
   else match exE fmt b f x1 with
   |((_,false),x2)=>(none,x2)
   |((vb,true),x2) =>
    if op=3 then(if (keyX true va x2).1 then some f else none,(keyX true va x2).2)
    else if va.known=true∧vb.known=true then
     (if va.v.n<vb.v.n∧((qb4 vb.v.n va.v.n).2≠0∨mx<(qb4 vb.v.n va.v.n).1)then(none,x2)
     else cntX (fun f x=>exBl body f x) name (vb.v.n - va.v.n).toNat va.v.n f x2)
    else repX (fun f x=>exBl body f x) name mx.toNat f x2
def exBl:List St→MV→XS→Option MV×XS
 | [],f,x=>(some f,x)
 |t::l,f,x=>match exSt t f x with
  |(none,x')=>(none,x')
  |(some f',x')=>exBl l f' x'
end
theorem exSt_eq(t:St)(f:MV)(x:XS):exSt fmt t f x =
  if t.op=8 then(none,x)
  else match exE fmt t.a f x with
  |((_,false),x1)=>(none,x1)
  |((va,true),x1) =>
   if t.op=1∨t.op=2 then(some (updF f t.name va),x1)
   else if t.op=7 then(some f,x1)
   else if t.op=4 then(if (keyX true va x1).1 then some f else none,(keyX true va x1).2)
   else if t.op=5 then
    (if va.known=true∧va.v.n=1 then exBl fmt t.body f x1
    else if va.known=true then exBl fmt t.els f x1
    else brX (exBl fmt t.body f x1) fun x=>exBl fmt t.els f x)
   else match exE fmt t.b f x1 with
   |((_,false),x2)=>(none,x2)
   |((vb,true),x2) =>
    if t.op=3 then(if (keyX true va x2).1 then some f else none,(keyX true va x2).2)
    else if va.known=true∧vb.known=true then
     (if va.v.n<vb.v.n∧((qb4 vb.v.n va.v.n).2≠0∨t.max<(qb4 vb.v.n va.v.n).1)then(none,x2)
     else cntX (fun f x=>exBl fmt t.body f x) t.name (vb.v.n - va.v.n).toNat va.v.n f x2)
    else repX (fun f x=>exBl fmt t.body f x) t.name t.max.toNat f x2:=by cases t;rw[exSt];rfl
end
def initF:List Param→List V→MV→MV
 |p::ps,v::vs,f=>initF ps vs (updF f p.name (kn v))
 |_,_,f=>f
def statS(fmt:Int→qac)(p:Proc)(args:List V):Foot×Int :=
 if qbv p≠0∨qcl p args≠0 then(⟨false,[],[]⟩,1)
 else if (exBl fmt p.body (initF p.params args fun _=>none) ⟨[],[],false⟩).2.f=true then(⟨false,[],[]⟩,9)
 else if 64<(exBl fmt p.body (initF p.params args fun _=>none) ⟨[],[],false⟩).2.r.length∨64<(exBl fmt p.body (initF p.params args fun _=>none) ⟨[],[],false⟩).2.w.length then(⟨false,[],[]⟩,2)
 else(⟨false,qdy (exBl fmt p.body (initF p.params args fun _=>none) ⟨[],[],false⟩).2.r,qdy (exBl fmt p.body (initF p.params args fun _=>none) ⟨[],[],false⟩).2.w⟩,0)
end Go.Cw

namespace Go.Cw
open Go Go.Abs
structure YH(P:Program)(l:Nat)(HF:Nat→qab)(HX:Nat→Ex→qab)(stop:Ex→Bool)(n0:Nat):Prop where
 len:∀k,(HF k).length=n0
 lenX:∀k x,(HX k x).length=n0
 und:∀k,hUnder n0 (HF k)=true
 undX:∀k x,hUnder n0 (HX k x)=true
 y:∀k (x:Ex) (L:qab),AYield P l [.agg x.x] (HF k++L) fun r h'=>(stop x=true→r=.ret (Bo false)∧h'=HX k x++L)∧(stop x=false→r=.ret (Bo true)∧h'=HF (k+1)++L)
theorem YH.ext{P:Program}{l:Nat}{HF:Nat→qab}{HX:Nat→Ex→qab}{stop:Ex→Bool}{n0:Nat}(Y:YH P l HF HX stop n0)(L:qab)(hL:hUnder (n0+L.length) L=true):YH P l (fun k=>HF k++L) (fun k x=>HX k x++L) stop (n0+L.length) where
 len:=fun k=>by rw[List.length_append,Y.len]
 lenX:=fun k x=>by rw[List.length_append,Y.lenX]
 und:=fun k=>by rw[qar,qau (by omega) (Y.und k),hL];rfl
 undX:=fun k x=>by rw[qar,qau (by omega) (Y.undX k x),hL];rfl
 y:=fun k x L'=>by simpa[List.append_assoc]using Y.y k x (L++L')
def finY(HF:Nat→qab)(HX:Nat→Ex→qab)(r:Nat×Option Ex):qab:=match r.2 with
 |none=>HF r.1
 |some e=>HX r.1 e
def gM(ms:List (Option Nat)):qab:=ms.map fun|none=>.none|some D=>qd0 D
def dM(ms:List (Option Nat)):List Deferred:=(ms.filterMap id).reverse.map coll
def idxM:Nat→List (Option Nat)→List (Nat×Nat)
 |_,[]=>[]
 |k,none::l=>idxM (k+1) l
 |k,some D::l=>idxM (k+1) l++[(k,D)]
theorem idxM_coll:∀(ms:List (Option Nat)) (k:Nat),(idxM k ms).map (fun p=>coll p.2)=dM ms
 | [],_=>rfl
 |none::l,k=>by simp only[idxM,idxM_coll l];rfl
 |some D::l,k=>by simp[idxM,idxM_coll l,dM]
theorem idxM_ge:∀(ms:List (Option Nat)) (k:Nat) (p:Nat×Nat),p∈idxM k ms→k≤p.1∧p.1<k+ms.length∧(gM ms)[p.1 - k]?=some (qd0 p.2)
 | [],_,p,h=>by simp[idxM]at h
 |none::l,k,p,h=>by
  obtain⟨h1,h2,h3⟩:=idxM_ge l (k+1) p h;refine⟨by omega,by simp;omega,?_⟩;rw[show p.1 - k=(p.1 - (k+1))+1 by omega];exact h3
 |some D::l,k,p,h=>by
  rw[idxM,List.mem_append]at h;rcases h with h|h
  ·obtain⟨h1,h2,h3⟩:=idxM_ge l (k+1) p h;refine⟨by omega,by simp;omega,?_⟩;rw[show p.1 - k=(p.1 - (k+1))+1 by omega];exact h3
  ·simp at h;subst h;refine⟨by simp,by simp,?_⟩;simp[gM]
theorem idxM_nodup:∀(ms:List (Option Nat)) (k:Nat),((idxM k ms).map (·.1)).Nodup
 | [],_=>List.nodup_nil
 |none::l,k=>idxM_nodup l (k+1)
 |some D::l,k=>by
  rw[idxM,List.map_append,List.nodup_append];refine⟨idxM_nodup l (k+1),by simp,fun a ha b hb=>?_⟩;rw[List.mem_map]at ha;obtain⟨p,hp,rfl⟩:=ha;have:=(idxM_ge l (k+1) p hp).1;simp at hb;omega
theorem takeA:∀(l:List (Nat×Nat)) (A Z:qab),(∀p,p∈l→A.length≤p.1)→∃Z',takeAll l (A++Z)=A++Z'
 | [],A,Z,_=>⟨Z,rfl⟩
 |p::l,A,Z,h=>by
  rw[takeAll,List.set_append_right _ _ (h p (by simp))];exact takeA l A _ fun q hq=>h q (by simp[hq])
theorem gM_app(a b:List (Option Nat)):gM (a++b)=gM a++gM b:=by simp[gM]
theorem dM_snoc(ms:List (Option Nat))(D:Nat):dM (ms++[none,none,some D])=coll D::dM ms:=by simp[dM,List.filterMap_append]
theorem gM_und(ms:List (Option Nat))(m:Nat):hUnder m (gM ms)=true:=by
 rw[hUnder_iff];intro o ho;simp only[gM,List.mem_map]at ho;obtain⟨x,_,rfl⟩:=ho;cases x<;>rfl
section
variable {P:Program} {E:Ent} {p:Tmp} {asg body:Code}
def recA(E:Ent)(e:Env)(p:Tmp)(asg body:Code)(l D:Nat)(fn:FuncId)(st:LoopState)(pe:Option Code):AObj:=.raw l (recO st pe fn #[p] asg body D) (slots E.N e)
def roundJ(E:Ent)(idx:Nat)(r0 rb rd:AObj)(R:AEnd→qab→Prop):AExit→List Deferred→Env→Prop
 | .normal,_,e=>e.h[idx]?=some rb∧∃h',Wk E ⟨[],e.h.set idx r0⟩ ⟨[],h'⟩∧R (.ret (.val (.bool true))) h'
 | .ret,_,e=>e.h[idx]?=some rb∧∃h',Wk E ⟨[],e.h.set idx rd⟩ ⟨[],h'⟩∧R (.ret (.val (.bool false))) h'
 |_,_,_=>False
theorem awpI_rangeY{g:Operand}{gf:FuncId}{caps:List AV}{Q:AExit→List Deferred→Env→Prop}{ds:List Deferred}{e:Env}(hg:e.get g=.fn (.func gf) [] caps)(hcaps:∀H,qbi H caps=caps)
  (B:Nat→qab) (X:Nat→Ex→qab) (stop:Ex→Bool) (xs:List Ex) (k n0:Nat) (hB:e.h=B k) (len:∀j,(B j).length=n0) (lenX:∀j x,(X j x).length=n0) (und:∀j,hUnder n0 (B j)=true) (undX:∀j x,hUnder n0 (X j x)=true)
  (hsl:qao n0 (slots E.N e)=true) (hp:p<E.N)
  (hit:∀(l:Nat) (L:qab) (HX:Nat→Ex→qab) (n1:Nat),YH P l (fun j=>B j++L) HX stop n1→ACalls P gf ([.fn (.yield l) [] []]++caps) (B k++L) fun r h'=>r=.ret (.tuple [])∧h'=finY (fun j=>B j++L) HX (scan stop xs k))
  (hround:∀(E':Ent) (l D j:Nat) (x:Ex) (L:qab) (r0 rb rd:AObj),(∀m,n0≤m→r0.under m=true∧rb.under m=true∧rd.under m=true)→E'.N=E.N→E'.h=B j++qd0 D::r0::L→hUnder E'.h.length E'.h=true→(AV.agg x.x).bd →
   AWpI P E' (some l) asg (thenI (fun ds e1=>ds=[]∧e1.h[n0+1]?=some r0 ∧
    AWpI P E' (some l) body (roundJ E' (n0+1) r0 rb rd fun r h' =>
     (stop x=true→r=.ret (Bo false)∧h'=X j x++qd0 D::rd::L)∧(stop x=false→r=.ret (Bo true)∧h'=B (j+1)++qd0 D::r0::L))
     [] ⟨e1.t,e1.h.set (n0+1) rb⟩) (fun _ _ _=>False)) [] ⟨(p,.agg x.x)::qdz 0 (slots E.N e),E'.h⟩)
  (hdone:∀(j D:Nat) (o:AObj),scan stop xs k=(j,none)→Q .normal (coll D::ds) ⟨e.t,B j++[qd0 D,o]⟩)
  (hstop:∀(j:Nat) (x:Ex) (D:Nat) (o:AObj),scan stop xs k=(j,some x)→Q .ret (coll D::ds) ⟨e.t,X j x++[qd0 D,o]⟩) :
  AWpI P E none (.rangeFunc g #[p] asg body) Q ds e:=by
 refine awpI_range hg fun fn D l=>?_;have hL:∀st pe,hUnder (n0+2) [qd0 D,recA E e p asg body l D fn st pe]=true:=fun st pe=>by
  simp only[hUnder,qd0,recA,AObj.under,qao,Bool.true_and,Bool.and_true];exact qci (by omega) _ hsl
 have hnl:qbi (e.h++[qd0 D,.raw l (recO .ready none fn #[p] asg body D) (slots E.N e)]) ([.fn (.yield l) [] []]++caps)=[.fn (.yield l) [] []]++caps:=by
  have:∀(a b:List AV) H,qbi H (a++b)=qbi H a++qbi H b:=fun a b H=>by
   induction a with
   |nil=>rfl
   |cons x a ih=>simp[qbi,ih]
  rw[this,hcaps];simp[qbi,AV.norm]
 rw[hnl,hB];have Y:YH P l (fun j=>B j++[qd0 D,recA E e p asg body l D fn .ready none]) (fun j x=>X j x++[qd0 D,recA E e p asg body l D fn .done (some .ret)]) stop (n0+2):={
  len:=fun j=>by simp[len]
  lenX:=fun j x=>by simp[lenX]
  und:=fun j=>by rw[qar,qau (by omega) (und j),hL];rfl
  undX:=fun j x=>by rw[qar,qau (by omega) (undX j x),hL];rfl
  y:=fun j x L=>by
   have hidx:(B j++[qd0 D,recA E e p asg body l D fn .ready none]++L)[n0+1]?=some (.raw l (recO .ready none fn #[p] asg body D) (slots E.N e)):=by
    rw[List.append_assoc,List.getElem?_append_right (by rw[len];omega),len,show n0+1 - n0=1 by omega];rfl
   refine ayield_of hidx (by simpa[slots]using hp) fun E' hN hh hu hbd _=>?_;have hN':E'.N=E.N:=by rw[hN];simp[slots]
   have hh':E'.h=B j++qd0 D::recA E e p asg body l D fn .ready none::L:=by rw[hh];simp
   have hun:∀st pe m,n0≤m→(recA E e p asg body l D fn st pe).under m=true:=fun st pe m hm=>qci hm _ hsl;have:=hround E' l D j x L _ (recA E e p asg body l D fn .busy none) (recA E e p asg body l D fn .done (some .ret)) (fun m hm=>⟨hun _ _ m hm,hun _ _ m hm,hun _ _ m hm⟩) hN' hh' (by rw[hh];exact hu) hbd;have hJ:∀R,roundJ E' (n0+1) (recA E e p asg body l D fn .ready none) (recA E e p asg body l D fn .busy none) (recA E e p asg body l D fn .done (some .ret)) R=roundI E' (n0+1) l fn #[p] asg body D (slots E.N e) R:=fun R=>by
    funext x ds e;cases x<;>rfl
   rw[hJ,hh']at this;simpa[recA]using this }
 refine(hit l [qd0 D,recA E e p asg body l D fn .ready none] _ (n0+2) Y).mono ?_;rintro r h' ⟨rfl,rfl⟩;refine⟨⟨_,rfl⟩,?_⟩;rcases hsc:scan stop xs k with⟨j,_|x⟩
 ·refine⟨.ready,none,by simp,?_,?_⟩
  ·simp only[finY];rw[List.getElem?_append_right (by rw[len,len];omega),len,len,show n0+1 - n0=1 by omega];rfl
  ·simp only[finY];rw[List.set_append_right _ _ (by rw[len,len];omega),len,len,show n0+1 - n0=1 by omega];exact hdone j D _ hsc
 ·refine⟨.done,some .ret,by simp,?_,?_⟩
  ·simp only[finY];rw[List.getElem?_append_right (by rw[len,lenX];omega),len,lenX,show n0+1 - n0=1 by omega];rfl
  ·simp only[finY];rw[List.set_append_right _ _ (by rw[len,lenX];omega),len,lenX,show n0+1 - n0=1 by omega];exact awpI_ret (hstop j x D _ hsc)
end
end Go.Cw

namespace Go.Cw
open Go Go.Abs
abbrev xC(ir iw:Nat)(f:Bool):List AV:=[.mapr ir,.mapr iw,Bo f]
abbrev setO(l:List qac):AObj:=.map (kAV boAV (tru l))
theorem kvSet_bo(l:List qac)(s:qac):qb5 (kvSet ((tru l).map fun p=>(p.1,boAV p.2)) s (.val (.bool true)))=kAV boAV (tru (addS l s)):=by
 rw[←kSet_tru];exact kvSet_map boAV (tru l) s true
structure PH(tb:AObj)(g p ir iw:Nat)(K:XS→qab)(n0:Nat):Prop where
 len:∀x,(K x).length=n0
 hg:g<n0
 hp:p<n0
 hr:ir<n0
 hw:iw<n0
 lg:∀x,(K x)[g]?=some tb
 lp:∀x,(K x)[p]?=some (.cells (xC ir iw x.f))
 lr:∀x,(K x)[ir]?=some (setO x.r)
 lw:∀x,(K x)[iw]?=some (setO x.w)
 sp:∀(x:XS) (b:Bool),(K x).set p (.cells (xC ir iw b))=K ⟨x.r,x.w,b⟩
 sr:∀(x:XS) (l:List qac),(K x).set ir (setO l)=K ⟨l,x.w,x.f⟩
 sw:∀(x:XS) (l:List qac),(K x).set iw (setO l)=K ⟨x.r,l,x.f⟩
 und:∀x,hUnder n0 (K x)=true
section
variable {tb:AObj} {g p ir iw:Nat} {K:XS→qab} {n0:Nat}
theorem PH.gl(Y:PH tb g p ir iw K n0){i:Nat}(hi:i<n0)(q:XS)(l:qab):(K q++l)[i]?=(K q)[i]?:=List.getElem?_append_left (by rw[Y.len];exact hi)
theorem PH.lg'(Y:PH tb g p ir iw K n0)(q:XS)(l:qab):(K q++l)[g]?=some tb:=by rw[Y.gl Y.hg,Y.lg]
theorem PH.lp'(Y:PH tb g p ir iw K n0)(q:XS)(l:qab):(K q++l)[p]?=some (.cells (xC ir iw q.f)):=by rw[Y.gl Y.hp,Y.lp]
theorem PH.lr'(Y:PH tb g p ir iw K n0)(q:XS)(l:qab):(K q++l)[ir]?=some (setO q.r):=by rw[Y.gl Y.hr,Y.lr]
theorem PH.lw'(Y:PH tb g p ir iw K n0)(q:XS)(l:qab):(K q++l)[iw]?=some (setO q.w):=by rw[Y.gl Y.hw,Y.lw]
theorem PH.sl(Y:PH tb g p ir iw K n0){i:Nat}(hi:i<n0)(q:XS)(y:AObj)(l:qab):(K q++l).set i y=(K q).set i y++l:=List.set_append_left _ _ (by rw[Y.len];exact hi)
theorem PH.sp'(Y:PH tb g p ir iw K n0)(q:XS)(b:Bool)(l:qab):(K q++l).set p (.cells (xC ir iw b))=K ⟨q.r,q.w,b⟩++l:=by rw[Y.sl Y.hp,Y.sp]
theorem PH.sr'(Y:PH tb g p ir iw K n0)(q:XS)(x:List qac)(l:qab):(K q++l).set ir (setO x)=K ⟨x,q.w,q.f⟩++l:=by rw[Y.sl Y.hr,Y.sr]
theorem PH.sw'(Y:PH tb g p ir iw K n0)(q:XS)(x:List qac)(l:qab):(K q++l).set iw (setO x)=K ⟨q.r,x,q.f⟩++l:=by rw[Y.sl Y.hw,Y.sw]
theorem PH.und'(Y:PH tb g p ir iw K n0)(q:XS):hUnder (K q).length (K q)=true:=by rw[Y.len];exact Y.und q
theorem PH.loc(Y:PH tb g p ir iw K n0)(q:XS)(k:Nat)(l:qab):(K q++l)[n0+k]?=l[k]?:=by rw[List.getElem?_append_right (by rw[Y.len];omega),Y.len,show n0+k - n0=k by omega]
theorem PH.loc0(Y:PH tb g p ir iw K n0)(q:XS)(l:qab):(K q++l)[n0]?=l[0]?:=Y.loc q 0 l
theorem PH.sloc(Y:PH tb g p ir iw K n0)(q:XS)(k:Nat)(y:AObj)(l:qab):(K q++l).set (n0+k) y=K q++l.set k y:=by
 rw[List.set_append_right _ _ (by rw[Y.len];omega),Y.len,show n0+k - n0=k by omega]
theorem PH.sloc0(Y:PH tb g p ir iw K n0)(q:XS)(y:AObj)(l:qab):(K q++l).set n0 y=K q++l.set 0 y:=Y.sloc q 0 y l
theorem PH.undA(Y:PH tb g p ir iw K n0)(q:XS)(l:qab)(k:Nat):hUnder (n0+k) (K q++l)=hUnder (n0+k) l:=by rw[qar,qau (by omega) (Y.und q)];rfl
theorem PH.ext(Y:PH tb g p ir iw K n0)(L:qab)(hL:hUnder (n0+L.length) L=true):PH tb g p ir iw (fun q=>K q++L) (n0+L.length) where
 len:=fun s=>by rw[List.length_append,Y.len]
 hg:=by have:=Y.hg;omega
 hp:=by have:=Y.hp;omega
 hr:=by have:=Y.hr;omega
 hw:=by have:=Y.hw;omega
 lg:=fun q=>Y.lg' q L
 lp:=fun q=>Y.lp' q L
 lr:=fun q=>Y.lr' q L
 lw:=fun q=>Y.lw' q L
 sp:=fun q b=>Y.sp' q b L
 sr:=fun q x=>Y.sr' q x L
 sw:=fun q x=>Y.sw' q x L
 und:=fun q=>by rw[qar,qau (by omega) (Y.und q),hL];rfl
end
structure VM(K:XS→qab)(i:Nat)(f:MV)(l:List (qac×AX)):Prop where
 lm:∀x,(K x)[i]?=some (.map (kAV qc7 l))
 nod:(keysM l).Nodup
 get:∀k,qbg l k=f k
end Go.Cw
