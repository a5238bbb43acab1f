/- Part 30 of a proof: CwVd, CwVe, CwVf, CwUb, CwUc -/
import Derived.Lib.ItoaLen
import Derived.Test.YtcjolkgjhcdhcaaGreatDoorR25
import Derived.Test.YtcjolkgjhcdhcaaGreatDoorR28
import Derived.Test.YtcjolkgjhcdhcaaGreatDoorR29
set_option linter.all false

namespace Go.Cw
open Go Go.Abs
theorem W64_hi {n:Int} (h:9223372036854775807<n) (h2:n<27670116110564327424):W64 n=n - 18446744073709551616:=by
 unfold W64;simp only [IntKind.wrap,IntKind.bits,IntKind.signed];simp;omega
theorem W64_lo {n:Int} (h:n < -9223372036854775808) (h2:-27670116110564327424≤n):W64 n=n+18446744073709551616:=by
 unfold W64;simp only [IntKind.wrap,IntKind.bits,IntKind.signed];simp;omega
theorem W64_in {n:Int} (h:i64 n):W64 n=n:=W64_id (by have:=h.1;omega) (by have:=h.2;omega)
theorem W64_mod (n:Int):∃ k:Int,W64 n=n+18446744073709551616 * k:=by
 unfold W64;simp only [IntKind.wrap,IntKind.bits,IntKind.signed];simp;split
 · exact ⟨-(n / 18446744073709551616) - 1,by omega⟩
 · exact ⟨-(n / 18446744073709551616),by omega⟩
theorem add_ref {a b:Int} (ha:i64 a) (hb:i64 b):((0<b∧W64 (9223372036854775807 - b)<a)∨(b<0∧a<W64 (-9223372036854775808 - b)))↔((0<b∧W64 (a+b)<a)∨(b<0∧a<W64 (a+b))):=by
 obtain ⟨a1,a2⟩:=ha;obtain ⟨b1,b2⟩:=hb;by_cases h:0<b
 ·
  rw [W64_in (n:=9223372036854775807 - b) ⟨by omega,by omega⟩];by_cases h2:a+b≤9223372036854775807
  · rw [W64_in (n:=a+b) ⟨by omega,h2⟩];omega
  · rw [W64_hi (n:=a+b) (by omega) (by omega)];omega
 ·
  by_cases h0:b=0
  · omega
  ·
   rw [W64_in (n:=-9223372036854775808 - b) ⟨by omega,by omega⟩];by_cases h2:-9223372036854775808≤a+b
   · rw [W64_in (n:=a+b) ⟨h2,by omega⟩];omega
   · rw [W64_lo (n:=a+b) (by omega) (by omega)];omega
theorem sub_ref {a b:Int} (ha:i64 a) (hb:i64 b):((b<0∧W64 (9223372036854775807+b)<a)∨(0<b∧a<W64 (-9223372036854775808+b)))↔((0<b∧a<W64 (a - b))∨(b<0∧W64 (a - b)<a)):=by
 obtain ⟨a1,a2⟩:=ha;obtain ⟨b1,b2⟩:=hb;by_cases h:0<b
 ·
  rw [W64_in (n:=-9223372036854775808+b) ⟨by omega,by omega⟩];by_cases h2:-9223372036854775808≤a - b
  · rw [W64_in (n:=a - b) ⟨h2,by omega⟩];omega
  · rw [W64_lo (n:=a - b) (by omega) (by omega)];omega
 ·
  by_cases h0:b=0
  · omega
  ·
   rw [W64_in (n:=9223372036854775807+b) ⟨by omega,by omega⟩];by_cases h2:a - b≤9223372036854775807
   · rw [W64_in (n:=a - b) ⟨by omega,h2⟩];omega
   · rw [W64_hi (n:=a - b) (by omega) (by omega)];omega
theorem neg_ref {a:Int} (ha:i64 a):qcq 0 a=qdo a:=by
 obtain ⟨a1,a2⟩:=ha;unfold qcq qdo;have e:(0:Int) - a = -a:=by omega
 rw [e];by_cases h:a = -9223372036854775808
 ·
  subst h;rw [if_pos rfl,if_pos];rw [W64_hi (n:=- -9223372036854775808) (by omega) (by omega)];omega
 · rw [if_neg h,W64_in (n:=-a) ⟨by omega,by omega⟩,if_neg (by omega)]
def absI (a:Int):Int:=if a<0 then -a else a
theorem U64_abs {a:Int} (ha:i64 a):IntKind.u64.wrap (0 - IntKind.u64.wrap a)=if a<0 then -a else if a=0 then 0 else 18446744073709551616 - a:=by
 obtain ⟨a1,a2⟩:=ha;simp only [IntKind.wrap,IntKind.bits,IntKind.signed];simp;omega
theorem U64_in {a:Int} (h0:0≤a) (h1:a<18446744073709551616):IntKind.u64.wrap a=a:=by
 simp only [IntKind.wrap,IntKind.bits,IntKind.signed];simp;omega
theorem numMul_spec {a b:Int} (ha:i64 a) (hb:i64 b) (h0:a≠0) (h1:b≠0):(i64 (a * b)→numMul a b=(a * b,0))∧(¬ i64 (a * b)→numMul a b=(0,3)):=by
 obtain ⟨a1,a2⟩:=ha;obtain ⟨b1,b2⟩:=hb;unfold numMul;rw [if_neg (by omega)];by_cases hm:a = -1
 ·
  rw [if_pos hm,hm];unfold qdo;have e:(-1:Int) * b = -b:=by omega
  rw [e];unfold i64;by_cases hb2:b = -9223372036854775808
  · rw [if_pos hb2];exact ⟨fun h=>by omega,fun _=>rfl⟩
  · rw [if_neg hb2];exact ⟨fun h=>by rw [W64_in h],fun h=>by omega⟩
 rw [if_neg hm];by_cases hn:b = -1
 ·
  rw [if_pos hn,hn];unfold qdo;have e:a * (-1:Int) = -a:=by omega
  rw [e];unfold i64;by_cases ha2:a = -9223372036854775808
  · rw [if_pos ha2];exact ⟨fun h=>by omega,fun _=>rfl⟩
  · rw [if_neg ha2];exact ⟨fun h=>by rw [W64_in h],fun h=>by omega⟩
 rw [if_neg hn];refine ⟨fun h=>?_,fun h=>?_⟩
 · rw [W64_in h,Int.mul_tdiv_cancel a h1,W64_in ⟨a1,a2⟩,if_neg (by simp)]
 ·
  rw [if_pos];intro he;obtain ⟨k,hk⟩:=W64_mod (a * b);obtain ⟨w,hw⟩:∃ w,W64 (a * b)=w:=⟨_,rfl⟩
  have hwi:i64 w:=by rw [← hw];exact i64_w _
  rw [hw] at he hk;have hq:(w.tdiv b).natAbs≤w.natAbs:=by rw [Int.natAbs_tdiv];exact Nat.div_le_self _ _
  have hq2:b≠-1:=hn;have hqi:i64 (w.tdiv b):=by
   obtain ⟨w1,w2⟩:=hwi;have hbn:2≤b.natAbs∨b=1:=by omega
   rcases hbn with hbn | hbn
   ·
    have:(w.tdiv b).natAbs≤w.natAbs / 2:=by
     rw [Int.natAbs_tdiv];exact Nat.div_le_div_left hbn (by decide)
    exact ⟨by omega,by omega⟩
   · rw [hbn,Int.tdiv_one];exact ⟨w1,w2⟩
  rw [W64_in hqi] at he;have hd:=Int.mul_tdiv_add_tmod w b;rw [he,Int.mul_comm b a] at hd;have hr:(w.tmod b).natAbs<b.natAbs:=by
   rw [Int.natAbs_tmod];exact Nat.mod_lt _ (by omega)
  have hkz:k=0:=by omega
  subst hkz;apply h;rw [← show w=a * b by omega];exact hwi
theorem mul_ref {a b:Int} (ha:i64 a) (hb:i64 b) (h0:a≠0) (h1:b≠0) (L:Int) (hL:L=if (decide (a<0)≠decide (b<0)) then 9223372036854775808 else 9223372036854775807):L.tdiv (absI b)<absI a↔¬ i64 (a * b):=by
 have hbp:0<absI b:=by unfold absI;split<;>omega
 have hap:0<absI a:=by unfold absI;split<;>omega
 have hL0:0≤L:=by rw [hL];split<;>omega
 rw [Int.tdiv_eq_ediv_of_nonneg hL0,Int.ediv_lt_iff_lt_mul hbp];have hp:absI a * absI b=if (decide (a<0)≠decide (b<0)) then -(a * b) else a * b:=by
  unfold absI;by_cases ha':a<0<;>by_cases hb':b<0<;>simp [ha',hb',Int.neg_mul,Int.mul_neg]
 have hpos:0<absI a * absI b:=Int.mul_pos hap hbp;rw [hp] at hpos ⊢;rw [hL];unfold i64;obtain ⟨p,hpp⟩:∃ p,a * b=p:=⟨_,rfl⟩
 rw [hpp] at hpos ⊢;split
 ·
  rename_i h;rw [if_pos h] at hpos;omega
 ·
  rename_i h;rw [if_neg h] at hpos;omega
def dig (u:Nat):qac:=⟨#[UInt8.ofNat (48+u % 10)]⟩
theorem dec_step {u:Nat} (h:10≤u):Lib.decDigits u=Lib.decDigits (u / 10)++[UInt8.ofNat (48+u % 10)]:=by
 rw [Lib.decDigits,dif_neg (by omega)]
theorem dec_one {u:Nat} (h:u<10):Lib.decDigits u=[UInt8.ofNat (48+u)]:=by
 rw [Lib.decDigits,dif_pos h]
def digL (u:Nat) (s:qac):List UInt8:=if u=0∧s≠em then bl s else Lib.decDigits u++bl s
theorem digL_step {u:Nat} {s:qac} (h:0<u∨s=em):digL (u / 10) (dig u++s)=digL u s:=by
 have hne:dig u++s≠em:=fun e=>by
  have:=congrArg ByteArray.size e;rw [ByteArray.size_append] at this;have h1:(dig u).size=1:=rfl;have h2:ByteArray.size em=0:=rfl;omega
 have hb:bl (dig u++s)=UInt8.ofNat (48+u % 10)::bl s:=by simp [bl,dig]
 have hr:digL u s=Lib.decDigits u++bl s:=by
  unfold digL;rw [if_neg];rintro ⟨h1,h2⟩;rcases h with h | h
  · omega
  · exact h2 h
 rw [hr];unfold digL;by_cases h10:u<10
 ·
  have e0:u / 10=0:=by omega
  rw [e0,if_pos ⟨rfl,hne⟩,hb,dec_one h10];have:u % 10=u:=by omega
  rw [this];rfl
 ·
  rw [if_neg (fun g=>by have:=g.1;omega),hb,dec_step (u:=u) (by omega),List.append_assoc];rfl
theorem digL_len (u:Nat) (s:qac):s.size≤(digL u s).length:=by
 have h:(bl s).length=s.size:=rfl;unfold digL;split
 · omega
 · simp;omega
theorem digL_end {s:qac} (h:s≠em):digL 0 s=bl s:=by
 unfold digL;rw [if_pos ⟨rfl,h⟩]
theorem bl_inj {a b:qac} (h:bl a=bl b):a=b:=by
 cases a with
 | mk x=>cases b with
  | mk y=>simp [bl] at h;subst h;rfl
end Go.Cw

namespace Go.Cw
open Go Go.Abs
structure RInv (r p:Nat) (m:RM):Prop where
 vr:∀ q∈m.vars,qdt q.v
 wr:∀ q∈m.own,qdt q.v
 s0:0≤m.steps
 s1:m.steps≤16384
 rd:((m.reads.length+r:Nat):Int)≤8192 * m.steps+8192
 pt:((m.puts.length+p:Nat):Int)≤m.steps
 ow:((m.own.length+p:Nat):Int)≤m.steps
 va:((m.vars.length+p:Nat):Int)≤m.steps+34359738368
 ot:m.out.length≤16
theorem RInv.mono {r p r' p':Nat} {m:RM} (h:RInv r p m) (h1:r'≤r) (h2:p'≤p):RInv r' p' m :=
 ⟨h.vr,h.wr,h.s0,h.s1,by have:=h.rd;omega,by have:=h.pt;omega,by have:=h.ow;omega,by have:=h.va;omega,h.ot⟩
theorem RInv.lenR {r p:Nat} {m:RM} (h:RInv r p m):m.reads.length≤134225920:=by have:=h.rd;have:=h.s1;omega
theorem RInv.lenP {r p:Nat} {m:RM} (h:RInv r p m):m.puts.length≤16384:=by have:=h.pt;have:=h.s1;omega
theorem RInv.lenO {r p:Nat} {m:RM} (h:RInv r p m):m.own.length≤16384:=by have:=h.ow;have:=h.s1;omega
theorem RInv.lenV {r p:Nat} {m:RM} (h:RInv r p m):m.vars.length≤34359754752:=by have:=h.va;have:=h.s1;omega
theorem setR_len (l:List Pr) (p:Pr):(setR l p).length≤l.length+1:=by
 have:=posP_le p.key l;unfold setR restP;split<;>simp<;>omega
theorem setR_mem {l:List Pr} {p q:Pr} (h:q∈setR l p):q=p∨q∈l:=by
 unfold setR at h;simp only [List.mem_append,List.mem_cons] at h;rcases h with h | h | h
 · exact .inr (List.mem_of_mem_take h)
 · exact .inl h
 · exact .inr (List.mem_of_mem_drop h)
theorem arithR_eq (op a b:Int):qd9 op a b=qcf (arithR op a b):=by
 unfold qd9 arithR;split
 · rfl
 split
 · rfl
 split
 · rfl
 split<;>rfl
theorem arithR_i {op a b:Int} (hb:i64 b) (h:(arithR op a b).2=0):i64 (arithR op a b).1:=by
 have:=i64_arith (op:=op) (a:=a) (v:=vI (arithR op a b).1) hb (by rw [arithR_eq];unfold qcf;rw [if_pos h]);exact this.1
theorem calcR_inv {r p:Nat} {m:RM} {x:Int×Int} (h:RInv r p m) (hx:x.2=0→i64 x.1) (h0:(calcR m x).2.st=0):RInv r p (calcR m x).2∧qdt (calcR m x).1:=by
 unfold calcR at h0 ⊢;split at h0
 · simp [RM.ab] at h0
 rename_i h4;split at h0
 · simp [RM.ab] at h0
 rename_i h5;rw [if_neg h4,if_neg h5];exact ⟨h,rng_vI (hx (by simpa using h5))⟩
section
variable {C:Cfg} (hC:rngC C)
include hC
theorem fetchR_inv {r p:Nat} {m:RM} (h:RInv (r+1) p m) (k:qac) (h0:(qbi C m k).2.st=0):RInv r p (qbi C m k).2∧qdt (qbi C m k).1:=by
 unfold qbi at h0 ⊢;split at h0
 · simp [RM.ab] at h0
 rename_i h1;rw [if_neg h1];split at h0
 ·
  rename_i h2;rw [if_pos h2];exact ⟨h.mono (by omega) (Nat.le_refl _),rng_getP h.wr k⟩
 rename_i h2;rw [if_neg h2];split at h0
 · simp [RM.rst] at h0
 rename_i h3;rw [if_neg h3];refine ⟨⟨h.vr,h.wr,h.s0,h.s1,?_,h.pt,h.ow,h.va,h.ot⟩,rng_getP hC k⟩;have:=withS_len m.reads k;have:=h.rd;simp only;omega
theorem twoR_inv {r p:Nat} {m:RM} (h:RInv r p m) {op:Int} {a b:V} (ha:qdt a) (hb:qdt b) (h0:(twoR m op a b).2.st=0):RInv r p (twoR m op a b).2∧qdt (twoR m op a b).1:=by
 unfold twoR at h0 ⊢;split at h0
 ·
  rename_i h1;rw [if_pos h1];split at h0
  ·
   rename_i h2;rw [if_pos h2];exact calcR_inv h (fun hz=>arithR_i hb.1 hz) h0
  · simp [RM.ab] at h0
 rename_i h1;rw [if_neg h1];split at h0
 ·
  rename_i h2;rw [if_pos h2];split at h0
  · rename_i h3;rw [if_pos h3];exact ⟨h,rng_vB _⟩
  · simp [RM.ab] at h0
 rename_i h2;rw [if_neg h2];split at h0
 ·
  rename_i h3;rw [if_pos h3];split at h0
  · rename_i h4;rw [if_pos h4];exact ⟨h,rng_vB _⟩
  · simp [RM.ab] at h0
 rename_i h3;rw [if_neg h3];split at h0
 ·
  rename_i h4;rw [if_pos h4];split at h0
  ·
   rename_i h5;rw [if_pos h5];split at h0
   · simp [RM.ab] at h0
   ·
    rename_i h6;rw [if_neg h6];refine ⟨h,⟨by simp [vS],by simp [vS]⟩,?_⟩;have h7:W64 ((a.s.size:Int)+b.s.size)=(a.s.size:Int)+b.s.size:=W64_id (by omega) (by have:=ha.2;have:=hb.2;omega);rw [h7] at h6;simp only [vS,ByteArray.size_append];omega
  · simp [RM.ab] at h0
 rename_i h4;rw [if_neg h4];split at h0
 · rename_i h5;rw [if_pos h5];exact ⟨h,rng_vB _⟩
 · simp [RM.ab] at h0
theorem oneR_inv (hf:∀ n,i64 n→qa7 (C.fmt n)=true) {r p:Nat} {m:RM} (h:RInv (r+1) p m) {op:Int} {a:V} (ha:qdt a) (h0:(oneR C m op a).2.st=0):RInv r p (oneR C m op a).2∧qdt (oneR C m op a).1:=by
 have h':=h.mono (show r≤r+1 by omega) (Nat.le_refl p);unfold oneR at h0 ⊢;split at h0
 · simp [RM.ab] at h0
 rename_i h1;rw [if_neg h1];split at h0
 ·
  rename_i h2;rw [if_pos h2];exact calcR_inv h' (fun _=>i64_neg _) h0
 rename_i h2;rw [if_neg h2];split at h0
 · rename_i h3;rw [if_pos h3];exact ⟨h',rng_vB _⟩
 rename_i h3;rw [if_neg h3];split at h0
 ·
  rename_i h4;rw [if_pos h4];have hp:=hf _ ha.1;unfold qa7 at hp;simp only [Bool.and_eq_true,decide_eq_true_eq] at hp;exact ⟨h',⟨by simp [vS],by simp [vS]⟩,by simp only [vS];omega⟩
 rename_i h4;rw [if_neg h4];split at h0
 ·
  rename_i h5;rw [if_pos h5];exact ⟨h',rng_vI ⟨by omega,by have:=ha.2;omega⟩⟩
 rename_i h5;rw [if_neg h5];simp only at h0 ⊢;split at h0
 · rename_i h6;exact absurd h0 h6
 rename_i h6;rw [if_neg h6];have hF:=fetchR_inv hC h a.s (by simpa using h6);split at h0
 · rename_i h7;rw [if_pos h7];exact ⟨hF.1,rng_vB _⟩
 rename_i h7;rw [if_neg h7];split at h0
 · rename_i h8;rw [if_pos h8];exact ⟨hF.1,⟨by simp,by simp⟩,by simp [em]⟩
 rename_i h8;rw [if_neg h8];by_cases h9:(qbi C m a.s).1.k≠(if op=23 then 2 else 1)
 · rw [if_pos h9] at h0;simp [RM.ab] at h0
 ·
  rw [if_neg h9];exact hF
theorem opR_inv (hf:∀ n,i64 n→qa7 (C.fmt n)=true) {r p:Nat} {m:RM} (h:RInv (r+1) p m) {op:Int} {l:List V} (hl:∀ v∈l,qdt v) (h0:(opR C m op l).2.st=0):RInv r p (opR C m op l).2∧qdt (opR C m op l).1:=by
 unfold opR at h0 ⊢;split at h0
 · exact oneR_inv hC hf h (hl _ (by simp)) h0
 · exact twoR_inv hC (h.mono (by omega) (Nat.le_refl _)) (hl _ (by simp)) (hl _ (by simp)) h0
 · simp [RM.ab] at h0
mutual
theorem evR_inv (hf:∀ n,i64 n→qa7 (C.fmt n)=true):∀ (e:Ex) (m:RM) (r p:Nat),rngX e→RInv (r+nodes e) p m→m.st=0→(evR C e m).2.st=0→RInv r p (evR C e m).2∧qdt (evR C e m).1
 | .mk op n s args,m,r,p,hX,h,hm,h0=>by
  have hX':=(rngX_iff _).1 hX;simp only [Ex.n,Ex.s,Ex.args] at hX';have hn:nodes (.mk op n s args)=nodesL args+1:=nodes_eq _;rw [hn] at h;have h':=h.mono (show r≤r+(nodesL args+1) by omega) (Nat.le_refl p);rw [evR] at h0 ⊢;split at h0
  · rename_i h1;rw [if_pos h1];exact ⟨h',rng_vI hX'.1.1⟩
  rename_i h1;rw [if_neg h1];split at h0
  · rename_i h2;rw [if_pos h2];exact ⟨h',⟨by simp [vS],by simp [vS]⟩,hX'.1.2⟩
  rename_i h2;rw [if_neg h2];split at h0
  ·
   rename_i h3;rw [if_pos h3];split at h0
   · rename_i h4;rw [if_pos h4];exact ⟨h',rng_getP h.vr s⟩
   · simp [RM.ab] at h0
  rename_i h3;rw [if_neg h3];simp only at h0 ⊢;split at h0
  · rename_i h4;exact absurd h0 h4
  rename_i h4;rw [if_neg h4];have hL:=evRL_inv hf args m (r+1) p hX'.2 (h.mono (by omega) (Nat.le_refl _)) hm (by simpa using h4);exact opR_inv hC hf hL.1 hL.2 h0
theorem evRL_inv (hf:∀ n,i64 n→qa7 (C.fmt n)=true):∀ (l:List Ex) (m:RM) (r p:Nat),(∀ x∈l,rngX x)→RInv (r+nodesL l) p m→m.st=0→(evRL C l m).2.st=0→RInv r p (evRL C l m).2∧∀ v∈(evRL C l m).1,qdt v
 | [],m,r,p,hX,h,hm,h0=>by rw [evRL];exact ⟨h.mono (by omega) (Nat.le_refl _),by simp⟩
 | e::l,m,r,p,hX,h,hm,h0=>by
  rw [nodesL_cons] at h;rw [evRL] at h0 ⊢;simp only at h0 ⊢;split at h0
  · rename_i h1;exact absurd h0 h1
  rename_i h1;rw [if_neg h1];have hE:=evR_inv hf e m (r+nodesL l) p (hX e (by simp)) (h.mono (by omega) (Nat.le_refl _)) hm (by simpa using h1);have hL:=evRL_inv hf l _ r p (fun x hx=>hX x (by simp [hx])) hE.1 (by simpa using h1) h0;refine ⟨hL.1,fun v hv=>?_⟩;rcases List.mem_cons.1 hv with rfl | hv
  · exact hE.2
  · exact hL.2 v hv
end
end
theorem tickR_inv {m:RM} (h:RInv 0 0 m) (h0:(qdr m).st=0):RInv 8192 1 (qdr m):=by
 have e:W64 (m.steps+1)=m.steps+1:=W64_id (by have:=h.s0;omega) (by have:=h.s1;omega);unfold qdr at h0 ⊢;rw [e] at h0 ⊢;split at h0
 · simp [RM.ab] at h0
 rename_i h1;rw [if_neg h1];refine ⟨h.vr,h.wr,by have:=h.s0;simp only;omega,by simp only;omega,?_,?_,?_,?_,h.ot⟩
 · have:=h.rd;simp only;omega
 · have:=h.pt;simp only;omega
 · have:=h.ow;simp only;omega
 · have:=h.va;simp only;omega
theorem RInv.var {r p:Nat} {m:RM} (h:RInv r (p+1) m) {v:V} (hv:qdt v) (k:qac):RInv r p { m with vars:=setR m.vars ⟨k,v⟩ }:=by
 refine ⟨fun q hq=>?_,h.wr,h.s0,h.s1,h.rd,by have:=h.pt;simp only;omega,by have:=h.ow;simp only;omega,?_,h.ot⟩
 ·
  rcases setR_mem hq with rfl | hq
  · exact hv
  · exact h.vr q hq
 ·
  have:=setR_len m.vars ⟨k,v⟩;have:=h.va;simp only;omega
theorem RInv.store {C:Cfg} {r p:Nat} {m:RM} (h:RInv r (p+1) m) {v:V} (hv:qdt v) (k:qac) (h0:(storeR C m k v).st=0):RInv r p (storeR C m k v):=by
 unfold storeR at h0 ⊢;split at h0
 · simp [RM.ab] at h0
 rename_i h1;rw [if_neg h1];split at h0
 · simp [RM.rst] at h0
 rename_i h2;rw [if_neg h2];refine ⟨h.vr,fun q hq=>?_,h.s0,h.s1,h.rd,?_,?_,by have:=h.va;simp only;omega,h.ot⟩
 ·
  rcases setR_mem hq with rfl | hq
  · exact hv
  · exact h.wr q hq
 ·
  have:=withS_len m.puts k;have:=h.pt;simp only;omega
 ·
  have:=setR_len m.own ⟨k,v⟩;have:=h.ow;simp only;omega
theorem RInv.emit {r p:Nat} {m:RM} (h:RInv r p m) {v:V} (h0:(emitR m v).st=0):RInv r p (emitR m v):=by
 unfold emitR at h0 ⊢;split at h0
 · simp [RM.ab] at h0
 rename_i h1;rw [if_neg h1];refine ⟨h.vr,h.wr,h.s0,h.s1,h.rd,h.pt,h.ow,h.va,?_⟩;simp only [List.length_append,List.length_singleton];omega
theorem loopR_inv {body:RM→RM} {name:qac} {b:Int} (hb:i64 b) (hB:∀ m,RInv 0 0 m→m.st=0→(body m).st=0→RInv 0 0 (body m)):∀ (f:Nat) (i:Int) (m:RM),i64 i→RInv 0 0 m→m.st=0→(loopR body name b f i m).st=0→RInv 0 0 (loopR body name b f i m)
 | 0,i,m,hi,h,hm,h0=>by rw [loopR];exact h
 | f+1,i,m,hi,h,hm,h0=>by
  rw [loopR] at h0 ⊢;by_cases h1:i<b∧m.st=0
  ·
   rw [if_pos h1] at h0 ⊢;have hw:W64 (i+1)=i+1:=W64_id (by have:=hi.1;omega) (by have:=hb.2;omega);by_cases h2:(qdr m).st=0
   ·
    rw [if_pos h2] at h0 ⊢;have ht:=(tickR_inv h h2).var (p:=0) (rng_vI hi) name;by_cases h3:(body { qdr m with vars:=setR (qdr m).vars ⟨name,vI i⟩ }).st=0
    · exact loopR_inv hb hB f _ _ (by rw [hw];exact ⟨by have:=hi.1;omega,by have:=hb.2;omega⟩) (hB _ (ht.mono (by omega) (Nat.le_refl _)) h2 h3) h3 h0
    ·
     rw [loopR_dead f _ h3] at h0;exact absurd h0 h3
   ·
    rw [if_neg h2,loopR_dead f _ h2] at h0;exact absurd h0 h2
  ·
   rw [if_neg h1] at h0 ⊢;exact h
section
variable {C:Cfg} (hC:rngC C) (hf:∀ n,i64 n→qa7 (C.fmt n)=true)
include hC hf
mutual
theorem stR_inv:∀ (t:St) (d:Nat) (m:RM),okS t d→goS t→RInv 8192 1 m→m.st=0→(stR C t m).st=0→RInv 0 0 (stR C t m)
 | .mk op name mx a b body els,d,m,hok,hg,h,hm,h0=>by
  have hok':=(qcl _ _).1 hok;have hg':=(goS_iff _).1 hg;have hop:=okS_op hok;simp only [St.op,St.a,St.b,St.body,St.els] at hok' hg' hop;rw [stR] at h0 ⊢;split at h0
  · simp [RM.ab] at h0
  rename_i h8;rw [if_neg h8];split at h0
  · rename_i h1;exact absurd h0 h1
  rename_i h1;rw [if_neg h1];have hA:=evR_inv hC hf a m 4097 1 (hg'.1 h8).1 (h.mono (by have:=(hg'.1 h8).2;omega) (Nat.le_refl _)) hm (by simpa using h1);have hA0:=hA.1.mono (Nat.zero_le _) (Nat.zero_le _);split at h0
  · rename_i h2;rw [if_pos h2];exact (hA.1.var hA.2 name).mono (Nat.zero_le _) (Nat.le_refl _)
  rename_i h2;rw [if_neg h2];split at h0
  · rename_i h3;rw [if_pos h3];exact (hA.1.store rng_nil _ h0).mono (Nat.zero_le _) (Nat.le_refl _)
  rename_i h3;rw [if_neg h3];split at h0
  · rename_i h4;rw [if_pos h4];exact hA0.emit h0
  rename_i h4;rw [if_neg h4];split at h0
  ·
   rename_i h5;rw [if_pos h5];split at h0
   · rename_i h6;rw [if_pos h6];exact blkR_inv body (d+1) _ hok'.2.1 hg'.2.2.1 hA0 (by simpa using h1) h0
   · rename_i h6;rw [if_neg h6];exact blkR_inv els (d+1) _ hok'.2.2 hg'.2.2.2 hA0 (by simpa using h1) h0
  rename_i h5;rw [if_neg h5];have hgb:=hg'.2.1 (by omega);split at h0
  · rename_i h6;exact absurd h0 h6
  rename_i h6;rw [if_neg h6];have hB:=evR_inv hC hf b _ 0 1 hgb.1 (hA.1.mono (by have:=hgb.2;omega) (Nat.le_refl _)) (by simpa using h1) (by simpa using h6);split at h0
  · rename_i h7;rw [if_pos h7];exact (hB.1.store hB.2 _ h0).mono (Nat.zero_le _) (Nat.le_refl _)
  rename_i h7;rw [if_neg h7];split at h0
  · simp [RM.ab] at h0
  rename_i h9;rw [if_neg h9];exact loopR_inv hB.2.1 (fun m hm h1 h2=>blkR_inv body (d+1) m hok'.2.1 hg'.2.2.1 hm h1 h2) _ _ _ hA.2.1 (hB.1.mono (Nat.zero_le _) (Nat.zero_le _)) (by simpa using h6) h0
theorem blkR_inv:∀ (l:List St) (d:Nat) (m:RM),okL l d→(∀ x∈l,goS x)→RInv 0 0 m→m.st=0→(blkR C l m).st=0→RInv 0 0 (blkR C l m)
 | [],d,m,hok,hg,h,hm,h0=>by rw [blkR];exact h
 | t::l,d,m,hok,hg,h,hm,h0=>by
  rw [blkR,if_neg (by simp [hm])] at h0 ⊢;by_cases h2:(qdr m).st=0
  ·
   rw [if_pos h2] at h0 ⊢;have hT:=tickR_inv h h2;by_cases h3:(stR C t (qdr m)).st=0
   · exact blkR_inv l d _ (fun x hx=>hok x (by simp [hx])) (fun x hx=>hg x (by simp [hx])) (stR_inv t d _ (hok t (by simp)) (hg t (by simp)) hT h2 h3) h3 h0
   ·
    rw [blkR_dead C l h3] at h0;exact absurd h0 h3
  ·
   rw [if_neg h2,blkR_dead C l h2] at h0;exact absurd h0 h2
end
end
theorem setArgsR_inv:∀ (ps:List Param) (vs:List V) (l:List Pr),(∀ v∈vs,qdt v)→(∀ q∈l,qdt q.v)→(∀ q∈qcs ps vs l,qdt q.v)∧(qcs ps vs l).length≤l.length+ps.length
 | [],vs,l,hv,h=>by cases vs<;>exact ⟨h,by simp [qcs]⟩
 | x::ps,[],l,hv,h=>by refine ⟨by simpa [qcs] using h,by simp [qcs]⟩
 | x::ps,v::vs,l,hv,h=>by
  rw [qcs];have ih:=setArgsR_inv ps vs (setR l ⟨x.name,v⟩) (fun w hw=>hv w (by simp [hw])) (fun q hq=>by
   rcases setR_mem hq with rfl | hq
   · exact hv v (by simp)
   · exact h q hq)
  refine ⟨ih.1,?_⟩;have:=setR_len l ⟨x.name,v⟩;simp only [List.length_cons];have:=ih.2;omega
end Go.Cw

namespace Go.Cw
open Go Go.Abs
def evOk (e:Ex) (st:List Pr) (ft:Foot):Prop:=¬ (chkE e 1≠0∨qa0 st=false∨qcd ft.all ft.reads ft.writes=false)
instance (e:Ex) (st:List Pr) (ft:Foot):Decidable (evOk e st ft):=inferInstanceAs (Decidable (¬ _))
structure EvIn (fmt:Int→qac) (e:Ex) (vs st:List Pr):Prop where
 fmt:∀ n,i64 n→qa7 (fmt n)=true
 ex:rngX e
 vars:∀ q∈vs,qdt q.v
 st:∀ q∈st,qdt q.v
 len:vs.length≤34359738368
end Go.Cw

namespace Go.Cw
open Go Go.Abs
section
variable {fmt:Int→qac} {p:Proc} {args:List V} {st:List Pr}
end
section
variable (fmt:Int→qac)
structure Res where
 id:Int
 att:Int
 status:Int
 code:Int
 out:List V
def Res.c (r:Res):List AV:=[I r.id,I r.att,I r.status,I r.code,.slice (r.out.map V.c)]
def Res.z:Res:=⟨0,0,0,0,[]⟩
end
section
variable {fmt:Int→qac}
end
end Go.Cw

namespace Go.Cw
open Go Go.Abs
section
variable {fmt:Int→qac}
structure Tal (L:List Txn) (l:List Txn) (is:List Nat) (out:List Res):Prop where
 len:is.length=l.length
 ol:out.length=L.length
 nod:is.Nodup
 lt:∀ i∈is,i<L.length
 id:∀ j (h:j<l.length) (h':j<is.length) (h2:is[j]<L.length),l[j].id=L[is[j]].id
 done:∀ i (h:i<L.length) (h':i<out.length),i∈is∨(out[i].id=L[i].id∧(out[i].status=1∨out[i].status=2))
end
end Go.Cw
