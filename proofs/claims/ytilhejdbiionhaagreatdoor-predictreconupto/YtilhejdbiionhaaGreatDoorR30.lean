/- Part 30 of a proof: CwVd, CwV, CwMv, CwMw, CwOc -/
import Derived.Lib.ItoaLen
import Derived.Test.YtilhejdbiionhaaGreatDoorR28
import Derived.Test.YtilhejdbiionhaaGreatDoorR29
set_option linter.all false

namespace Go.Cw
open Go Go.Abs
theorem W64_hi{n:Int}(h:9223372036854775807<n)(h2:n<27670116110564327424):W64 n=n - 18446744073709551616:=by
 unfold W64;simp only[IntKind.wrap,IntKind.bits,IntKind.signed];simp;omega
theorem W64_lo{n:Int}(h:n < -9223372036854775808)(h2:-27670116110564327424≤n):W64 n=n+18446744073709551616:=by
 unfold W64;simp only[IntKind.wrap,IntKind.bits,IntKind.signed];simp;omega
theorem W64_in{n:Int}(h:i64 n):W64 n=n:=W64_id (by have:=h.1;omega) (by have:=h.2;omega)
theorem W64_mod(n:Int):∃k:Int,W64 n=n+18446744073709551616 * k:=by
 unfold W64;simp only[IntKind.wrap,IntKind.bits,IntKind.signed];simp;split
 ·exact⟨-(n / 18446744073709551616) - 1,by omega⟩
 ·exact⟨-(n / 18446744073709551616),by omega⟩
theorem add_ref{a b:Int}(ha:i64 a)(hb:i64 b):((0<b∧W64 (9223372036854775807 - b)<a)∨(b<0∧a<W64 (-9223372036854775808 - b)))↔((0<b∧W64 (a+b)<a)∨(b<0∧a<W64 (a+b))):=by
 obtain⟨a1,a2⟩:=ha;obtain⟨b1,b2⟩:=hb;by_cases h:0<b
 ·rw[W64_in (n:=9223372036854775807 - b) ⟨by omega,by omega⟩];by_cases h2:a+b≤9223372036854775807
  ·rw[W64_in (n:=a+b) ⟨by omega,h2⟩];omega
  ·rw[W64_hi (n:=a+b) (by omega) (by omega)];omega
 ·by_cases h0:b=0
  ·omega
  ·rw[W64_in (n:=-9223372036854775808 - b) ⟨by omega,by omega⟩];by_cases h2:-9223372036854775808≤a+b
   ·rw[W64_in (n:=a+b) ⟨h2,by omega⟩];omega
   ·rw[W64_lo (n:=a+b) (by omega) (by omega)];omega
theorem sub_ref{a b:Int}(ha:i64 a)(hb:i64 b):((b<0∧W64 (9223372036854775807+b)<a)∨(0<b∧a<W64 (-9223372036854775808+b)))↔((0<b∧a<W64 (a - b))∨(b<0∧W64 (a - b)<a)):=by
 obtain⟨a1,a2⟩:=ha;obtain⟨b1,b2⟩:=hb;by_cases h:0<b
 ·rw[W64_in (n:=-9223372036854775808+b) ⟨by omega,by omega⟩];by_cases h2:-9223372036854775808≤a - b
  ·rw[W64_in (n:=a - b) ⟨h2,by omega⟩];omega
  ·rw[W64_lo (n:=a - b) (by omega) (by omega)];omega
 ·by_cases h0:b=0
  ·omega
  ·rw[W64_in (n:=9223372036854775807+b) ⟨by omega,by omega⟩];by_cases h2:a - b≤9223372036854775807
   ·rw[W64_in (n:=a - b) ⟨by omega,h2⟩];omega
   ·rw[W64_hi (n:=a - b) (by omega) (by omega)];omega
theorem neg_ref{a:Int}(ha:i64 a):qb4 0 a=qdn a:=by
 obtain⟨a1,a2⟩:=ha;unfold qb4 qdn;have e:(0:Int) - a = -a:=by omega
 rw[e];by_cases h:a = -9223372036854775808
 ·subst h;rw[if_pos rfl,if_pos];rw[W64_hi (n:=- -9223372036854775808) (by omega) (by omega)];omega
 ·rw[if_neg h,W64_in (n:=-a) ⟨by omega,by omega⟩,if_neg (by omega)]
def absI(a:Int):Int:=if a<0 then -a else a
theorem U64_abs{a:Int}(ha:i64 a):IntKind.u64.wrap (0 - IntKind.u64.wrap a)=if a<0 then -a else if a=0 then 0 else 18446744073709551616 - a:=by
 obtain⟨a1,a2⟩:=ha;simp only[IntKind.wrap,IntKind.bits,IntKind.signed];simp;omega
theorem U64_in{a:Int}(h0:0≤a)(h1:a<18446744073709551616):IntKind.u64.wrap a=a:=by
 simp only[IntKind.wrap,IntKind.bits,IntKind.signed];simp;omega
theorem numMul_spec{a b:Int}(ha:i64 a)(hb:i64 b)(h0:a≠0)(h1:b≠0):(i64 (a * b)→numMul a b=(a * b,0))∧(¬i64 (a * b)→numMul a b=(0,3)):=by
 obtain⟨a1,a2⟩:=ha;obtain⟨b1,b2⟩:=hb;unfold numMul;rw[if_neg (by omega)];by_cases hm:a = -1
 ·rw[if_pos hm,hm];unfold qdn;have e:(-1:Int) * b = -b:=by omega
  rw[e];unfold i64;by_cases hb2:b = -9223372036854775808
  ·rw[if_pos hb2];exact⟨fun h=>by omega,fun _=>rfl⟩
  ·rw[if_neg hb2];exact⟨fun h=>by rw[W64_in h],fun h=>by omega⟩
 rw[if_neg hm];by_cases hn:b = -1
 ·rw[if_pos hn,hn];unfold qdn;have e:a * (-1:Int) = -a:=by omega
  rw[e];unfold i64;by_cases ha2:a = -9223372036854775808
  ·rw[if_pos ha2];exact⟨fun h=>by omega,fun _=>rfl⟩
  ·rw[if_neg ha2];exact⟨fun h=>by rw[W64_in h],fun h=>by omega⟩
 rw[if_neg hn];refine⟨fun h=>?_,fun h=>?_⟩
 ·rw[W64_in h,Int.mul_tdiv_cancel a h1,W64_in ⟨a1,a2⟩,if_neg (by simp)]
 ·rw[if_pos];intro he;obtain⟨k,hk⟩:=W64_mod (a * b);obtain⟨w,hw⟩:∃w,W64 (a * b)=w:=⟨_,rfl⟩
  have hwi:i64 w:=by rw[←hw];exact i64_w _
  rw[hw]at he hk;have hq:(w.tdiv b).natAbs≤w.natAbs:=by rw[Int.natAbs_tdiv];exact Nat.div_le_self _ _
  have hq2:b≠-1:=hn;have hqi:i64 (w.tdiv b):=by
   obtain⟨w1,w2⟩:=hwi;have hbn:2≤b.natAbs∨b=1:=by omega
   rcases hbn with hbn|hbn
   ·have:(w.tdiv b).natAbs≤w.natAbs / 2:=by
     rw[Int.natAbs_tdiv];exact Nat.div_le_div_left hbn (by decide)
    exact⟨by omega,by omega⟩
   ·rw[hbn,Int.tdiv_one];exact⟨w1,w2⟩
  rw[W64_in hqi]at he;have hd:=Int.mul_tdiv_add_tmod w b;rw[he,Int.mul_comm b a]at hd;have hr:(w.tmod b).natAbs<b.natAbs:=by
   rw[Int.natAbs_tmod];exact Nat.mod_lt _ (by omega)
  have hkz:k=0:=by omega
  subst hkz;apply h;rw[←show w=a * b by omega];exact hwi
theorem mul_ref{a b:Int}(ha:i64 a)(hb:i64 b)(h0:a≠0)(h1:b≠0)(L:Int)(hL:L=if (decide (a<0)≠decide (b<0))then 9223372036854775808 else 9223372036854775807):L.tdiv (absI b)<absI a↔¬i64 (a * b):=by
 have hbp:0<absI b:=by unfold absI;split<;>omega
 have hap:0<absI a:=by unfold absI;split<;>omega
 have hL0:0≤L:=by rw[hL];split<;>omega
 rw[Int.tdiv_eq_ediv_of_nonneg hL0,Int.ediv_lt_iff_lt_mul hbp];have hp:absI a * absI b=if (decide (a<0)≠decide (b<0))then -(a * b)else a * b:=by
  unfold absI;by_cases ha':a<0<;>by_cases hb':b<0<;>simp[ha',hb',Int.neg_mul,Int.mul_neg]
 have hpos:0<absI a * absI b:=Int.mul_pos hap hbp;rw[hp]at hpos⊢;rw[hL];unfold i64;obtain⟨p,hpp⟩:∃p,a * b=p:=⟨_,rfl⟩
 rw[hpp]at hpos⊢;split
 ·rename_i h;rw[if_pos h]at hpos;omega
 ·rename_i h;rw[if_neg h]at hpos;omega
def dig(u:Nat):qac:=⟨#[UInt8.ofNat (48+u % 10)]⟩
theorem dec_step{u:Nat}(h:10≤u):Lib.decDigits u=Lib.decDigits (u / 10)++[UInt8.ofNat (48+u % 10)]:=by
 rw[Lib.decDigits,dif_neg (by omega)]
theorem dec_one{u:Nat}(h:u<10):Lib.decDigits u=[UInt8.ofNat (48+u)]:=by
 rw[Lib.decDigits,dif_pos h]
def digL(u:Nat)(s:qac):List UInt8:=if u=0∧s≠em then bl s else Lib.decDigits u++bl s
theorem digL_step{u:Nat}{s:qac}(h:0<u∨s=em):digL (u / 10) (dig u++s)=digL u s:=by
 have hne:dig u++s≠em:=fun e=>by
  have:=congrArg ByteArray.size e;rw[ByteArray.size_append]at this;have h1:(dig u).size=1:=rfl;have h2:ByteArray.size em=0:=rfl;omega
 have hb:bl (dig u++s)=UInt8.ofNat (48+u % 10)::bl s:=by simp[bl,dig]
 have hr:digL u s=Lib.decDigits u++bl s:=by
  unfold digL;rw[if_neg];rintro⟨h1,h2⟩;rcases h with h|h
  ·omega
  ·exact h2 h
 rw[hr];unfold digL;by_cases h10:u<10
 ·have e0:u / 10=0:=by omega
  rw[e0,if_pos ⟨rfl,hne⟩,hb,dec_one h10];have:u % 10=u:=by omega
  rw[this];rfl
 ·rw[if_neg (fun g=>by have:=g.1;omega),hb,dec_step (u:=u) (by omega),List.append_assoc];rfl
theorem digL_len(u:Nat)(s:qac):s.size≤(digL u s).length:=by
 have h:(bl s).length=s.size:=rfl;unfold digL;split
 ·omega
 ·simp;omega
theorem digL_end{s:qac}(h:s≠em):digL 0 s=bl s:=by
 unfold digL;rw[if_pos ⟨rfl,h⟩]
theorem bl_inj{a b:qac}(h:bl a=bl b):a=b:=by
 cases a with
 |mk x=>cases b with
  |mk y=>simp[bl]at h;subst h;rfl
end Go.Cw

namespace Go.Cw
open Go Go.Abs
end Go.Cw

namespace Go.Cw
open Go Go.Abs
def effF(f:Foot):Foot:=if footOk f.all f.reads f.writes=true then f else⟨true,[],[]⟩
def depS(a b:Foot):Bool:=if b.all=true then true else if a.all=true then decide (0<b.reads.length)else a.writes.any fun k=>qd1 b.reads k
def depsOf(l:List Foot)(j:Nat)(f:Foot):List Nat:=(List.range j).filter fun i=>match l[i]? with|some g=>depS (effF g) (effF f)|none=>false
section
variable {fmt:Int→qac}
def serSt(fmt:Int→qac)(procs:List Proc)(s:List Pr)(l:List Txn)(i:Nat):List Pr:=(roundS fmt procs s (l.take i)).1
def serEf(fmt:Int→qac)(procs:List Proc)(s:List Pr)(l:List Txn)(i:Nat)(t:Txn):Eff:=(oneS fmt procs (serSt fmt procs s l i) t).2
structure MvIn(fmt:Int→qac)(procs:List Proc)(s:List Pr)(l:List Txn)(effs:List Eff)(done:List Bool):Prop where
 le:effs.length=l.length
 ld:done.length=l.length
 ok:∀i (h:i<l.length),done.getD i false=true→effs[i]?=some (serEf fmt procs s l i l[i])
section
variable {procs:List Proc} {s:List Pr} {l:List Txn} {effs:List Eff} {done:List Bool}
end
end
end Go.Cw

namespace Go.Cw
open Go Go.Abs
def depsL(fs:List Foot)(j:Nat):List Nat:=match fs[j]? with|some f=>depsOf fs j f|none=>[]
section
variable (fmt:Int→qac)
end
structure MvJ(fmt:Int→qac)(procs:List Proc)(s:List Pr)(l:List Txn)(n:Nat)(x:List Eff×List Bool×List Nat):Prop where
 inv:MvIn fmt procs s l x.1 x.2.1
 len:x.2.2.length=n
 nod:x.2.2.Nodup
 mem:∀j,x.2.1.getD j false=true↔j∈x.2.2
 lt:∀j∈x.2.2,j<l.length
 dep:∀a (h:a<x.2.2.length),∀i∈depsL (l.map (·.ft)) x.2.2[a],i∈x.2.2.take a
section
variable {fmt:Int→qac} {procs:List Proc} {s:List Pr} {l:List Txn} {choices:List Int}
end
end Go.Cw

namespace Go.Cw
open Go Go.Abs
section
variable {fmt:Int→qac} {procs:List Proc} {s:List Pr}
end
end Go.Cw
