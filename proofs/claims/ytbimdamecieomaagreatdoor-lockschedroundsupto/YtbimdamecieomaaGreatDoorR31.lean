/- Part 31 of a proof. -/
import Derived.Test.YtbimdamecieomaaGreatDoorR29
set_option linter.all false
namespace Go.Cw
open Go Go.Abs
section
structure RInv(r p:Nat)(m:RM):Prop where
 vr:∀q∈m.vars,kp q.v
 wr:∀q∈m.own,kp q.v
 s0:0≤m.steps
 s1:m.steps≤16384
 rd:((m.reads.length+r:Nat):Int)≤8192 * m.steps+8192
 pt:((m.puts.length+p:Nat):Int)≤m.steps
 ow:((m.own.length+p:Nat):Int)≤m.steps
 va:((m.vars.length+p:Nat):Int)≤m.steps+34359738368
 ot:m.out.length≤16
theorem RInv.mono{r p r' p':Nat}{m:RM}(h:RInv r p m)(h1:r'≤r)(h2:p'≤p):RInv r' p' m :=
 ⟨h.vr,h.wr,h.s0,h.s1,by have:=h.rd;omega,by have:=h.pt;omega,by have:=h.ow;omega,by have:=h.va;omega,h.ot⟩
theorem RInv.lenR{r p:Nat}{m:RM}(h:RInv r p m):m.reads.length≤134225920:=by have:=h.rd;have:=h.s1;omega
theorem RInv.lenP{r p:Nat}{m:RM}(h:RInv r p m):m.puts.length≤16384:=by have:=h.pt;have:=h.s1;omega
theorem RInv.lenO{r p:Nat}{m:RM}(h:RInv r p m):m.own.length≤16384:=by have:=h.ow;have:=h.s1;omega
theorem RInv.lenV{r p:Nat}{m:RM}(h:RInv r p m):m.vars.length≤34359754752:=by have:=h.va;have:=h.s1;omega
theorem xdv(l:List Pr)(p:Pr):(py l p).length≤l.length+1:=by
 have:=xek p.key l;unfold py qul;split<;>simp<;>omega
theorem xil{l:List Pr}{p q:Pr}(h:q∈py l p):q=p∨q∈l:=by
 unfold py at h;simp only[dt,cw]at h;rcases h with h|h|h
 ·exact .inr (gc h)
 ·exact .inl h
 ·exact .inr (qla h)
theorem xxx(op a b:Int):yc op a b=sj (qoy op a b):=by
 unfold yc qoy;split
 ·rfl
 split
 ·rfl
 split
 ·rfl
 split<;>rfl
theorem xzo{op a b:Int}(hb:i64 b)(h:(qoy op a b).2=0):i64 (qoy op a b).1:=by
 have:=xqh (op:=op) (a:=a) (v:=vI (qoy op a b).1) hb (by rw[xxx];unfold sj;rw[if_pos h]);exact this.1
theorem xpk{r p:Nat}{m:RM}{x:Int×Int}(h:RInv r p m)(hx:x.2=0→i64 x.1)(h0:(zx m x).2.st=0):RInv r p (zx m x).2∧kp (zx m x).1:=by
 unfold zx at h0⊢;split at h0
 ·simp[RM.ab]at h0
 rename_i h4;split at h0
 ·simp[RM.ab]at h0
 rename_i h5;rw[if_neg h4,if_neg h5];exact⟨h,qqb (hx (by simpa using h5))⟩
section
variable {C:Cfg} (hC:ur C)
include hC
theorem jai{r p:Nat}{m:RM}(h:RInv (r+1) p m)(k:g9)(h0:(od C m k).2.st=0):RInv r p (od C m k).2∧kp (od C m k).1:=by
 unfold od at h0⊢;split at h0
 ·simp[RM.ab]at h0
 rename_i h1;rw[if_neg h1];split at h0
 ·rename_i h2;rw[if_pos h2];exact⟨h.mono aa (ct _),xff h.wr k⟩
 rename_i h2;rw[if_neg h2];split at h0
 ·simp[RM.rst]at h0
 rename_i h3;rw[if_neg h3];refine⟨⟨h.vr,h.wr,h.s0,h.s1,?_,h.pt,h.ow,h.va,h.ot⟩,xff hC k⟩;have:=qzx m.reads k;have:=h.rd;simp only;omega
theorem jhf{r p:Nat}{m:RM}(h:RInv r p m){op:Int}{a b:V}(ha:kp a)(hb:kp b)(h0:(yi m op a b).2.st=0):RInv r p (yi m op a b).2∧kp (yi m op a b).1:=by
 unfold yi at h0⊢;split at h0
 ·rename_i h1;rw[if_pos h1];split at h0
  ·rename_i h2;rw[if_pos h2];exact xpk h (fun hz=>xzo hb.1 hz) h0
  ·simp[RM.ab]at h0
 rename_i h1;rw[if_neg h1];split at h0
 ·rename_i h2;rw[if_pos h2];split at h0
  ·rename_i h3;rw[if_pos h3];exact⟨h,quh _⟩
  ·simp[RM.ab]at h0
 rename_i h2;rw[if_neg h2];split at h0
 ·rename_i h3;rw[if_pos h3];split at h0
  ·rename_i h4;rw[if_pos h4];exact⟨h,quh _⟩
  ·simp[RM.ab]at h0
 rename_i h3;rw[if_neg h3];split at h0
 ·rename_i h4;rw[if_pos h4];split at h0
  ·rename_i h5;rw[if_pos h5];split at h0
   ·simp[RM.ab]at h0
   ·rename_i h6;rw[if_neg h6];refine⟨h,⟨qgz,qgz⟩,?_⟩;have h7:jt ((a.s.size:Int)+b.s.size)=(a.s.size:Int)+b.s.size:=qrx aa (by have:=ha.2;have:=hb.2;omega);rw[h7]at h6;simp only[vS,qmj];omega
  ·simp[RM.ab]at h0
 rename_i h4;rw[if_neg h4];split at h0
 ·rename_i h5;rw[if_pos h5];exact⟨h,quh _⟩
 ·simp[RM.ab]at h0
theorem jd4(hf:∀n,i64 n→ml (C.fmt n)=true){r p:Nat}{m:RM}(h:RInv (r+1) p m){op:Int}{a:V}(ha:kp a)(h0:(tq C m op a).2.st=0):RInv r p (tq C m op a).2∧kp (tq C m op a).1:=by
 have h':=h.mono (show r≤r+1 by omega) (ct p);unfold tq at h0⊢;split at h0
 ·simp[RM.ab]at h0
 rename_i h1;rw[if_neg h1];split at h0
 ·rename_i h2;rw[if_pos h2];exact xpk h' (fun _=>xbm _) h0
 rename_i h2;rw[if_neg h2];split at h0
 ·rename_i h3;rw[if_pos h3];exact⟨h',quh _⟩
 rename_i h3;rw[if_neg h3];split at h0
 ·rename_i h4;rw[if_pos h4];have hp:=hf _ ha.1;unfold ml at hp;simp only[c0,decide_eq_true_eq]at hp;exact⟨h',⟨qgz,qgz⟩,by simp only[vS];omega⟩
 rename_i h4;rw[if_neg h4];split at h0
 ·rename_i h5;rw[if_pos h5];exact⟨h',qqb ⟨aa,qgu⟩⟩
 rename_i h5;rw[if_neg h5];simp only at h0⊢;split at h0
 ·rename_i h6;exact absurd h0 h6
 rename_i h6;rw[if_neg h6];have hF:=jai hC h a.s (by simpa using h6);split at h0
 ·rename_i h7;rw[if_pos h7];exact⟨hF.1,quh _⟩
 rename_i h7;rw[if_neg h7];split at h0
 ·rename_i h8;rw[if_pos h8];exact⟨hF.1,⟨ae,ae⟩,by simp[em]⟩
 rename_i h8;rw[if_neg h8];by_cases h9:(od C m a.s).1.k≠(if op=23 then 2 else 1)
 ·rw[if_pos h9]at h0;simp[RM.ab]at h0
 ·rw[if_neg h9];exact hF
theorem jgu(hf:∀n,i64 n→ml (C.fmt n)=true){r p:Nat}{m:RM}(h:RInv (r+1) p m){op:Int}{l:List V}(hl:∀v∈l,kp v)(h0:(opR C m op l).2.st=0):RInv r p (opR C m op l).2∧kp (opR C m op l).1:=by
 unfold opR at h0⊢;split at h0
 ·exact jd4 hC hf h (hl _ ae) h0
 ·exact jhf hC (h.mono aa (ct _)) (hl _ ae) (hl _ ae) h0
 ·simp[RM.ab]at h0
mutual
theorem qz5(hf:∀n,i64 n→ml (C.fmt n)=true):∀(e:Ex) (m:RM) (r p:Nat),su e→RInv (r+nodes e) p m→m.st=0→(jj C e m).2.st=0→RInv r p (jj C e m).2∧kp (jj C e m).1
 | .mk op n s args,m,r,p,hX,h,hm,h0=>by
  have hX':=(qvc _).1 hX;simp only[Ex.n,Ex.s,Ex.args]at hX';have hn:nodes (.mk op n s args)=qok args+1:=qzo _;rw[hn]at h;have h':=h.mono (show r≤r+(qok args+1)by omega) (ct p);rw[jj]at h0⊢;split at h0
  ·rename_i h1;rw[if_pos h1];exact⟨h',qqb hX'.1.1⟩
  rename_i h1;rw[if_neg h1];split at h0
  ·rename_i h2;rw[if_pos h2];exact⟨h',⟨qgz,qgz⟩,hX'.1.2⟩
  rename_i h2;rw[if_neg h2];split at h0
  ·rename_i h3;rw[if_pos h3];split at h0
   ·rename_i h4;rw[if_pos h4];exact⟨h',xff h.vr s⟩
   ·simp[RM.ab]at h0
  rename_i h3;rw[if_neg h3];simp only at h0⊢;split at h0
  ·rename_i h4;exact absurd h0 h4
  rename_i h4;rw[if_neg h4];have hL:=xxc hf args m (r+1) p hX'.2 (h.mono aa (ct _)) hm qiw;exact jgu hC hf hL.1 hL.2 h0
theorem xxc(hf:∀n,i64 n→ml (C.fmt n)=true):∀(l:List Ex) (m:RM) (r p:Nat),(∀x∈l,su x)→RInv (r+qok l) p m→m.st=0→(un C l m).2.st=0→RInv r p (un C l m).2∧∀v∈(un C l m).1,kp v
 | [],m,r,p,hX,h,hm,h0=>by rw[un];exact⟨h.mono aa (ct _),ae⟩
 |e::l,m,r,p,hX,h,hm,h0=>by
  rw[qz2]at h;rw[un]at h0⊢;simp only at h0⊢;split at h0
  ·rename_i h1;exact absurd h0 h1
  rename_i h1;rw[if_neg h1];have hE:=qz5 hf e m (r+qok l) p (hX e ae) (h.mono aa (ct _)) hm av;have hL:=xxc hf l _ r p (fun x hx=>hX x bt) hE.1 av h0;refine⟨hL.1,fun v hv=>?_⟩;rcases cw.1 hv with rfl|hv
  ·exact hE.2
  ·exact hL.2 v hv
end
end
theorem xd5{m:RM}(h:RInv 0 0 m)(h0:(qu m).st=0):RInv 8192 1 (qu m):=by
 have e:jt (m.steps+1)=m.steps+1:=qrx (by have:=h.s0;omega) (by have:=h.s1;omega);unfold qu at h0⊢;rw[e]at h0⊢;split at h0
 ·simp[RM.ab]at h0
 rename_i h1;rw[if_neg h1];refine⟨h.vr,h.wr,by have:=h.s0;simp only;omega,cc,?_,?_,?_,?_,h.ot⟩
 ·have:=h.rd;simp only;omega
 ·have:=h.pt;simp only;omega
 ·have:=h.ow;simp only;omega
 ·have:=h.va;simp only;omega
theorem RInv.var{r p:Nat}{m:RM}(h:RInv r (p+1) m){v:V}(hv:kp v)(k:g9):RInv r p { m with vars:=py m.vars ⟨k,v⟩ }:=by
 refine⟨fun q hq=>?_,h.wr,h.s0,h.s1,h.rd,by have:=h.pt;simp only;omega,by have:=h.ow;simp only;omega,?_,h.ot⟩
 ·rcases xil hq with rfl|hq
  ·exact hv
  ·exact h.vr q hq
 ·have:=xdv m.vars ⟨k,v⟩;have:=h.va;simp only;omega
theorem RInv.store{C:Cfg}{r p:Nat}{m:RM}(h:RInv r (p+1) m){v:V}(hv:kp v)(k:g9)(h0:(qm7 C m k v).st=0):RInv r p (qm7 C m k v):=by
 unfold qm7 at h0⊢;split at h0
 ·simp[RM.ab]at h0
 rename_i h1;rw[if_neg h1];split at h0
 ·simp[RM.rst]at h0
 rename_i h2;rw[if_neg h2];refine⟨h.vr,fun q hq=>?_,h.s0,h.s1,h.rd,?_,?_,by have:=h.va;simp only;omega,h.ot⟩
 ·rcases xil hq with rfl|hq
  ·exact hv
  ·exact h.wr q hq
 ·have:=qzx m.puts k;have:=h.pt;simp only;omega
 ·have:=xdv m.own ⟨k,v⟩;have:=h.ow;simp only;omega
theorem RInv.emit{r p:Nat}{m:RM}(h:RInv r p m){v:V}(h0:(qqp m v).st=0):RInv r p (qqp m v):=by
 unfold qqp at h0⊢;split at h0
 ·simp[RM.ab]at h0
 rename_i h1;rw[if_neg h1];refine⟨h.vr,h.wr,h.s0,h.s1,h.rd,h.pt,h.ow,h.va,?_⟩;simp only[cz,f8];omega
theorem xpp{body:RM→RM}{name:g9}{b:Int}(hb:i64 b)(hB:∀m,RInv 0 0 m→m.st=0→(body m).st=0→RInv 0 0 (body m)):∀(f:Nat) (i:Int) (m:RM),i64 i→RInv 0 0 m→m.st=0→(xz body name b f i m).st=0→RInv 0 0 (xz body name b f i m)
 | 0,i,m,hi,h,hm,h0=>by rw[xz];exact h
 |f+1,i,m,hi,h,hm,h0=>by
  rw[xz]at h0⊢;by_cases h1:i<b∧m.st=0
  ·rw[if_pos h1]at h0⊢;have hw:jt (i+1)=i+1:=qrx qhn (by have:=hb.2;omega);by_cases h2:(qu m).st=0
   ·rw[if_pos h2]at h0⊢;have ht:=(xd5 h h2).var (p:=0) (qqb hi) name;by_cases h3:(body { qu m with vars:=py (qu m).vars ⟨name,vI i⟩ }).st=0
    ·exact xpp hb hB f _ _ (by rw[hw];exact⟨qhn,by have:=hb.2;omega⟩) (hB _ (ht.mono aa (ct _)) h2 h3) h3 h0
    ·rw[xbv f _ h3]at h0;exact absurd h0 h3
   ·rw[if_neg h2,xbv f _ h2]at h0;exact absurd h0 h2
  ·rw[if_neg h1]at h0⊢;exact h
section
variable {C:Cfg} (hC:ur C) (hf:∀n,i64 n→ml (C.fmt n)=true)
include hC hf
mutual
theorem xtp:∀(t:St) (d:Nat) (m:RM),tv t d→t8 t→RInv 8192 1 m→m.st=0→(stR C t m).st=0→RInv 0 0 (stR C t m)
 | .mk op name mx a b body els,d,m,jm,hg,h,hm,h0=>by
  have qw:=(xc _ _).1 jm;have jf:=(qsn _).1 hg;have jy:=xaj jm;simp only[St.op,St.a,St.b,St.body,St.els]at qw jf jy;rw[stR]at h0⊢;split at h0
  ·simp[RM.ab]at h0
  rename_i h8;rw[if_neg h8];split at h0
  ·rename_i h1;exact absurd h0 h1
  rename_i h1;rw[if_neg h1];have hA:=qz5 hC hf a m 4097 1 (jf.1 h8).1 (h.mono (by have:=(jf.1 h8).2;omega) (ct _)) hm av;have hA0:=hA.1.mono (di _) (di _);split at h0
  ·rename_i h2;rw[if_pos h2];exact(hA.1.var hA.2 name).mono (di _) (ct _)
  rename_i h2;rw[if_neg h2];split at h0
  ·rename_i h3;rw[if_pos h3];exact(hA.1.store xcp _ h0).mono (di _) (ct _)
  rename_i h3;rw[if_neg h3];split at h0
  ·rename_i h4;rw[if_pos h4];exact hA0.emit h0
  rename_i h4;rw[if_neg h4];split at h0
  ·rename_i h5;rw[if_pos h5];split at h0
   ·rename_i h6;rw[if_pos h6];exact xa2 body (d+1) _ qw.2.1 jf.2.2.1 hA0 av h0
   ·rename_i h6;rw[if_neg h6];exact xa2 els (d+1) _ qw.2.2 jf.2.2.2 hA0 av h0
  rename_i h5;rw[if_neg h5];have hgb:=jf.2.1 aa;split at h0
  ·rename_i h6;exact absurd h0 h6
  rename_i h6;rw[if_neg h6];have hB:=qz5 hC hf b _ 0 1 hgb.1 (hA.1.mono (by have:=hgb.2;omega) (ct _)) av (by simpa using h6);split at h0
  ·rename_i h7;rw[if_pos h7];exact(hB.1.store hB.2 _ h0).mono (di _) (ct _)
  rename_i h7;rw[if_neg h7];split at h0
  ·simp[RM.ab]at h0
  rename_i h9;rw[if_neg h9];exact xpp hB.2.1 (fun m hm h1 h2=>xa2 body (d+1) m qw.2.1 jf.2.2.1 hm h1 h2) _ _ _ hA.2.1 (hB.1.mono (di _) (di _)) (by simpa using h6) h0
theorem xa2:∀(l:List St) (d:Nat) (m:RM),x6 l d→(∀x∈l,t8 x)→RInv 0 0 m→m.st=0→(om C l m).st=0→RInv 0 0 (om C l m)
 | [],d,m,jm,hg,h,hm,h0=>by rw[om];exact h
 |t::l,d,m,jm,hg,h,hm,h0=>by
  rw[om,if_neg (by simp[hm])]at h0⊢;by_cases h2:(qu m).st=0
  ·rw[if_pos h2]at h0⊢;have hT:=xd5 h h2;by_cases h3:(stR C t (qu m)).st=0
   ·exact xa2 l d _ (fun x hx=>jm x bt) (fun x hx=>hg x bt) (xtp t d _ (jm t ae) (hg t ae) hT h2 h3) h3 h0
   ·rw[xa6 C l h3]at h0;exact absurd h0 h3
  ·rw[if_neg h2,xa6 C l h2]at h0;exact absurd h0 h2
end
end
theorem xqe:∀(ps:List Param) (vs:List V) (l:List Pr),(∀v∈vs,kp v)→(∀q∈l,kp q.v)→(∀q∈qdd ps vs l,kp q.v)∧(qdd ps vs l).length≤l.length+ps.length
 | [],vs,l,hv,h=>by cases vs<;>exact⟨h,by simp[qdd]⟩
 |x::ps,[],l,hv,h=>by refine⟨by simpa[qdd]using h,by simp[qdd]⟩
 |x::ps,v::vs,l,hv,h=>by
  rw[qdd];have ih:=xqe ps vs (py l ⟨x.name,v⟩) (fun w hw=>hv w (by simp[hw])) (fun q hq=>by
   rcases xil hq with rfl|hq
   ·exact hv v ae
   ·exact h q hq)
  refine⟨ih.1,?_⟩;have:=xdv l ⟨x.name,v⟩;simp only[d5];have:=ih.2;omega
end
def jgf(e:Ex)(st:List Pr)(ft:Foot):Prop:=¬(mg e 1≠0∨nn st=false∨my ft.all ft.reads ft.writes=false)
instance (e:Ex) (st:List Pr) (ft:Foot):Decidable (jgf e st ft):=inferInstanceAs (Decidable (¬_))
structure EvIn(fmt:Int→g9)(e:Ex)(vs st:List Pr):Prop where
 fmt:∀n,i64 n→ml (fmt n)=true
 ex:su e
 vars:∀q∈vs,kp q.v
 st:∀q∈st,kp q.v
 len:vs.length≤34359738368
end Go.Cw
