/- Part 27 of a proof. -/
import Derived.Test.YtolejdhnnchfpaaGreatDoorQ26
set_option linter.all false
namespace Go.Cw
open Go Go.Abs
structure RInv(r p:Nat)(m:RM):Prop where
 vr:∀q∈m.vars,oj q.v
 wr:∀q∈m.own,oj q.v
 s0:0<=m.steps
 s1:m.steps<=16384
 rd:((m.reads.length+r:Nat):Int)<=8192 * m.steps+8192
 pt:((m.puts.length+p:Nat):Int)<=m.steps
 ow:((m.own.length+p:Nat):Int)<=m.steps
 va:((m.vars.length+p:Nat):Int)<=m.steps+34359738368
 ot:m.out.length<=16
theorem RInv.mono{r p r' p':Nat}{m:RM}(h:RInv r p m)(h1:r'<=r)(h2:p'<=p):RInv r' p' m :=
 ⟨h.vr,h.wr,h.s0,h.s1,by have:=h.rd;omega,by have:=h.pt;omega,by have:=h.ow;omega,by have:=h.va;omega,h.ot⟩
theorem jay(l:List Pr)(p:Pr):(qou l p).length<=l.length+1:=by grind[qou,qzx,xji]
theorem jdo{l:List Pr}{p q:Pr}(h:q∈qou l p):q=p\/q∈l:=by grind[qou]
section
variable {C:Cfg} (hC:u5 C)
include hC
end
theorem RInv.store{C:Cfg}{r p:Nat}{m:RM}(h:RInv r (p+1) m){v:V}(hv:oj v)(k:ig)(h0:(xi4 C m k v).st=0):RInv r p (xi4 C m k v):=by
 unfold xi4 at h0|-;split at h0
 .grind[RM.ab]
 rename_i h1;rw[if_neg h1];split at h0
 .grind[RM.rst]
 rename_i h2;rw[if_neg h2];refine⟨h.vr,λq hq=>?_,h.s0,h.s1,h.rd,?_,?_,by have:=h.va;simp only;omega,h.ot⟩
 .rcases jdo hq with rfl|hq
  .exact hv
  .exact h.wr q hq
 .have:=xal m.puts k;have:=h.pt;simp only;omega
 .have:=jay m.own ⟨k,v⟩;have:=h.ow;simp only;omega
theorem RInv.emit{r p:Nat}{m:RM}(h:RInv r p m){v:V}(h0:(xip m v).st=0):RInv r p (xip m v):=by
 unfold xip at h0|-;split at h0
 .grind[RM.ab]
 rename_i h1;rw[if_neg h1];refine⟨h.vr,h.wr,h.s0,h.s1,h.rd,h.pt,h.ow,h.va,?_⟩;simp only[c7,fx];omega
section
variable {C:Cfg} (hC:u5 C) (hf:∀n,i64 n->pp (C.fmt n)=true)
include hC hf
end
def jaw(e:Ex)(st:List Pr)(ft:Foot):Prop:=¬(py e 1≠0\/jl st=false\/qa ft.all ft.reads ft.writes=false)
instance (e:Ex) (st:List Pr) (ft:Foot):Decidable (jaw e st ft):=inferInstanceAs (Decidable (¬_))
structure EvIn(fmt:Int->ig)(e:Ex)(vs st:List Pr):Prop where
 fmt:∀n,i64 n->pp (fmt n)=true
 ex:vd e
 vars:∀q∈vs,oj q.v
 st:∀q∈st,oj q.v
 len:vs.length<=34359738368
section
variable {fmt:Int->ig} {p:Proc} {args:List V} {st:List Pr}
end
section
variable (fmt:Int->ig)
structure Res where
 id:Int
 att:Int
 status:Int
 code:Int
 out:List V
def Res.c(r:Res):List AV:=[I r.id,I r.att,I r.status,I r.code,.slice (r.out.map V.c)]
def Res.z:Res:=⟨0,0,0,0,[]⟩
end
section
variable {fmt:Int->ig}
end
section
variable {fmt:Int->ig}
structure Tal(L:List Txn)(l:List Txn)(is:List Nat)(out:List Res):Prop where
 len:is.length=l.length
 ol:out.length=L.length
 nod:is.Nodup
 lt:∀i∈is,i<L.length
 id:∀j (h:j<l.length) (h':j<is.length) (h2:is[j]<L.length),l[j].id=L[is[j]].id
 done:∀i (h:i<L.length) (h':i<out.length),i∈is\/(out[i].id=L[i].id/\(out[i].status=1\/out[i].status=2))
end
theorem qyq{p:Plc}{s:List Pr}:∀x∈m5 p s,x.prs.length<=s.length:=λx hx=>by
 unfold m5 at hx;split at hx
 .obtain⟨n,hn,rfl⟩:=cy.1 hx;exact qjv _ _
 .cases hx
theorem xwi(p:Plc)(s:List Pr):(m5 p s).length<=16:=by grind[eo,m5,qc0]
theorem xmk{α:Type}(f:α->Nat)(M:Nat):∀(l:List α),(∀x∈l,f x<=M)->(l.map f).sum<=l.length * M
 | [],_=>by simp
 |x::l,h=>by
  have h1:=h x ac;have h2:=xmk f M l λy hy=>h y ck;simp only[dj,qjw,dy,ee,fo];omega
theorem xek(p:Plc)(s:List Pr):((m5 p s).map λx=>x.prs.length).sum<=16 * s.length:=by
 have h1:=xmk (λx:Shard=>x.prs.length) s.length (m5 p s) qyq;have h2:=dx s.length (xwi p s);omega
theorem jdi(p:Plc)(s:List Pr):(m5 p s=[]/\¬(jy p=true/\jl s=true))\/(jy p=true/\jl s=true):=by
 by_cases h:jy p=true/\jl s=true
 .grind
 .exact .inl ⟨xj7.2 h,h⟩
end Go.Cw
