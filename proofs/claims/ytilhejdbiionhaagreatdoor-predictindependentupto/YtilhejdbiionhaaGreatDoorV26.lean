/- Part 26 of a proof: CwSa, CwSb, CwSc, CwVe, CwVf, CwPb, CwI, CwPc -/
import Derived.Test.YtilhejdbiionhaaGreatDoorV17
import Derived.Test.YtilhejdbiionhaaGreatDoorV18
import Derived.Test.YtilhejdbiionhaaGreatDoorV23
import Derived.Test.YtilhejdbiionhaaGreatDoorV24
import Derived.Test.YtilhejdbiionhaaGreatDoorV25
set_option linter.all false

namespace Go.Cw
open Go Go.Abs
abbrev Vis:=List (qac×Int)
def subV (a b:Vis):Prop:=∀ k ty,qbm a k=some ty→qbm b k=some ty
theorem subV.refl (a:Vis):subV a a:=fun _ _ h=>h
theorem subV.trans {a b c:Vis} (h:subV a b) (g:subV b c):subV a c:=fun k ty e=>g k ty (h k ty e)
def qba {α:Type} (l:List (qac×α)):List qac:=l.map (·.1)
theorem qcn {α:Type}:∀ {l:List (qac×α)} {k:qac},qbm l k=none↔k∉qba l
 | [],k=>by simp [qbm,qba]
 | p::l,k=>by
  have ih:=qcn (l:=l) (k:=k);simp only [qbm,qba,List.map_cons,List.mem_cons,not_or] at ih ⊢;by_cases h:p.1=k
  · simp [h]
  ·
   rw [if_neg h,ih];exact ⟨fun g=>⟨fun e=>h e.symm,g⟩,fun g=>g.2⟩
theorem qbx {α:Type}:∀ (l:List (qac×α)) (k:qac) (v:α) (x:qac),x∈qba (qbz l k v)↔x=k∨x∈qba l
 | [],k,v,x=>by simp [qbz,qba]
 | p::l,k,v,x=>by
  have ih:=qbx l k v x;rw [qbz];split
  ·
   rename_i h;subst h;simp [qba]
  ·
   simp only [qba,List.map_cons,List.mem_cons] at ih ⊢;rw [ih];constructor
   · rintro (h | h | h)<;>simp [h]
   · rintro (h | h | h)<;>simp [h]
theorem nodV_set {α:Type}:∀ (l:List (qac×α)) (k:qac) (v:α),(qba l).Nodup→(qba (qbz l k v)).Nodup
 | [],k,v,_=>by simp [qbz,qba]
 | p::l,k,v,h=>by
  have h':p.1∉qba l∧(qba l).Nodup:=List.nodup_cons.1 h;rw [qbz];split
  ·
   rename_i e;subst e;exact h
  ·
   rename_i e;refine List.nodup_cons.2 ⟨fun hm=>?_,nodV_set l k v h'.2⟩;rcases (qbx l k v _).1 hm with e' | hm
   · exact e e'
   · exact h'.1 hm
theorem kDel_sub {α:Type}:∀ (l:List (qac×α)) (k:qac),(kDel l k).Sublist l
 | [],_=>by simp [kDel]
 | p::l,k=>by
  rw [kDel];split
  · exact List.sublist_cons_self _ _
  · exact (kDel_sub l k).cons₂ _
theorem kGet_of_mem {α:Type}:∀ {l:List (qac×α)} {k:qac} {v:α},(qba l).Nodup→(k,v)∈l→qbm l k=some v
 | p::l,k,v,hd,h=>by
  have hd':p.1∉qba l∧(qba l).Nodup:=List.nodup_cons.1 hd;rw [qbm];rcases List.mem_cons.1 h with rfl | h
  · simp
  ·
   rw [if_neg]
   · exact kGet_of_mem hd'.2 h
   ·
    intro e;exact hd'.1 (List.mem_map.2 ⟨(k,v),h,e.symm⟩)
structure TOk (ts:TS):Prop where
 nod:(qba ts.visible).Nodup
 sub:subV ts.visible ts.all
theorem TOk.del {ts:TS} (h:TOk ts) (k:qac):TOk ⟨kDel ts.visible k,ts.loops,ts.all⟩:=⟨h.nod.sublist ((kDel_sub _ _).map _),fun x ty e=>h.sub x ty (by
 have:=(kDel_sub ts.visible k).subset (kGet_mem e);exact kGet_of_mem h.nod this)⟩
theorem TOk.dels (b:List (qac×Bool)) (a:Vis):∀ (l:List St) {vis:Vis},TOk ⟨vis,b,a⟩→TOk ⟨qdc l vis,b,a⟩
 | [],vis,h=>h
 | t::l,vis,h=>by
  rw [qdc];refine TOk.dels b a l ?_;split
  · exact h.del t.name
  · exact h
theorem TOk.set {ts:TS} (h:TOk ts) (k:qac) (ty:Int) (lp:List (qac×Bool)):TOk ⟨qbz ts.visible k ty,lp,qbz ts.all k ty⟩:=⟨nodV_set _ _ _ h.nod,fun x u e=>by
 simp only at e ⊢;rw [qc0] at e ⊢;split at e
 · rename_i hk;rw [if_pos hk];exact e
 · rename_i hk;rw [if_neg hk];exact h.sub x u e⟩
mutual
def nmS:St→List qac
 | .mk op name _ _ _ body els=>(if op=1∨op=6 then [name] else [])++(nmL body++nmL els)
def nmL:List St→List qac
 | []=>[]
 | t::l=>nmS t++nmL l
end
theorem nmS_eq (t:St):nmS t=(if t.op=1∨t.op=6 then [t.name] else [])++(nmL t.body++nmL t.els):=by cases t;rw [nmS];rfl
structure TGo (ns:List qac) (ts ts':TS):Prop where
 ok:TOk ts'
 mono:subV ts.all ts'.all
 keys:∀ k,k∈qba ts'.all→k∈qba ts.all∨k∈ns
theorem TGo.refl {ts:TS} (h:TOk ts) (ns:List qac):TGo ns ts ts:=⟨h,.refl _,fun _ h=>.inl h⟩
theorem TGo.mono' {ns ns':List qac} {ts ts':TS} (h:TGo ns ts ts') (hn:∀ k∈ns,k∈ns'):TGo ns' ts ts':=⟨h.ok,h.mono,fun k hk=>(h.keys k hk).imp id (hn k)⟩
theorem TGo.trans {a b:List qac} {s t u:TS} (h:TGo a s t) (g:TGo b t u):TGo (a++b) s u:=⟨g.ok,h.mono.trans g.mono,fun k hk=>by
 rcases g.keys k hk with hk | hk
 ·
  rcases h.keys k hk with hk | hk
  · exact .inl hk
  · exact .inr (by simp [hk])
 · exact .inr (by simp [hk])⟩
def fresh (ns:List qac) (ts:TS):Prop:=ns.Nodup∧∀ k∈ns,k∉qba ts.all
theorem TGo.set {ts:TS} (h:TOk ts) {k:qac} (hk:k∉qba ts.all) (ty:Int) (lp:List (qac×Bool)):TGo [k] ts ⟨qbz ts.visible k ty,lp,qbz ts.all k ty⟩:=⟨h.set k ty lp,fun x u e=>by
 simp only;rw [qc0];split
 ·
  rename_i hx;subst hx;rw [qcn.2 hk] at e;cases e
 · exact e,fun x hx=>by
 rcases (qbx _ _ _ _).1 hx with h | h
 · exact .inr (by simp [h])
 · exact .inl h⟩
theorem fresh.left {a b:List qac} {ts:TS} (h:fresh (a++b) ts):fresh a ts:=⟨(List.nodup_append.1 h.1).1,fun k hk=>h.2 k (by simp [hk])⟩
theorem fresh.right {a b:List qac} {ts ts':TS} (h:fresh (a++b) ts) (g:TGo a ts ts'):fresh b ts':=⟨(List.nodup_append.1 h.1).2.1,fun k hk hm=>by
 rcases g.keys k hm with hm | hm
 · exact h.2 k (by simp [hk]) hm
 · exact (List.nodup_append.1 h.1).2.2 k hm k hk rfl⟩
theorem TGo.blk {ns:List qac} {l:List St} {f:TS→Int×TS} {ts:TS} (hf:(f ts).1=0→TGo ns ts (f ts).2) (h0:(qcg l f ts).1=0):TGo ns ts (qcg l f ts).2:=by
 unfold qcg at h0 ⊢;split at h0
 · rename_i h;exact (h h0).elim
 ·
  rename_i h;rw [if_neg h];have g:=hf (by simpa using h);exact ⟨TOk.dels _ _ l (vis:=(f ts).2.visible) g.ok,g.mono,g.keys⟩
theorem go_step (t:St) (B E:TS→Int×TS) (ts:TS) (h:TOk ts) (hf:fresh (nmS t) ts)
  (hB:∀ ts,TOk ts→fresh (nmL t.body) ts→(B ts).1=0→TGo (nmL t.body) ts (B ts).2)
  (hE:∀ ts,TOk ts→fresh (nmL t.els) ts→(E ts).1=0→TGo (nmL t.els) ts (E ts).2)
  (h0:(stStep t B E ts).1=0):TGo (nmS t) ts (stStep t B E ts).2:=by
 rw [nmS_eq] at hf ⊢;unfold stStep at h0 ⊢;by_cases he:(qc8 ts.visible t).2.2≠0
 · rw [if_pos he] at h0;exact (he h0).elim
 rw [if_neg he] at h0 ⊢;by_cases h1:t.op=1
 ·
  rw [if_pos h1] at h0 ⊢;rw [if_pos (.inl h1)] at hf ⊢;exact (TGo.set h (hf.2 t.name (by simp)) _ _).mono' (fun k hk=>by simp at hk;simp [hk])
 rw [if_neg h1] at h0 ⊢;by_cases h2:t.op=2
 ·
  rw [if_pos h2];rcases qbm ts.visible t.name with _ | ty
  · exact .refl h _
  · exact .refl h _
 rw [if_neg h2] at h0 ⊢;by_cases h3:t.op=3
 · rw [if_pos h3];exact .refl h _
 rw [if_neg h3] at h0 ⊢;by_cases h4:t.op=4
 · rw [if_pos h4];exact .refl h _
 rw [if_neg h4] at h0 ⊢;by_cases h7:t.op=7
 · rw [if_pos h7];exact .refl h _
 rw [if_neg h7] at h0 ⊢;by_cases h5:t.op=5
 ·
  rw [if_pos h5] at h0 ⊢;by_cases h6:(qc8 ts.visible t).1≠3
  · rw [if_pos h6] at h0;simp at h0
  rw [if_neg h6] at h0 ⊢;by_cases h8:(qcg t.body B ts).1≠0
  · rw [if_pos h8] at h0;exact (h8 h0).elim
  rw [if_neg h8] at h0 ⊢;rw [if_neg (by omega),List.nil_append] at hf ⊢;have g1:=TGo.blk (l:=t.body) (fun g=>hB ts h hf.left g) (by simpa using h8);have g2:=TGo.blk (l:=t.els) (fun g=>hE _ g1.ok (hf.right g1) g) h0;exact g1.trans g2
 rw [if_neg h5] at h0 ⊢;by_cases h6:t.op=6
 ·
  rw [if_pos h6] at h0 ⊢;by_cases h8:(qc8 ts.visible t).1≠1∨(qc8 ts.visible t).2.1≠1
  · rw [if_pos h8] at h0;simp at h0
  rw [if_neg h8] at h0 ⊢;rw [if_pos (.inr h6)] at hf ⊢;have g0:=TGo.set h (hf.2 t.name (by simp)) 1 (qbz ts.loops t.name true);have g1:=TGo.blk (l:=t.body) (fun g=>hB _ g0.ok (hf.right g0).left g) h0;have g2:=g0.trans g1;exact ⟨g1.ok.del t.name,g2.mono,fun k hk=>by
   rcases g2.keys k hk with hk | hk
   · exact .inl hk
   ·
    refine .inr ?_;simp only [List.mem_append] at hk ⊢;rcases hk with hk | hk
    · exact .inl hk
    · exact .inr (.inl hk)⟩
 ·
  rw [if_neg h6];exact .refl h _
mutual
theorem go_st:∀ (t:St) (ts:TS),TOk ts→fresh (nmS t) ts→(stT t ts).1=0→TGo (nmS t) ts (stT t ts).2
 | .mk op name mx a b body els,ts,h,hf,h0=>by
  rw [stT_eq] at h0 ⊢;exact go_step (.mk op name mx a b body els) _ _ ts h hf (fun ts=>go_seq body ts) (fun ts=>go_seq els ts) h0
theorem go_seq:∀ (l:List St) (ts:TS),TOk ts→fresh (nmL l) ts→(qdb l ts).1=0→TGo (nmL l) ts (qdb l ts).2
 | [],ts,h,hf,h0=>by rw [qdb];exact .refl h _
 | t::l,ts,h,hf,h0=>by
  rw [qdb] at h0 ⊢;rw [nmL] at hf ⊢;split at h0
  · rename_i he;exact (he h0).elim
  rename_i he;rw [if_neg he];have g1:=go_st t ts h hf.left (by simpa using he);exact g1.trans (go_seq l _ g1.ok (hf.right g1) h0)
end
def tyS (G:Vis) (s:MS):Prop:=∀ k v ty,qbm s.vars k=some v→qbm G k=some ty→v.k=ty
def qbw (op:Int):Int:=if 10≤op∧op≤15 then 3 else (qcr op).2
section
variable {C:Cfg}
end
end Go.Cw

namespace Go.Cw
open Go Go.Abs
section
variable (C:Cfg)
end
structure Pre (G:Vis) (r p:Nat) (s:MS) (m:RM):Prop where
 inv:Inv r p s
 vm:vM s
 ty:tyS G s
 sim:Sim s m
theorem Sim.set {s:MS} {m:RM} (h:Sim s m) (k:qac) (v:V):Sim { s with vars:=qbz s.vars k v } { m with vars:=setR m.vars ⟨k,v⟩ }:=⟨fun x=>by
 simp only;rw [qc0,(setR_map _ _ _).1,(setR_map _ _ _).2];by_cases hx:k=x
 · simp [hx]
 · simp [hx,h.vars x],h.own,h.keys,h.out,h.reads,h.puts,h.steps,h.st,h.code,h.miss⟩
section
variable {C:Cfg} (hV:vC C) (hC:rngC C)
include hV hC
end
end Go.Cw

namespace Go.Cw
open Go Go.Abs
theorem Pre.mono {G:Vis} {r p r' p':Nat} {s:MS} {m:RM} (h:Pre G r p s m) (h1:r'≤r) (h2:p'≤p):Pre G r' p' s m:=⟨h.inv.mono h1 h2,h.vm,h.ty,h.sim⟩
theorem okS_op {t:St} {d:Nat} (h:okS t d):t.op=1∨t.op=2∨t.op=3∨t.op=4∨t.op=5∨t.op=6∨t.op=7∨t.op=8:=by
 have h1:=((qcm t d).1 h).1;unfold qbi at h1;by_cases hu:(qa4 t.op).2=false
 · rw [if_pos (.inl hu)] at h1;cases h1
 ·
  unfold qa4 at hu;split at hu
  · omega
  split at hu
  · omega
  split at hu
  · omega
  split at hu
  · omega
  split at hu
  · omega
  split at hu
  · omega
  · simp at hu
section
variable {C:Cfg} (hV:vC C) (hC:rngC C) {G:Vis}
include hV hC
end
section
variable {σ τ:Type} (fS:σ→St→Nat→σ) (fR:σ→Ex→σ) (gS:τ→St→Nat→τ) (gR:τ→Ex→τ)
theorem firstW_cnt (e:Ex) (x:Nat×σ) (y:Nat×τ) (h:x.1=y.1):(qbu fR e x).1=(qbu gR e y).1:=by
 unfold qbu;rw [h];split
 · exact h
 · rfl
mutual
theorem stW_cnt:∀ (s:St) (d:Nat) (x:Nat×σ) (y:Nat×τ),x.1=y.1→(stW fS fR s d x).1=(stW gS gR s d y).1
 | .mk _ _ _ a b body els,d,x,y,h=>by
  rw [stW,stW];exact blkW_cnt els _ _ _ (blkW_cnt body _ _ _ (firstW_cnt fR gR b _ _ (firstW_cnt fR gR a _ _ h)))
theorem blkW_cnt:∀ (l:List St) (d:Nat) (x:Nat×σ) (y:Nat×τ),x.1=y.1→(blkW fS fR l d x).1=(blkW gS gR l d y).1
 | [],d,x,y,h=>by rw [blkW,blkW];exact h
 | s::l,d,x,y,h=>by
  rw [blkW,blkW,h];split
  · exact h
  · exact blkW_cnt l d _ _ (stW_cnt s d _ _ rfl)
end
end
mutual
theorem stW_names:∀ (s:St) (d:Nat) (x:Nat×List qac),(stW qd4 qby s d x).1≠0→(stW qd4 qby s d x).2=x.2++(nmL s.body++nmL s.els)
 | .mk _ _ _ a b body els,d,x,h=>by
  rw [stW] at h ⊢;have hl:=blkW_le qd4 qby els (d+1) (blkW qd4 qby body (d+1) (qbu qby b (qbu qby a x)));rw [blkW_names els (d+1) _ h,blkW_names body (d+1) _ (by omega),firstW_keep,firstW_keep];simp [St.body,St.els]
theorem blkW_names:∀ (l:List St) (d:Nat) (x:Nat×List qac),(blkW qd4 qby l d x).1≠0→(blkW qd4 qby l d x).2=x.2++nmL l
 | [],d,x,h=>by rw [blkW,nmL];simp
 | s::l,d,x,h=>by
  rw [blkW] at h ⊢;split
  · rename_i hz;rw [if_pos hz] at h;exact (h hz).elim
  ·
   rename_i hz;rw [if_neg hz] at h;have hl:=blkW_le qd4 qby l d (stW qd4 qby s d (x.1 - 1,qd4 x.2 s d));rw [blkW_names l d _ h,stW_names s d _ (by omega),nmL,nmS_eq];unfold qd4;split<;>simp
end
theorem valid_left {p:Proc} (h:qb7 p=0):(blkW valS qby p.body 1 (401,(0:Int))).1≠0:=by
 unfold qb7 at h;split at h
 · contradiction
 split at h
 · contradiction
 simp only at h;split at h
 · contradiction
 ·
  rename_i h1;exact fun h2=>h1 ⟨h,h2⟩
theorem namesP_eq {p:Proc} (h:qb7 p=0):qcf p=p.params.map (·.name)++nmL p.body:=by
 unfold qcf;have hc:=blkW_cnt qd4 qby valS qby p.body 1 (401,p.params.map (·.name)) (401,(0:Int)) rfl
 exact blkW_names p.body 1 _ (by rw [hc];exact valid_left h)
theorem dupM_iff:∀ (l:List qac) (met:List (qac×Bool)),(∀ q∈met,q.2=true)→(dupM met l=false↔l.Nodup∧∀ x∈l,x∉qba met)
 | [],met,_=>by simp [dupM]
 | x::l,met,hm=>by
  have hs:∀ q∈qbz met x true,q.2=true:=fun q hq=>by
   rcases kSet_mem hq with rfl | hq
   · rfl
   · exact hm q hq
  rw [dupM,Bool.or_eq_false_iff,dupM_iff l _ hs,List.nodup_cons];have hx:(qbm met x).getD false=false↔x∉qba met:=by
   rw [← qcn];rcases hg:qbm met x with _ | v
   · simp
   ·
    have:=hm _ (kGet_mem hg);simp only at this;simp [this]
  rw [hx];simp only [qbx,List.mem_cons,forall_eq_or_imp,not_or];constructor
  ·
   rintro ⟨h1,h2,h3⟩;exact ⟨⟨fun hm=>(h3 x hm).1 rfl,h2⟩,h1,fun y hy=>(h3 y hy).2⟩
  ·
   rintro ⟨⟨h1,h2⟩,h3,h4⟩;exact ⟨h3,h2,fun y hy=>⟨fun e=>h1 (e▸hy),h4 y hy⟩⟩
theorem go_params:∀ (ps:List Param) (ts:TS),TOk ts→fresh (ps.map (·.name)) ts→TGo (ps.map (·.name)) ts (declP ps ts)
 | [],ts,h,_=>.refl h _
 | x::l,ts,h,hf=>by
  have hd:declP (x::l) ts=declP l (ts.decl x.name x.ty):=rfl;rw [hd];have hf':fresh ([x.name]++l.map (·.name)) ts:=hf
  have g:=TGo.set h (hf'.2 x.name (by simp)) x.ty ts.loops;exact g.trans (go_params l _ g.ok (hf'.right g))
end Go.Cw

namespace Go.Cw
open Go Go.Abs
structure RInv (r p:Nat) (m:RM):Prop where
 vr:∀ q∈m.vars,rngV q.v
 wr:∀ q∈m.own,rngV q.v
 s0:0≤m.steps
 s1:m.steps≤16384
 rd:((m.reads.length+r:Nat):Int)≤8192 * m.steps+8192
 pt:((m.puts.length+p:Nat):Int)≤m.steps
 ow:((m.own.length+p:Nat):Int)≤m.steps
 va:((m.vars.length+p:Nat):Int)≤m.steps+34359738368
 ot:m.out.length≤16
theorem RInv.mono {r p r' p':Nat} {m:RM} (h:RInv r p m) (h1:r'≤r) (h2:p'≤p):RInv r' p' m :=
 ⟨h.vr,h.wr,h.s0,h.s1,by have:=h.rd;omega,by have:=h.pt;omega,by have:=h.ow;omega,by have:=h.va;omega,h.ot⟩
theorem setR_len (l:List Pr) (p:Pr):(setR l p).length≤l.length+1:=by
 have:=posP_le p.key l;unfold setR restP;split<;>simp<;>omega
theorem setR_mem {l:List Pr} {p q:Pr} (h:q∈setR l p):q=p∨q∈l:=by
 unfold setR at h;simp only [List.mem_append,List.mem_cons] at h;rcases h with h | h | h
 · exact .inr (List.mem_of_mem_take h)
 · exact .inl h
 · exact .inr (List.mem_of_mem_drop h)
section
variable {C:Cfg} (hC:rngC C)
include hC
end
theorem RInv.store {C:Cfg} {r p:Nat} {m:RM} (h:RInv r (p+1) m) {v:V} (hv:rngV v) (k:qac) (h0:(storeR C m k v).st=0):RInv r p (storeR C m k v):=by
 unfold storeR at h0 ⊢;split at h0
 · simp [RM.ab] at h0
 rename_i h1;rw [if_neg h1];split at h0
 · simp [RM.rst] at h0
 rename_i h2;rw [if_neg h2];refine ⟨h.vr,fun q hq=>?_,h.s0,h.s1,h.rd,?_,?_,by have:=h.va;simp only;omega,h.ot⟩
 ·
  rcases setR_mem hq with rfl | hq
  · exact hv
  · exact h.wr q hq
 ·
  have:=withS_len m.puts k;have:=h.pt;simp only;omega
 ·
  have:=setR_len m.own ⟨k,v⟩;have:=h.ow;simp only;omega
theorem RInv.emit {r p:Nat} {m:RM} (h:RInv r p m) {v:V} (h0:(emitR m v).st=0):RInv r p (emitR m v):=by
 unfold emitR at h0 ⊢;split at h0
 · simp [RM.ab] at h0
 rename_i h1;rw [if_neg h1];refine ⟨h.vr,h.wr,h.s0,h.s1,h.rd,h.pt,h.ow,h.va,?_⟩;simp only [List.length_append,List.length_singleton];omega
section
variable {C:Cfg} (hC:rngC C) (hf:∀ n,i64 n→qb1 (C.fmt n)=true)
include hC hf
end
end Go.Cw

namespace Go.Cw
open Go Go.Abs
def firstV:List Pr→List (qac×V)→List (qac×V)
 | [],m=>m
 | p::l,m=>firstV l (if (qbm m p.key).isSome=true then m else qbz m p.key p.v)
theorem firstV_all {P:V→Prop}:∀ (l:List Pr) (m:List (qac×V)),(∀ q∈l,P q.v)→(∀ q∈m,P q.2)→∀ q∈firstV l m,P q.2
 | [],m,_,h=>by rw [firstV];exact h
 | p::l,m,hl,h=>by
  rw [firstV];refine firstV_all l _ (fun q hq=>hl q (by simp [hq])) ?_;split
  · exact h
  ·
   intro q hq;rcases kSet_mem hq with rfl | hq
   · exact hl p (by simp)
   · exact h q hq
def varsOk (l:List Pr):Bool:=l.all fun q=>varOk q.v.k q.v.n q.v.s
def evOk (e:Ex) (st:List Pr) (ft:Foot):Prop:=¬ (chkE e 1≠0∨qc1 st=false∨footOk ft.all ft.reads ft.writes=false)
instance (e:Ex) (st:List Pr) (ft:Foot):Decidable (evOk e st ft):=inferInstanceAs (Decidable (¬ _))
abbrev msV (vars:List Pr):MS:=⟨firstV vars [],[],[],[],[],0⟩
def endS:EV×MS→V×Eff
 | (.error z,s)=>(V.nil,doneS (.error z,s))
 | (.ok v,s)=>(v,doneS (.ok (),s))
def evalS (fmt:Int→qac) (e:Ex) (vars st:List Pr) (ft:Foot):V×Eff :=
 if evOk e st ft∧varsOk vars=true then endS (evE (cfgR fmt st ft) e (msV vars)) else (V.nil,wrongE)
structure EvIn (fmt:Int→qac) (e:Ex) (vs st:List Pr):Prop where
 fmt:∀ n,i64 n→qb1 (fmt n)=true
 ex:rngX e
 vars:∀ q∈vs,rngV q.v
 st:∀ q∈st,rngV q.v
 len:vs.length≤34359738368
theorem evOk_iff {e:Ex} {st:List Pr} {ft:Foot}:evOk e st ft↔chkE e 1=0∧qc1 st=true∧footOk ft.all ft.reads ft.writes=true:=by
 unfold evOk;simp only [not_or,Decidable.not_not,Bool.not_eq_false]
end Go.Cw

namespace Go.Cw
open Go Go.Abs
abbrev MV:=qac→Option AX
def unk:AX:=⟨false,V.nil⟩
def kn (v:V):AX:=⟨true,v⟩
structure XS where
 r:List qac
 w:List qac
 f:Bool
def addS (l:List qac) (s:qac):List qac:=if hasK l s=true then l else l++[s]
theorem hasK_mem {l:List qac} {s:qac}:hasK l s=true↔s∈l:=by
 unfold hasK
 induction l with
 | nil=>simp [anyL]
 | cons x l ih =>
  simp only [anyL,Bool.or_eq_true,decide_eq_true_eq,ih,List.mem_cons];exact ⟨fun h=>h.imp (fun e=>e.symm) id,fun h=>h.imp (fun e=>e.symm) id⟩
def boAV (b:Bool):AV:=Bo b
abbrev tru (l:List qac):List (qac×Bool):=l.map fun s=>(s,true)
theorem kSet_tru (s:qac):∀ (l:List qac),qbz (tru l) s true=tru (addS l s)
 | []=>by simp [qbz,addS,hasK,anyL]
 | x::l=>by
  by_cases h:x=s
  ·
   subst h;simp [qbz,addS,hasK,anyL]
  ·
   have ih:=kSet_tru s l;have e:addS (x::l) s=x::addS l s:=by
    have e1:hasK (x::l) s=hasK l s:=by simp [hasK,anyL,h]
    unfold addS;rw [e1];split<;>simp
   simp only [tru,List.map_cons,qbz,if_neg h,e] at ih ⊢;rw [ih]
theorem addS_nodup {l:List qac} (h:l.Nodup) (s:qac):(addS l s).Nodup:=by
 unfold addS;split
 · exact h
 ·
  rename_i hs;exact List.nodup_append.2 ⟨h,by simp,fun a ha b hb=>by simp at hb;subst hb;rintro rfl;exact hs (hasK_mem.2 ha)⟩
theorem mem_addS {l:List qac} {s x:qac}:x∈addS l s↔x∈l∨x=s:=by
 unfold addS;split
 ·
  rename_i h;exact ⟨.inl,fun h'=>h'.elim id fun e=>e▸hasK_mem.1 h⟩
 · simp
def keyX (wr:Bool) (a:AX) (x:XS):Bool×XS :=
 if a.known=false then (false,⟨x.r,x.w,true⟩) else if keyOk a.v.s=false then (false,x)
 else (true,if wr then ⟨x.r,addS x.w a.v.s,x.f⟩ else ⟨addS x.r a.v.s,x.w,x.f⟩)
def abL:List qac:=[⟨#[97]⟩,⟨#[98]⟩]
def varEx (s:qac):Ex:=.mk 3 0 s []
def qc6 (n:Nat):List Ex:=(abL.take n).map varEx
def qcq (vs:List V):List Pr:=(abL.zip vs).map fun p=>⟨p.1,p.2⟩
def apE (fmt:Int→qac) (op:Int) (vs:List V):V×Eff:=evalS fmt (.mk op 0 em (qc6 vs.length)) (qcq vs) [] ⟨false,[],[]⟩
def apS (fmt:Int→qac) (op:Int) (vs:List V):AX×Bool:=(kn (apE fmt op vs).1,decide ((apE fmt op vs).2.status=1))
def updF (f:MV) (s:qac) (a:AX):MV:=fun k=>if s=k then some a else f k
def axEq (x y:AX):Bool:=decide (x.known=y.known)&&eqVal x.v y.v
theorem axEq_iff {x y:AX}:axEq x y=true↔x=y:=by
 rcases x with ⟨k,a,b,c⟩;rcases y with ⟨k',a',b',c'⟩;simp [axEq,eqVal]
def jn (x:AX):Option AX→AX
 | none=>unk
 | some y=>if axEq x y=true then x else unk
def joinF (f g:MV):MV:=fun k=>(f k).map fun x=>jn x (g k)
section
variable (fmt:Int→qac)
mutual
def exE:Ex→MV→XS→(AX×Bool)×XS
 | .mk op n s args,f,x =>
  if op=1 then ((kn (vI n),true),x)
  else if op=2 then ((kn (vS s),true),x)
  else if op=3 then (((f s).getD unk,true),x)
  else match exL args f x with
   | (none,x')=>((unk,false),x')
   | (some l,x') =>
    if op=22∨op=23∨op=24 then ((unk,(keyX false (l.headD unk) x').1),(keyX false (l.headD unk) x').2)
    else if l.all (·.known)=false then ((unk,true),x')
    else (apS fmt op (l.map (·.v)),x')
def exL:List Ex→MV→XS→Option (List AX)×XS
 | [],_,x=>(some [],x)
 | e::l,f,x=>match exE e f x with
  | ((_,false),x')=>(none,x')
  | ((a,true),x')=>match exL l f x' with
   | (none,x'')=>(none,x'')
   | (some r,x'')=>(some (a::r),x'')
end
theorem exE_eq (e:Ex) (f:MV) (x:XS):exE fmt e f x =
  if e.op=1 then ((kn (vI e.n),true),x)
  else if e.op=2 then ((kn (vS e.s),true),x)
  else if e.op=3 then (((f e.s).getD unk,true),x)
  else match exL fmt e.args f x with
   | (none,x')=>((unk,false),x')
   | (some l,x') =>
    if e.op=22∨e.op=23∨e.op=24 then ((unk,(keyX false (l.headD unk) x').1),(keyX false (l.headD unk) x').2)
    else if l.all (·.known)=false then ((unk,true),x')
    else (apS fmt e.op (l.map (·.v)),x'):=by cases e;rw [exE];rfl
def cntX (body:MV→XS→Option MV×XS) (name:qac):Nat→Int→MV→XS→Option MV×XS
 | 0,_,f,x=>(some f,x)
 | n+1,i,f,x=>match body (updF f name (kn (vI i))) x with
  | (none,x')=>(none,x')
  | (some f',x')=>cntX body name n (i+1) f' x'
def repX (body:MV→XS→Option MV×XS) (name:qac):Nat→MV→XS→Option MV×XS
 | 0,f,x=>(some f,x)
 | n+1,f,x=>match body (updF f name unk) x with
  | (o,x')=>if x'.f=true then (none,x') else match o with
   | none=>(some f,x')
   | some f'=>repX body name n (joinF f f') x'
def brX (r1:Option MV×XS) (e:XS→Option MV×XS):Option MV×XS :=
 if r1.2.f=true then (none,r1.2)
 else if (e r1.2).2.f=true then (none,(e r1.2).2)
 else (match r1.1,(e r1.2).1 with
  | none,o=>o
  | some f,none=>some f
  | some f,some g=>some (joinF f g),(e r1.2).2)
mutual
def exSt:St→MV→XS→Option MV×XS
 | .mk op name mx a b body els,f,x =>
  if op=8 then (none,x)
  else match exE fmt a f x with
  | ((_,false),x1)=>(none,x1)
  | ((va,true),x1) =>
   if op=1∨op=2 then (some (updF f name va),x1)
   else if op=7 then (some f,x1)
   else if op=4 then (if (keyX true va x1).1 then some f else none,(keyX true va x1).2)
   else if op=5 then
    (if va.known=true∧va.v.n=1 then exBl body f x1
    else if va.known=true then exBl els f x1
    else brX (exBl body f x1) fun x=>exBl els f x)
   else match exE fmt b f x1 with
   | ((_,false),x2)=>(none,x2)
   | ((vb,true),x2) =>
    if op=3 then (if (keyX true va x2).1 then some f else none,(keyX true va x2).2)
    else if va.known=true∧vb.known=true then
     (if va.v.n<vb.v.n∧((numSub vb.v.n va.v.n).2≠0∨mx<(numSub vb.v.n va.v.n).1) then (none,x2)
     else cntX (fun f x=>exBl body f x) name (vb.v.n - va.v.n).toNat va.v.n f x2)
    else repX (fun f x=>exBl body f x) name mx.toNat f x2
def exBl:List St→MV→XS→Option MV×XS
 | [],f,x=>(some f,x)
 | t::l,f,x=>match exSt t f x with
  | (none,x')=>(none,x')
  | (some f',x')=>exBl l f' x'
end
theorem exSt_eq (t:St) (f:MV) (x:XS):exSt fmt t f x =
  if t.op=8 then (none,x)
  else match exE fmt t.a f x with
  | ((_,false),x1)=>(none,x1)
  | ((va,true),x1) =>
   if t.op=1∨t.op=2 then (some (updF f t.name va),x1)
   else if t.op=7 then (some f,x1)
   else if t.op=4 then (if (keyX true va x1).1 then some f else none,(keyX true va x1).2)
   else if t.op=5 then
    (if va.known=true∧va.v.n=1 then exBl fmt t.body f x1
    else if va.known=true then exBl fmt t.els f x1
    else brX (exBl fmt t.body f x1) fun x=>exBl fmt t.els f x)
   else match exE fmt t.b f x1 with
   | ((_,false),x2)=>(none,x2)
   | ((vb,true),x2) =>
    if t.op=3 then (if (keyX true va x2).1 then some f else none,(keyX true va x2).2)
    else if va.known=true∧vb.known=true then
     (if va.v.n<vb.v.n∧((numSub vb.v.n va.v.n).2≠0∨t.max<(numSub vb.v.n va.v.n).1) then (none,x2)
     else cntX (fun f x=>exBl fmt t.body f x) t.name (vb.v.n - va.v.n).toNat va.v.n f x2)
    else repX (fun f x=>exBl fmt t.body f x) t.name t.max.toNat f x2:=by cases t;rw [exSt];rfl
end
def initF:List Param→List V→MV→MV
 | p::ps,v::vs,f=>initF ps vs (updF f p.name (kn v))
 | _,_,f=>f
def statS (fmt:Int→qac) (p:Proc) (args:List V):Foot×Int :=
 if qbn p≠0∨qcp p args≠0 then (⟨false,[],[]⟩,1)
 else if (exBl fmt p.body (initF p.params args fun _=>none) ⟨[],[],false⟩).2.f=true then (⟨false,[],[]⟩,9)
 else if 64<(exBl fmt p.body (initF p.params args fun _=>none) ⟨[],[],false⟩).2.r.length∨64<(exBl fmt p.body (initF p.params args fun _=>none) ⟨[],[],false⟩).2.w.length then (⟨false,[],[]⟩,2)
 else (⟨false,qdo (exBl fmt p.body (initF p.params args fun _=>none) ⟨[],[],false⟩).2.r,qdo (exBl fmt p.body (initF p.params args fun _=>none) ⟨[],[],false⟩).2.w⟩,0)
end Go.Cw

namespace Go.Cw
open Go Go.Abs
structure YH (P:Program) (l:Nat) (HF:Nat→qab) (HX:Nat→Ex→qab) (stop:Ex→Bool) (n0:Nat):Prop where
 len:∀ k,(HF k).length=n0
 lenX:∀ k x,(HX k x).length=n0
 und:∀ k,hUnder n0 (HF k)=true
 undX:∀ k x,hUnder n0 (HX k x)=true
 y:∀ k (x:Ex) (L:qab),AYield P l [.agg x.x] (HF k++L) fun r h'=>(stop x=true→r=.ret (Bo false)∧h'=HX k x++L)∧(stop x=false→r=.ret (Bo true)∧h'=HF (k+1)++L)
theorem YH.ext {P:Program} {l:Nat} {HF:Nat→qab} {HX:Nat→Ex→qab} {stop:Ex→Bool} {n0:Nat} (Y:YH P l HF HX stop n0) (L:qab) (hL:hUnder (n0+L.length) L=true):YH P l (fun k=>HF k++L) (fun k x=>HX k x++L) stop (n0+L.length) where
 len:=fun k=>by rw [List.length_append,Y.len]
 lenX:=fun k x=>by rw [List.length_append,Y.lenX]
 und:=fun k=>by rw [qan,qas (by omega) (Y.und k),hL];rfl
 undX:=fun k x=>by rw [qan,qas (by omega) (Y.undX k x),hL];rfl
 y:=fun k x L'=>by simpa [List.append_assoc] using Y.y k x (L++L')
def finY (HF:Nat→qab) (HX:Nat→Ex→qab) (r:Nat×Option Ex):qab:=match r.2 with
 | none=>HF r.1
 | some e=>HX r.1 e
def gM (ms:List (Option Nat)):qab:=ms.map fun | none=>.none | some D=>qdq D
def dM (ms:List (Option Nat)):List Deferred:=(ms.filterMap id).reverse.map coll
def idxM:Nat→List (Option Nat)→List (Nat×Nat)
 | _,[]=>[]
 | k,none::l=>idxM (k+1) l
 | k,some D::l=>idxM (k+1) l++[(k,D)]
theorem idxM_coll:∀ (ms:List (Option Nat)) (k:Nat),(idxM k ms).map (fun p=>coll p.2)=dM ms
 | [],_=>rfl
 | none::l,k=>by simp only [idxM,idxM_coll l];rfl
 | some D::l,k=>by simp [idxM,idxM_coll l,dM]
theorem idxM_ge:∀ (ms:List (Option Nat)) (k:Nat) (p:Nat×Nat),p∈idxM k ms→k≤p.1∧p.1<k+ms.length∧(gM ms)[p.1 - k]?=some (qdq p.2)
 | [],_,p,h=>by simp [idxM] at h
 | none::l,k,p,h=>by
  obtain ⟨h1,h2,h3⟩:=idxM_ge l (k+1) p h;refine ⟨by omega,by simp;omega,?_⟩;rw [show p.1 - k=(p.1 - (k+1))+1 by omega];exact h3
 | some D::l,k,p,h=>by
  rw [idxM,List.mem_append] at h;rcases h with h | h
  ·
   obtain ⟨h1,h2,h3⟩:=idxM_ge l (k+1) p h;refine ⟨by omega,by simp;omega,?_⟩;rw [show p.1 - k=(p.1 - (k+1))+1 by omega];exact h3
  ·
   simp at h;subst h;refine ⟨by simp,by simp,?_⟩;simp [gM]
theorem idxM_nodup:∀ (ms:List (Option Nat)) (k:Nat),((idxM k ms).map (·.1)).Nodup
 | [],_=>List.nodup_nil
 | none::l,k=>idxM_nodup l (k+1)
 | some D::l,k=>by
  rw [idxM,List.map_append,List.nodup_append];refine ⟨idxM_nodup l (k+1),by simp,fun a ha b hb=>?_⟩;rw [List.mem_map] at ha;obtain ⟨p,hp,rfl⟩:=ha;have:=(idxM_ge l (k+1) p hp).1;simp at hb;omega
theorem takeA:∀ (l:List (Nat×Nat)) (A Z:qab),(∀ p,p∈l→A.length≤p.1)→∃ Z',takeAll l (A++Z)=A++Z'
 | [],A,Z,_=>⟨Z,rfl⟩
 | p::l,A,Z,h=>by
  rw [takeAll,List.set_append_right _ _ (h p (by simp))];exact takeA l A _ fun q hq=>h q (by simp [hq])
theorem gM_app (a b:List (Option Nat)):gM (a++b)=gM a++gM b:=by simp [gM]
theorem dM_snoc (ms:List (Option Nat)) (D:Nat):dM (ms++[none,none,some D])=coll D::dM ms:=by simp [dM,List.filterMap_append]
theorem gM_und (ms:List (Option Nat)) (m:Nat):hUnder m (gM ms)=true:=by
 rw [hUnder_iff];intro o ho;simp only [gM,List.mem_map] at ho;obtain ⟨x,_,rfl⟩:=ho;cases x<;>rfl
section
variable {P:Program} {E:Ent} {p:Tmp} {asg body:Code}
def recA (E:Ent) (e:Env) (p:Tmp) (asg body:Code) (l D:Nat) (fn:FuncId) (st:LoopState) (pe:Option Code):AObj:=.raw l (recO st pe fn #[p] asg body D) (slots E.N e)
def roundJ (E:Ent) (idx:Nat) (r0 rb rd:AObj) (R:AEnd→qab→Prop):AExit→List Deferred→Env→Prop
 | .normal,_,e=>e.h[idx]?=some rb∧∃ h',Wk E ⟨[],e.h.set idx r0⟩ ⟨[],h'⟩∧R (.ret (.val (.bool true))) h'
 | .ret,_,e=>e.h[idx]?=some rb∧∃ h',Wk E ⟨[],e.h.set idx rd⟩ ⟨[],h'⟩∧R (.ret (.val (.bool false))) h'
 | _,_,_=>False
theorem awpI_rangeY {g:Operand} {gf:FuncId} {caps:List AV} {Q:AExit→List Deferred→Env→Prop} {ds:List Deferred} {e:Env} (hg:e.get g=.fn (.func gf) [] caps) (hcaps:∀ H,qbf H caps=caps)
  (B:Nat→qab) (X:Nat→Ex→qab) (stop:Ex→Bool) (xs:List Ex) (k n0:Nat) (hB:e.h=B k) (len:∀ j,(B j).length=n0) (lenX:∀ j x,(X j x).length=n0) (und:∀ j,hUnder n0 (B j)=true) (undX:∀ j x,hUnder n0 (X j x)=true)
  (hsl:qam n0 (slots E.N e)=true) (hp:p<E.N)
  (hit:∀ (l:Nat) (L:qab) (HX:Nat→Ex→qab) (n1:Nat),YH P l (fun j=>B j++L) HX stop n1→ACalls P gf ([.fn (.yield l) [] []]++caps) (B k++L) fun r h'=>r=.ret (.tuple [])∧h'=finY (fun j=>B j++L) HX (scan stop xs k))
  (hround:∀ (E':Ent) (l D j:Nat) (x:Ex) (L:qab) (r0 rb rd:AObj),(∀ m,n0≤m→r0.under m=true∧rb.under m=true∧rd.under m=true)→E'.N=E.N→E'.h=B j++qdq D::r0::L→hUnder E'.h.length E'.h=true→(AV.agg x.x).bd →
   AWpI P E' (some l) asg (thenI (fun ds e1=>ds=[]∧e1.h[n0+1]?=some r0 ∧
    AWpI P E' (some l) body (roundJ E' (n0+1) r0 rb rd fun r h' =>
     (stop x=true→r=.ret (Bo false)∧h'=X j x++qdq D::rd::L)∧(stop x=false→r=.ret (Bo true)∧h'=B (j+1)++qdq D::r0::L))
     [] ⟨e1.t,e1.h.set (n0+1) rb⟩) (fun _ _ _=>False)) [] ⟨(p,.agg x.x)::qdp 0 (slots E.N e),E'.h⟩)
  (hdone:∀ (j D:Nat) (o:AObj),scan stop xs k=(j,none)→Q .normal (coll D::ds) ⟨e.t,B j++[qdq D,o]⟩)
  (hstop:∀ (j:Nat) (x:Ex) (D:Nat) (o:AObj),scan stop xs k=(j,some x)→Q .ret (coll D::ds) ⟨e.t,X j x++[qdq D,o]⟩) :
  AWpI P E none (.rangeFunc g #[p] asg body) Q ds e:=by
 refine awpI_range hg fun fn D l=>?_;have hL:∀ st pe,hUnder (n0+2) [qdq D,recA E e p asg body l D fn st pe]=true:=fun st pe=>by
  simp only [hUnder,qdq,recA,AObj.under,qam,Bool.true_and,Bool.and_true];exact qcd (by omega) _ hsl
 have hnl:qbf (e.h++[qdq D,.raw l (recO .ready none fn #[p] asg body D) (slots E.N e)]) ([.fn (.yield l) [] []]++caps)=[.fn (.yield l) [] []]++caps:=by
  have:∀ (a b:List AV) H,qbf H (a++b)=qbf H a++qbf H b:=fun a b H=>by
   induction a with
   | nil=>rfl
   | cons x a ih=>simp [qbf,ih]
  rw [this,hcaps];simp [qbf,AV.norm]
 rw [hnl,hB];have Y:YH P l (fun j=>B j++[qdq D,recA E e p asg body l D fn .ready none]) (fun j x=>X j x++[qdq D,recA E e p asg body l D fn .done (some .ret)]) stop (n0+2):={
  len:=fun j=>by simp [len]
  lenX:=fun j x=>by simp [lenX]
  und:=fun j=>by rw [qan,qas (by omega) (und j),hL];rfl
  undX:=fun j x=>by rw [qan,qas (by omega) (undX j x),hL];rfl
  y:=fun j x L=>by
   have hidx:(B j++[qdq D,recA E e p asg body l D fn .ready none]++L)[n0+1]?=some (.raw l (recO .ready none fn #[p] asg body D) (slots E.N e)):=by
    rw [List.append_assoc,List.getElem?_append_right (by rw [len];omega),len,show n0+1 - n0=1 by omega];rfl
   refine ayield_of hidx (by simpa [slots] using hp) fun E' hN hh hu hbd _=>?_;have hN':E'.N=E.N:=by rw [hN];simp [slots]
   have hh':E'.h=B j++qdq D::recA E e p asg body l D fn .ready none::L:=by rw [hh];simp
   have hun:∀ st pe m,n0≤m→(recA E e p asg body l D fn st pe).under m=true:=fun st pe m hm=>qcd hm _ hsl;have:=hround E' l D j x L _ (recA E e p asg body l D fn .busy none) (recA E e p asg body l D fn .done (some .ret)) (fun m hm=>⟨hun _ _ m hm,hun _ _ m hm,hun _ _ m hm⟩) hN' hh' (by rw [hh];exact hu) hbd;have hJ:∀ R,roundJ E' (n0+1) (recA E e p asg body l D fn .ready none) (recA E e p asg body l D fn .busy none) (recA E e p asg body l D fn .done (some .ret)) R=roundI E' (n0+1) l fn #[p] asg body D (slots E.N e) R:=fun R=>by
    funext x ds e;cases x<;>rfl
   rw [hJ,hh'] at this;simpa [recA] using this }
 refine (hit l [qdq D,recA E e p asg body l D fn .ready none] _ (n0+2) Y).mono ?_;rintro r h' ⟨rfl,rfl⟩;refine ⟨⟨_,rfl⟩,?_⟩;rcases hsc:scan stop xs k with ⟨j,_ | x⟩
 ·
  refine ⟨.ready,none,by simp,?_,?_⟩
  ·
   simp only [finY];rw [List.getElem?_append_right (by rw [len,len];omega),len,len,show n0+1 - n0=1 by omega];rfl
  ·
   simp only [finY];rw [List.set_append_right _ _ (by rw [len,len];omega),len,len,show n0+1 - n0=1 by omega];exact hdone j D _ hsc
 ·
  refine ⟨.done,some .ret,by simp,?_,?_⟩
  ·
   simp only [finY];rw [List.getElem?_append_right (by rw [len,lenX];omega),len,lenX,show n0+1 - n0=1 by omega];rfl
  ·
   simp only [finY];rw [List.set_append_right _ _ (by rw [len,lenX];omega),len,lenX,show n0+1 - n0=1 by omega];exact awpI_ret (hstop j x D _ hsc)
end
end Go.Cw

namespace Go.Cw
open Go Go.Abs
abbrev xC (ir iw:Nat) (f:Bool):List AV:=[.mapr ir,.mapr iw,Bo f]
abbrev setO (l:List qac):AObj:=.map (kAV boAV (tru l))
theorem kvSet_bo (l:List qac) (s:qac):qbv (kvSet ((tru l).map fun p=>(p.1,boAV p.2)) s (.val (.bool true)))=kAV boAV (tru (addS l s)):=by
 rw [← kSet_tru];exact kvSet_map boAV (tru l) s true
structure PH (tb:AObj) (g p ir iw:Nat) (K:XS→qab) (n0:Nat):Prop where
 len:∀ x,(K x).length=n0
 hg:g<n0
 hp:p<n0
 hr:ir<n0
 hw:iw<n0
 lg:∀ x,(K x)[g]?=some tb
 lp:∀ x,(K x)[p]?=some (.cells (xC ir iw x.f))
 lr:∀ x,(K x)[ir]?=some (setO x.r)
 lw:∀ x,(K x)[iw]?=some (setO x.w)
 sp:∀ (x:XS) (b:Bool),(K x).set p (.cells (xC ir iw b))=K ⟨x.r,x.w,b⟩
 sr:∀ (x:XS) (l:List qac),(K x).set ir (setO l)=K ⟨l,x.w,x.f⟩
 sw:∀ (x:XS) (l:List qac),(K x).set iw (setO l)=K ⟨x.r,l,x.f⟩
 und:∀ x,hUnder n0 (K x)=true
section
variable {tb:AObj} {g p ir iw:Nat} {K:XS→qab} {n0:Nat}
theorem PH.gl (Y:PH tb g p ir iw K n0) {i:Nat} (hi:i<n0) (q:XS) (l:qab):(K q++l)[i]?=(K q)[i]?:=List.getElem?_append_left (by rw [Y.len];exact hi)
theorem PH.lg' (Y:PH tb g p ir iw K n0) (q:XS) (l:qab):(K q++l)[g]?=some tb:=by rw [Y.gl Y.hg,Y.lg]
theorem PH.lp' (Y:PH tb g p ir iw K n0) (q:XS) (l:qab):(K q++l)[p]?=some (.cells (xC ir iw q.f)):=by rw [Y.gl Y.hp,Y.lp]
theorem PH.lr' (Y:PH tb g p ir iw K n0) (q:XS) (l:qab):(K q++l)[ir]?=some (setO q.r):=by rw [Y.gl Y.hr,Y.lr]
theorem PH.lw' (Y:PH tb g p ir iw K n0) (q:XS) (l:qab):(K q++l)[iw]?=some (setO q.w):=by rw [Y.gl Y.hw,Y.lw]
theorem PH.sl (Y:PH tb g p ir iw K n0) {i:Nat} (hi:i<n0) (q:XS) (y:AObj) (l:qab):(K q++l).set i y=(K q).set i y++l:=List.set_append_left _ _ (by rw [Y.len];exact hi)
theorem PH.sp' (Y:PH tb g p ir iw K n0) (q:XS) (b:Bool) (l:qab):(K q++l).set p (.cells (xC ir iw b))=K ⟨q.r,q.w,b⟩++l:=by rw [Y.sl Y.hp,Y.sp]
theorem PH.sr' (Y:PH tb g p ir iw K n0) (q:XS) (x:List qac) (l:qab):(K q++l).set ir (setO x)=K ⟨x,q.w,q.f⟩++l:=by rw [Y.sl Y.hr,Y.sr]
theorem PH.sw' (Y:PH tb g p ir iw K n0) (q:XS) (x:List qac) (l:qab):(K q++l).set iw (setO x)=K ⟨q.r,x,q.f⟩++l:=by rw [Y.sl Y.hw,Y.sw]
theorem PH.und' (Y:PH tb g p ir iw K n0) (q:XS):hUnder (K q).length (K q)=true:=by rw [Y.len];exact Y.und q
theorem PH.loc (Y:PH tb g p ir iw K n0) (q:XS) (k:Nat) (l:qab):(K q++l)[n0+k]?=l[k]?:=by rw [List.getElem?_append_right (by rw [Y.len];omega),Y.len,show n0+k - n0=k by omega]
theorem PH.loc0 (Y:PH tb g p ir iw K n0) (q:XS) (l:qab):(K q++l)[n0]?=l[0]?:=Y.loc q 0 l
theorem PH.sloc (Y:PH tb g p ir iw K n0) (q:XS) (k:Nat) (y:AObj) (l:qab):(K q++l).set (n0+k) y=K q++l.set k y:=by
 rw [List.set_append_right _ _ (by rw [Y.len];omega),Y.len,show n0+k - n0=k by omega]
theorem PH.sloc0 (Y:PH tb g p ir iw K n0) (q:XS) (y:AObj) (l:qab):(K q++l).set n0 y=K q++l.set 0 y:=Y.sloc q 0 y l
theorem PH.undA (Y:PH tb g p ir iw K n0) (q:XS) (l:qab) (k:Nat):hUnder (n0+k) (K q++l)=hUnder (n0+k) l:=by rw [qan,qas (by omega) (Y.und q)];rfl
theorem PH.ext (Y:PH tb g p ir iw K n0) (L:qab) (hL:hUnder (n0+L.length) L=true):PH tb g p ir iw (fun q=>K q++L) (n0+L.length) where
 len:=fun s=>by rw [List.length_append,Y.len]
 hg:=by have:=Y.hg;omega
 hp:=by have:=Y.hp;omega
 hr:=by have:=Y.hr;omega
 hw:=by have:=Y.hw;omega
 lg:=fun q=>Y.lg' q L
 lp:=fun q=>Y.lp' q L
 lr:=fun q=>Y.lr' q L
 lw:=fun q=>Y.lw' q L
 sp:=fun q b=>Y.sp' q b L
 sr:=fun q x=>Y.sr' q x L
 sw:=fun q x=>Y.sw' q x L
 und:=fun q=>by rw [qan,qas (by omega) (Y.und q),hL];rfl
end
structure VM (K:XS→qab) (i:Nat) (f:MV) (l:List (qac×AX)):Prop where
 lm:∀ x,(K x)[i]?=some (.map (kAV qcu l))
 nod:(keysM l).Nodup
 get:∀ k,qbm l k=f k
end Go.Cw
