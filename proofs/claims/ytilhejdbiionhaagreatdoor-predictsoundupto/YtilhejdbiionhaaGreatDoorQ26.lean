/- Part 26 of a proof: CwSa, CwSb, CwSc, CwVe, CwVf, CwPb -/
import Derived.Test.YtilhejdbiionhaaGreatDoorQ17
import Derived.Test.YtilhejdbiionhaaGreatDoorQ23
import Derived.Test.YtilhejdbiionhaaGreatDoorQ25
set_option linter.all false

namespace Go.Cw
open Go Go.Abs
abbrev Vis:=List (qab×Int)
def subV (a b:Vis):Prop:=∀ k ty,qa7 a k=some ty→qa7 b k=some ty
theorem subV.refl (a:Vis):subV a a:=fun _ _ h=>h
theorem subV.trans {a b c:Vis} (h:subV a b) (g:subV b c):subV a c:=fun k ty e=>g k ty (h k ty e)
def qba {α:Type} (l:List (qab×α)):List qab:=l.map (·.1)
theorem qcs {α:Type}:∀ {l:List (qab×α)} {k:qab},qa7 l k=none↔k∉qba l
 | [],k=>by simp [qa7,qba]
 | p::l,k=>by
  have ih:=qcs (l:=l) (k:=k);simp only [qa7,qba,List.map_cons,List.mem_cons,not_or] at ih ⊢;by_cases h:p.1=k
  · simp [h]
  ·
   rw [if_neg h,ih];exact ⟨fun g=>⟨fun e=>h e.symm,g⟩,fun g=>g.2⟩
theorem qbv {α:Type}:∀ (l:List (qab×α)) (k:qab) (v:α) (x:qab),x∈qba (qbk l k v)↔x=k∨x∈qba l
 | [],k,v,x=>by simp [qbk,qba]
 | p::l,k,v,x=>by
  have ih:=qbv l k v x;rw [qbk];split
  ·
   rename_i h;subst h;simp [qba]
  ·
   simp only [qba,List.map_cons,List.mem_cons] at ih ⊢;rw [ih];constructor
   · rintro (h | h | h)<;>simp [h]
   · rintro (h | h | h)<;>simp [h]
theorem nodV_set {α:Type}:∀ (l:List (qab×α)) (k:qab) (v:α),(qba l).Nodup→(qba (qbk l k v)).Nodup
 | [],k,v,_=>by simp [qbk,qba]
 | p::l,k,v,h=>by
  have h':p.1∉qba l∧(qba l).Nodup:=List.nodup_cons.1 h;rw [qbk];split
  ·
   rename_i e;subst e;exact h
  ·
   rename_i e;refine List.nodup_cons.2 ⟨fun hm=>?_,nodV_set l k v h'.2⟩;rcases (qbv l k v _).1 hm with e' | hm
   · exact e e'
   · exact h'.1 hm
theorem kDel_sub {α:Type}:∀ (l:List (qab×α)) (k:qab),(kDel l k).Sublist l
 | [],_=>by simp [kDel]
 | p::l,k=>by
  rw [kDel];split
  · exact List.sublist_cons_self _ _
  · exact (kDel_sub l k).cons₂ _
theorem kGet_of_mem {α:Type}:∀ {l:List (qab×α)} {k:qab} {v:α},(qba l).Nodup→(k,v)∈l→qa7 l k=some v
 | p::l,k,v,hd,h=>by
  have hd':p.1∉qba l∧(qba l).Nodup:=List.nodup_cons.1 hd;rw [qa7];rcases List.mem_cons.1 h with rfl | h
  · simp
  ·
   rw [if_neg]
   · exact kGet_of_mem hd'.2 h
   ·
    intro e;exact hd'.1 (List.mem_map.2 ⟨(k,v),h,e.symm⟩)
structure TOk (ts:TS):Prop where
 nod:(qba ts.visible).Nodup
 sub:subV ts.visible ts.all
theorem TOk.del {ts:TS} (h:TOk ts) (k:qab):TOk ⟨kDel ts.visible k,ts.loops,ts.all⟩:=⟨h.nod.sublist ((kDel_sub _ _).map _),fun x ty e=>h.sub x ty (by
 have:=(kDel_sub ts.visible k).subset (kGet_mem e);exact kGet_of_mem h.nod this)⟩
theorem TOk.dels (b:List (qab×Bool)) (a:Vis):∀ (l:List St) {vis:Vis},TOk ⟨vis,b,a⟩→TOk ⟨qdc l vis,b,a⟩
 | [],vis,h=>h
 | t::l,vis,h=>by
  rw [qdc];refine TOk.dels b a l ?_;split
  · exact h.del t.name
  · exact h
theorem TOk.set {ts:TS} (h:TOk ts) (k:qab) (ty:Int) (lp:List (qab×Bool)):TOk ⟨qbk ts.visible k ty,lp,qbk ts.all k ty⟩:=⟨nodV_set _ _ _ h.nod,fun x u e=>by
 simp only at e ⊢;rw [qbl] at e ⊢;split at e
 · rename_i hk;rw [if_pos hk];exact e
 · rename_i hk;rw [if_neg hk];exact h.sub x u e⟩
mutual
def nmS:St→List qab
 | .mk op name _ _ _ body els=>(if op=1∨op=6 then [name] else [])++(nmL body++nmL els)
def nmL:List St→List qab
 | []=>[]
 | t::l=>nmS t++nmL l
end
theorem nmS_eq (t:St):nmS t=(if t.op=1∨t.op=6 then [t.name] else [])++(nmL t.body++nmL t.els):=by cases t;rw [nmS];rfl
structure TGo (ns:List qab) (ts ts':TS):Prop where
 ok:TOk ts'
 mono:subV ts.all ts'.all
 keys:∀ k,k∈qba ts'.all→k∈qba ts.all∨k∈ns
theorem TGo.refl {ts:TS} (h:TOk ts) (ns:List qab):TGo ns ts ts:=⟨h,.refl _,fun _ h=>.inl h⟩
theorem TGo.mono' {ns ns':List qab} {ts ts':TS} (h:TGo ns ts ts') (hn:∀ k∈ns,k∈ns'):TGo ns' ts ts':=⟨h.ok,h.mono,fun k hk=>(h.keys k hk).imp id (hn k)⟩
theorem TGo.trans {a b:List qab} {s t u:TS} (h:TGo a s t) (g:TGo b t u):TGo (a++b) s u:=⟨g.ok,h.mono.trans g.mono,fun k hk=>by
 rcases g.keys k hk with hk | hk
 ·
  rcases h.keys k hk with hk | hk
  · exact .inl hk
  · exact .inr (by simp [hk])
 · exact .inr (by simp [hk])⟩
def fresh (ns:List qab) (ts:TS):Prop:=ns.Nodup∧∀ k∈ns,k∉qba ts.all
theorem TGo.set {ts:TS} (h:TOk ts) {k:qab} (hk:k∉qba ts.all) (ty:Int) (lp:List (qab×Bool)):TGo [k] ts ⟨qbk ts.visible k ty,lp,qbk ts.all k ty⟩:=⟨h.set k ty lp,fun x u e=>by
 simp only;rw [qbl];split
 ·
  rename_i hx;subst hx;rw [qcs.2 hk] at e;cases e
 · exact e,fun x hx=>by
 rcases (qbv _ _ _ _).1 hx with h | h
 · exact .inr (by simp [h])
 · exact .inl h⟩
theorem fresh.left {a b:List qab} {ts:TS} (h:fresh (a++b) ts):fresh a ts:=⟨(List.nodup_append.1 h.1).1,fun k hk=>h.2 k (by simp [hk])⟩
theorem fresh.right {a b:List qab} {ts ts':TS} (h:fresh (a++b) ts) (g:TGo a ts ts'):fresh b ts':=⟨(List.nodup_append.1 h.1).2.1,fun k hk hm=>by
 rcases g.keys k hm with hm | hm
 · exact h.2 k (by simp [hk]) hm
 · exact (List.nodup_append.1 h.1).2.2 k hm k hk rfl⟩
theorem TGo.blk {ns:List qab} {l:List St} {f:TS→Int×TS} {ts:TS} (hf:(f ts).1=0→TGo ns ts (f ts).2) (h0:(qcm l f ts).1=0):TGo ns ts (qcm l f ts).2:=by
 unfold qcm at h0 ⊢;split at h0
 · rename_i h;exact (h h0).elim
 ·
  rename_i h;rw [if_neg h];have g:=hf (by simpa using h);exact ⟨TOk.dels _ _ l (vis:=(f ts).2.visible) g.ok,g.mono,g.keys⟩
theorem go_step (t:St) (B E:TS→Int×TS) (ts:TS) (h:TOk ts) (hf:fresh (nmS t) ts)
  (hB:∀ ts,TOk ts→fresh (nmL t.body) ts→(B ts).1=0→TGo (nmL t.body) ts (B ts).2)
  (hE:∀ ts,TOk ts→fresh (nmL t.els) ts→(E ts).1=0→TGo (nmL t.els) ts (E ts).2)
  (h0:(stStep t B E ts).1=0):TGo (nmS t) ts (stStep t B E ts).2:=by
 rw [nmS_eq] at hf ⊢;unfold stStep at h0 ⊢;by_cases he:(opsT ts.visible t).2.2≠0
 · rw [if_pos he] at h0;exact (he h0).elim
 rw [if_neg he] at h0 ⊢;by_cases h1:t.op=1
 ·
  rw [if_pos h1] at h0 ⊢;rw [if_pos (.inl h1)] at hf ⊢;exact (TGo.set h (hf.2 t.name (by simp)) _ _).mono' (fun k hk=>by simp at hk;simp [hk])
 rw [if_neg h1] at h0 ⊢;by_cases h2:t.op=2
 ·
  rw [if_pos h2];rcases qa7 ts.visible t.name with _ | ty
  · exact .refl h _
  · exact .refl h _
 rw [if_neg h2] at h0 ⊢;by_cases h3:t.op=3
 · rw [if_pos h3];exact .refl h _
 rw [if_neg h3] at h0 ⊢;by_cases h4:t.op=4
 · rw [if_pos h4];exact .refl h _
 rw [if_neg h4] at h0 ⊢;by_cases h7:t.op=7
 · rw [if_pos h7];exact .refl h _
 rw [if_neg h7] at h0 ⊢;by_cases h5:t.op=5
 ·
  rw [if_pos h5] at h0 ⊢;by_cases h6:(opsT ts.visible t).1≠3
  · rw [if_pos h6] at h0;simp at h0
  rw [if_neg h6] at h0 ⊢;by_cases h8:(qcm t.body B ts).1≠0
  · rw [if_pos h8] at h0;exact (h8 h0).elim
  rw [if_neg h8] at h0 ⊢;rw [if_neg (by omega),List.nil_append] at hf ⊢;have g1:=TGo.blk (l:=t.body) (fun g=>hB ts h hf.left g) (by simpa using h8);have g2:=TGo.blk (l:=t.els) (fun g=>hE _ g1.ok (hf.right g1) g) h0;exact g1.trans g2
 rw [if_neg h5] at h0 ⊢;by_cases h6:t.op=6
 ·
  rw [if_pos h6] at h0 ⊢;by_cases h8:(opsT ts.visible t).1≠1∨(opsT ts.visible t).2.1≠1
  · rw [if_pos h8] at h0;simp at h0
  rw [if_neg h8] at h0 ⊢;rw [if_pos (.inr h6)] at hf ⊢;have g0:=TGo.set h (hf.2 t.name (by simp)) 1 (qbk ts.loops t.name true);have g1:=TGo.blk (l:=t.body) (fun g=>hB _ g0.ok (hf.right g0).left g) h0;have g2:=g0.trans g1;exact ⟨g1.ok.del t.name,g2.mono,fun k hk=>by
   rcases g2.keys k hk with hk | hk
   · exact .inl hk
   ·
    refine .inr ?_;simp only [List.mem_append] at hk ⊢;rcases hk with hk | hk
    · exact .inl hk
    · exact .inr (.inl hk)⟩
 ·
  rw [if_neg h6];exact .refl h _
mutual
theorem go_st:∀ (t:St) (ts:TS),TOk ts→fresh (nmS t) ts→(stT t ts).1=0→TGo (nmS t) ts (stT t ts).2
 | .mk op name mx a b body els,ts,h,hf,h0=>by
  rw [stT_eq] at h0 ⊢;exact go_step (.mk op name mx a b body els) _ _ ts h hf (fun ts=>go_seq body ts) (fun ts=>go_seq els ts) h0
theorem go_seq:∀ (l:List St) (ts:TS),TOk ts→fresh (nmL l) ts→(qc9 l ts).1=0→TGo (nmL l) ts (qc9 l ts).2
 | [],ts,h,hf,h0=>by rw [qc9];exact .refl h _
 | t::l,ts,h,hf,h0=>by
  rw [qc9] at h0 ⊢;rw [nmL] at hf ⊢;split at h0
  · rename_i he;exact (he h0).elim
  rename_i he;rw [if_neg he];have g1:=go_st t ts h hf.left (by simpa using he);exact g1.trans (go_seq l _ g1.ok (hf.right g1) h0)
end
def tyS (G:Vis) (s:MS):Prop:=∀ k v ty,qa7 s.vars k=some v→qa7 G k=some ty→v.k=ty
def qa6 (op:Int):Int:=if 10≤op∧op≤15 then 3 else (qb6 op).2
theorem kind_exact {r:Int×Int} {v:V} (h:qce r=.ok v):v.k=1:=by
 unfold qce at h;split at h
 · cases h;rfl
 · split at h<;>cases h
theorem kind_text {s:qab} {v:V} (h:textS s=.ok v):v.k=2:=by
 unfold textS at h;split at h
 · cases h
 · cases h;rfl
section
variable {C:Cfg}
theorem kind_op {op:Int} {l:List V} {s t:MS} {v:V} (har:(l.length:Int)=qcp op) (h:opS C op l s=(.ok v,t)):v.k=qa6 op:=by
 have hy:∀ {x:EV} {u:MS},(x,u)=((.ok v,t):EV×MS)→x=.ok v:=fun h=>congrArg Prod.fst h;unfold opS at h;split at h
 ·
  rename_i a;have hop:op=9∨op=18∨op=20∨op=21∨op=22∨op=23∨op=24:=by
   unfold qcp at har;simp at har;split at har
   · omega
   split at har
   · omega
   split at har
   · omega
   · omega
  rcases hop with rfl | rfl | rfl | rfl | ho
  ·
   have e:unS C 9 a s=(if a.k=1 then qce (numNeg a.n) else .error (ab 1009),s):=rfl;rw [e] at h;have h:=hy h;split at h
   · exact kind_exact h
   · cases h
  ·
   have e:unS C 18 a s=(if a.k=3 then .ok (vB (decide (a.n=0))) else .error (ab 1009),s):=rfl;rw [e] at h;have h:=hy h;split at h
   · cases h;rfl
   · cases h
  ·
   have e:unS C 20 a s=(if a.k=1 then textS (C.fmt a.n) else .error (ab 1009),s):=rfl;rw [e] at h;have h:=hy h;split at h
   · exact kind_text h
   · cases h
  ·
   have e:unS C 21 a s=(if a.k=2 then .ok (vI a.s.size) else .error (ab 1009),s):=rfl;rw [e] at h;have h:=hy h;split at h
   · cases h;rfl
   · cases h
  ·
   unfold unS at h;rw [if_neg (by omega),if_neg (by omega),if_neg (by omega),if_neg (by omega)] at h;by_cases hk:a.k≠2
   · rw [if_pos hk] at h;cases h
   rw [if_neg hk] at h;rcases hx:qbr C a.s s with ⟨z | w,m'⟩
   · rw [hx] at h;cases h
   ·
    rw [hx] at h;have h:=hy h;rcases ho with rfl | rfl | rfl
    ·
     have e:gotS 22 w=if w.k=0 then .ok (vI 0) else if w.k≠1 then .error (ab 1003) else .ok w:=by simp [gotS]
     rw [e] at h;split at h
     · cases h;rfl
     split at h
     · cases h
     ·
      rename_i h2;have hv:w=v:=by injection h
      have:w.k=1:=by omega
      rw [← hv,this];rfl
    ·
     have e:gotS 23 w=if w.k=0 then textS em else if w.k≠2 then .error (ab 1003) else .ok w:=by simp [gotS]
     rw [e] at h;split at h
     · exact kind_text h
     split at h
     · cases h
     ·
      rename_i h2;have hv:w=v:=by injection h
      have:w.k=2:=by omega
      rw [← hv,this];rfl
    ·
     have e:gotS 24 w=.ok (vB (!decide (w.k=0))):=by simp [gotS]
     rw [e] at h;cases h;rfl
 ·
  rename_i a b;have g:=hy h;clear h hy;have hop:(4≤op∧op≤8)∨(10≤op∧op≤17)∨op=19:=by
   unfold qcp at har;simp at har;split at har
   · omega
   split at har
   · omega
   split at har
   · omega
   · omega
  unfold binS at g;by_cases ho:op=4∨op=5∨op=6∨op=7∨op=8
  ·
   rw [if_pos ho] at g;have:qa6 op=1:=by unfold qa6 qb6;rw [if_neg (by omega),if_pos (by omega)]
   rw [this];split at g
   ·
    unfold qd6 at g
    repeat' split at g
    all_goals exact kind_exact g
   · cases g
  rw [if_neg ho] at g;by_cases h16:op=16
  ·
   rw [if_pos h16] at g;rw [h16];split at g
   · cases g;rfl
   · cases g
  rw [if_neg h16] at g;by_cases h17:op=17
  ·
   rw [if_pos h17] at g;rw [h17];split at g
   · cases g;rfl
   · cases g
  rw [if_neg h17] at g;by_cases h19:op=19
  ·
   rw [if_pos h19] at g;rw [h19];split at g
   · exact kind_text g
   · cases g
  rw [if_neg h19] at g;unfold compS at g;split at g
  ·
   cases g;unfold qa6;rw [if_pos (by omega)];rfl
  · cases g
 · cases h
theorem kind_ev {G vis:Vis} (hsub:subV vis G) {e:Ex} {d:Nat} {ty:Int} (hc:chkE e d=0) (hof:ofE vis e=(ty,0)) {s t:MS} {v:V} (hT:tyS G s) (h:evE C e s=(.ok v,t)):v.k=ty∧1≤ty∧ty≤3:=by
 have har:=chkE_arity hc;rw [ofE_eq] at hof;rw [evE_eq] at h;have hk:∀ (op:Int),1≤(qb6 op).2∧(qb6 op).2≤3:=fun op=>by
  unfold qb6
  repeat' split
  all_goals decide
 by_cases h3:e.op=3
 ·
  rw [if_pos h3] at hof;rw [if_neg (by omega),if_neg (by omega),if_pos h3] at h;have h:=congrArg Prod.fst h;simp only at h;split at h
  ·
   rename_i w hw;cases h;unfold varT at hof;split at hof
   · cases hof
   ·
    rename_i u hu;split at hof
    · cases hof
    ·
     cases hof;exact ⟨hT _ _ _ hw (hsub _ _ hu),by omega,by omega⟩
  · cases h
 ·
  rw [if_neg h3] at hof;split at hof
  ·
   rename_i he;have:=congrArg Prod.snd hof;simp only at this;exact (he this).elim
  have hty:ty=qa6 e.op:=by
   unfold qa6;split at hof
   ·
    rename_i ho;split at hof
    · cases hof
    · cases hof;rw [if_pos ho]
   ·
    rename_i ho;rw [if_neg ho];split at hof
    · cases hof;rfl
    · cases hof
  have hr:1≤ty∧ty≤3:=by
   rw [hty];unfold qa6;split
   · omega
   · exact hk _
  refine ⟨?_,hr⟩;rw [hty];split at h
  ·
   rename_i h1;cases h;unfold qa6 qb6;rw [if_neg (by omega),if_pos (.inl h1)];rfl
  split at h
  ·
   rename_i h1;cases h;unfold qa6 qb6;rw [if_neg (by omega),if_neg (by omega),if_pos (.inl h1)];rfl
  split at h
  · cases h
  ·
   rename_i l m' hL;exact kind_op (by rw [evL_len hL];exact har) h
end
end Go.Cw

namespace Go.Cw
open Go Go.Abs
section
variable (C:Cfg)
end
structure Pre (G:Vis) (r p:Nat) (s:MS) (m:RM):Prop where
 inv:Inv r p s
 vm:vM s
 ty:tyS G s
 sim:Sim s m
theorem tyS_set {G:Vis} {s:MS} {k:qab} {v:V} (h:tyS G s) (hk:∀ ty,qa7 G k=some ty→v.k=ty):tyS G { s with vars:=qbk s.vars k v }:=fun x w ty hx hg=>by
 simp only at hx;rw [qbl] at hx;split at hx
 · rename_i e;subst e;cases hx;exact hk ty hg
 · exact h x w ty hx hg
theorem Sim.set {s:MS} {m:RM} (h:Sim s m) (k:qab) (v:V):Sim { s with vars:=qbk s.vars k v } { m with vars:=setR m.vars ⟨k,v⟩ }:=⟨fun x=>by
 simp only;rw [qbl,(setR_map _ _ _).1,(setR_map _ _ _).2];by_cases hx:k=x
 · simp [hx]
 · simp [hx,h.vars x],h.own,h.keys,h.out,h.reads,h.puts,h.steps,h.st,h.code,h.miss⟩
section
variable {C:Cfg} (hV:vC C) (hC:rngC C)
include hV hC
end
theorem sub_num {a b:Int} (ha:i64 a) (hb:i64 b) (h:a<b):((qda b a).2≠0∨(∀ mx,mx<(qda b a).1↔mx<b - a))∧((qda b a).2≠0→9223372036854775807<b - a):=by
 obtain ⟨a1,a2⟩:=ha;obtain ⟨b1,b2⟩:=hb;have e:W64 (b - a)=if b - a≤9223372036854775807 then b - a else b - a - 18446744073709551616:=by
  unfold W64;simp only [IntKind.wrap,IntKind.bits,IntKind.signed,Bool.true_and,decide_eq_true_eq,show (2:Int) ^ (64 - 1)=9223372036854775808 by decide,show (2:Int) ^ 64=18446744073709551616 by decide];split<;>split<;>omega
 unfold qda;rw [e];by_cases h1:b - a≤9223372036854775807
 ·
  rw [if_pos h1,if_neg (by omega)];refine ⟨.inr fun mx=>by simp,fun h=>by simp at h⟩
 ·
  rw [if_neg h1,if_pos (by omega)];exact ⟨.inl (by simp),fun _=>by omega⟩
theorem many_iff {a b mx:Int} (ha:i64 a) (hb:i64 b) (h1:1≤mx) (h2:mx≤16):tooMany a b mx↔(a<b∧((qda b a).2≠0∨mx<(qda b a).1)):=by
 unfold tooMany;refine and_congr_right fun h=>?_;have hn:=sub_num ha hb h;have key:IntKind.u64.wrap mx<IntKind.u64.wrap (IntKind.u64.wrap b - IntKind.u64.wrap a)↔mx<b - a:=by
  obtain ⟨a1,a2⟩:=ha;obtain ⟨b1,b2⟩:=hb;simp only [IntKind.wrap,IntKind.bits,IntKind.signed];simp;omega
 rw [key];rcases hn.1 with h3 | h3
 ·
  have:=hn.2 h3;exact ⟨fun _=>.inl h3,fun _=>by omega⟩
 ·
  rw [← h3];exact ⟨.inr,fun g=>g.elim (fun g=>(h3 mx).2 (by have:=hn.2 g;omega)) id⟩
end Go.Cw

namespace Go.Cw
open Go Go.Abs
theorem stI_6 (C:Cfg) {t:St} (h:t.op=6) (m:MS):stI C t m =
  match evE C t.a m with
  | (.error z,m')=>(.error z,m')
  | (.ok u,m')=>match evE C t.b m' with
   | (.error z,m'')=>(.error z,m'')
   | (.ok v,m'') =>
    if u.k=1∧v.k=1 then
     (if tooMany u.n v.n t.max then (.error (ab 1005),m'') else qcd (qcu C t.body) t.name v.n 16386 u.n m'')
    else (.error (ab 1009),m''):=by
 cases t with
 | mk op name mx a b body els =>
  simp only [St.op] at h;subst h;rw [stI];simp;rfl
theorem Pre.mono {G:Vis} {r p r' p':Nat} {s:MS} {m:RM} (h:Pre G r p s m) (h1:r'≤r) (h2:p'≤p):Pre G r' p' s m:=⟨h.inv.mono h1 h2,h.vm,h.ty,h.sim⟩
theorem okS_op {t:St} {d:Nat} (h:okS t d):t.op=1∨t.op=2∨t.op=3∨t.op=4∨t.op=5∨t.op=6∨t.op=7∨t.op=8:=by
 have h1:=((qdk t d).1 h).1;unfold qci at h1;by_cases hu:(qch t.op).2=false
 · rw [if_pos (.inl hu)] at h1;cases h1
 ·
  unfold qch at hu;split at hu
  · omega
  split at hu
  · omega
  split at hu
  · omega
  split at hu
  · omega
  split at hu
  · omega
  split at hu
  · omega
  · simp at hu
section
variable {C:Cfg} (hV:vC C) (hC:rngC C) {G:Vis}
include hV hC
end
section
variable {σ τ:Type} (fS:σ→St→Nat→σ) (fR:σ→Ex→σ) (gS:τ→St→Nat→τ) (gR:τ→Ex→τ)
theorem firstW_cnt (e:Ex) (x:Nat×σ) (y:Nat×τ) (h:x.1=y.1):(qbg fR e x).1=(qbg gR e y).1:=by
 unfold qbg;rw [h];split
 · exact h
 · rfl
mutual
theorem stW_cnt:∀ (s:St) (d:Nat) (x:Nat×σ) (y:Nat×τ),x.1=y.1→(stW fS fR s d x).1=(stW gS gR s d y).1
 | .mk _ _ _ a b body els,d,x,y,h=>by
  rw [stW,stW];exact blkW_cnt els _ _ _ (blkW_cnt body _ _ _ (firstW_cnt fR gR b _ _ (firstW_cnt fR gR a _ _ h)))
theorem blkW_cnt:∀ (l:List St) (d:Nat) (x:Nat×σ) (y:Nat×τ),x.1=y.1→(blkW fS fR l d x).1=(blkW gS gR l d y).1
 | [],d,x,y,h=>by rw [blkW,blkW];exact h
 | s::l,d,x,y,h=>by
  rw [blkW,blkW,h];split
  · exact h
  · exact blkW_cnt l d _ _ (stW_cnt s d _ _ rfl)
end
end
mutual
theorem stW_names:∀ (s:St) (d:Nat) (x:Nat×List qab),(stW nameS qc1 s d x).1≠0→(stW nameS qc1 s d x).2=x.2++(nmL s.body++nmL s.els)
 | .mk _ _ _ a b body els,d,x,h=>by
  rw [stW] at h ⊢;have hl:=blkW_le nameS qc1 els (d+1) (blkW nameS qc1 body (d+1) (qbg qc1 b (qbg qc1 a x)));rw [blkW_names els (d+1) _ h,blkW_names body (d+1) _ (by omega),firstW_keep,firstW_keep];simp [St.body,St.els]
theorem blkW_names:∀ (l:List St) (d:Nat) (x:Nat×List qab),(blkW nameS qc1 l d x).1≠0→(blkW nameS qc1 l d x).2=x.2++nmL l
 | [],d,x,h=>by rw [blkW,nmL];simp
 | s::l,d,x,h=>by
  rw [blkW] at h ⊢;split
  · rename_i hz;rw [if_pos hz] at h;exact (h hz).elim
  ·
   rename_i hz;rw [if_neg hz] at h;have hl:=blkW_le nameS qc1 l d (stW nameS qc1 s d (x.1 - 1,nameS x.2 s d));rw [blkW_names l d _ h,stW_names s d _ (by omega),nmL,nmS_eq];unfold nameS;split<;>simp
end
theorem valid_left {p:Proc} (h:validP p=0):(blkW valS qc1 p.body 1 (401,(0:Int))).1≠0:=by
 unfold validP at h;split at h
 · contradiction
 split at h
 · contradiction
 simp only at h;split at h
 · contradiction
 ·
  rename_i h1;exact fun h2=>h1 ⟨h,h2⟩
theorem namesP_eq {p:Proc} (h:validP p=0):namesP p=p.params.map (·.name)++nmL p.body:=by
 unfold namesP;have hc:=blkW_cnt nameS qc1 valS qc1 p.body 1 (401,p.params.map (·.name)) (401,(0:Int)) rfl
 exact blkW_names p.body 1 _ (by rw [hc];exact valid_left h)
theorem dupM_iff:∀ (l:List qab) (met:List (qab×Bool)),(∀ q∈met,q.2=true)→(dupM met l=false↔l.Nodup∧∀ x∈l,x∉qba met)
 | [],met,_=>by simp [dupM]
 | x::l,met,hm=>by
  have hs:∀ q∈qbk met x true,q.2=true:=fun q hq=>by
   rcases kSet_mem hq with rfl | hq
   · rfl
   · exact hm q hq
  rw [dupM,Bool.or_eq_false_iff,dupM_iff l _ hs,List.nodup_cons];have hx:(qa7 met x).getD false=false↔x∉qba met:=by
   rw [← qcs];rcases hg:qa7 met x with _ | v
   · simp
   ·
    have:=hm _ (kGet_mem hg);simp only at this;simp [this]
  rw [hx];simp only [qbv,List.mem_cons,forall_eq_or_imp,not_or];constructor
  ·
   rintro ⟨h1,h2,h3⟩;exact ⟨⟨fun hm=>(h3 x hm).1 rfl,h2⟩,h1,fun y hy=>(h3 y hy).2⟩
  ·
   rintro ⟨⟨h1,h2⟩,h3,h4⟩;exact ⟨h3,h2,fun y hy=>⟨fun e=>h1 (e▸hy),h4 y hy⟩⟩
theorem ty_args:∀ (ps:List Param) (vs:List V) (a:List (qab×V)) (ts:TS),argsOk ps vs=true→vs.length=ps.length→(∀ k v ty,qa7 a k=some v→qa7 ts.visible k=some ty→v.k=ty)→(∀ k v,qa7 a k=some v→∃ ty,qa7 ts.visible k=some ty) →
  (∀ k v ty,qa7 (qcj ps vs a) k=some v→qa7 (declP ps ts).visible k=some ty→v.k=ty)∧∀ k v,qa7 (qcj ps vs a) k=some v→∃ ty,qa7 (declP ps ts).visible k=some ty
 | [],vs,a,ts,_,_,h,h'=>by
  cases vs<;>exact ⟨h,h'⟩
 | x::l,[],a,ts,_,hl,h,h'=>by cases hl
 | x::l,v::r,a,ts,ho,hl,h,h'=>by
  simp only [argsOk,Bool.and_eq_true] at ho;rw [qcj];have hd:declP (x::l) ts=declP l (ts.decl x.name x.ty):=rfl;rw [hd];have hk:v.k=x.ty:=by
   have:=ho.1;unfold argOk at this;simp only [Bool.or_eq_true,Bool.and_eq_true,decide_eq_true_eq] at this;omega
  refine ty_args l r _ _ ho.2 (by simpa using hl) (fun k w ty hw hg=>?_) fun k w hw=>?_
  ·
   simp only [TS.decl] at hg;rw [qbl] at hw hg;split at hw
   · rename_i e;rw [if_pos e] at hg;cases hw;cases hg;exact hk
   · rename_i e;rw [if_neg e] at hg;exact h k w ty hw hg
  ·
   simp only [TS.decl];rw [qbl] at hw ⊢;split at hw
   · rename_i e;rw [if_pos e];exact ⟨_,rfl⟩
   · rename_i e;rw [if_neg e];exact h' k w hw
theorem go_params:∀ (ps:List Param) (ts:TS),TOk ts→fresh (ps.map (·.name)) ts→TGo (ps.map (·.name)) ts (declP ps ts)
 | [],ts,h,_=>.refl h _
 | x::l,ts,h,hf=>by
  have hd:declP (x::l) ts=declP l (ts.decl x.name x.ty):=rfl;rw [hd];have hf':fresh ([x.name]++l.map (·.name)) ts:=hf
  have g:=TGo.set h (hf'.2 x.name (by simp)) x.ty ts.loops;exact g.trans (go_params l _ g.ok (hf'.right g))
end Go.Cw

namespace Go.Cw
open Go Go.Abs
structure RInv (r p:Nat) (m:RM):Prop where
 vr:∀ q∈m.vars,qdx q.v
 wr:∀ q∈m.own,qdx q.v
 s0:0≤m.steps
 s1:m.steps≤16384
 rd:((m.reads.length+r:Nat):Int)≤8192 * m.steps+8192
 pt:((m.puts.length+p:Nat):Int)≤m.steps
 ow:((m.own.length+p:Nat):Int)≤m.steps
 va:((m.vars.length+p:Nat):Int)≤m.steps+34359738368
 ot:m.out.length≤16
theorem RInv.mono {r p r' p':Nat} {m:RM} (h:RInv r p m) (h1:r'≤r) (h2:p'≤p):RInv r' p' m :=
 ⟨h.vr,h.wr,h.s0,h.s1,by have:=h.rd;omega,by have:=h.pt;omega,by have:=h.ow;omega,by have:=h.va;omega,h.ot⟩
theorem setR_len (l:List Pr) (p:Pr):(setR l p).length≤l.length+1:=by
 have:=posP_le p.key l;unfold setR restP;split<;>simp<;>omega
theorem setR_mem {l:List Pr} {p q:Pr} (h:q∈setR l p):q=p∨q∈l:=by
 unfold setR at h;simp only [List.mem_append,List.mem_cons] at h;rcases h with h | h | h
 · exact .inr (List.mem_of_mem_take h)
 · exact .inl h
 · exact .inr (List.mem_of_mem_drop h)
section
variable {C:Cfg} (hC:rngC C)
include hC
end
theorem RInv.store {C:Cfg} {r p:Nat} {m:RM} (h:RInv r (p+1) m) {v:V} (hv:qdx v) (k:qab) (h0:(storeR C m k v).st=0):RInv r p (storeR C m k v):=by
 unfold storeR at h0 ⊢;split at h0
 · simp [RM.ab] at h0
 rename_i h1;rw [if_neg h1];split at h0
 · simp [RM.rst] at h0
 rename_i h2;rw [if_neg h2];refine ⟨h.vr,fun q hq=>?_,h.s0,h.s1,h.rd,?_,?_,by have:=h.va;simp only;omega,h.ot⟩
 ·
  rcases setR_mem hq with rfl | hq
  · exact hv
  · exact h.wr q hq
 ·
  have:=withS_len m.puts k;have:=h.pt;simp only;omega
 ·
  have:=setR_len m.own ⟨k,v⟩;have:=h.ow;simp only;omega
theorem RInv.emit {r p:Nat} {m:RM} (h:RInv r p m) {v:V} (h0:(emitR m v).st=0):RInv r p (emitR m v):=by
 unfold emitR at h0 ⊢;split at h0
 · simp [RM.ab] at h0
 rename_i h1;rw [if_neg h1];refine ⟨h.vr,h.wr,h.s0,h.s1,h.rd,h.pt,h.ow,h.va,?_⟩;simp only [List.length_append,List.length_singleton];omega
section
variable {C:Cfg} (hC:rngC C) (hf:∀ n,i64 n→qbe (C.fmt n)=true)
include hC hf
end
end Go.Cw

namespace Go.Cw
open Go Go.Abs
def qd0:List Pr→List (qab×V)→List (qab×V)
 | [],m=>m
 | p::l,m=>qd0 l (if (qa7 m p.key).isSome=true then m else qbk m p.key p.v)
theorem firstV_all {P:V→Prop}:∀ (l:List Pr) (m:List (qab×V)),(∀ q∈l,P q.v)→(∀ q∈m,P q.2)→∀ q∈qd0 l m,P q.2
 | [],m,_,h=>by rw [qd0];exact h
 | p::l,m,hl,h=>by
  rw [qd0];refine firstV_all l _ (fun q hq=>hl q (by simp [hq])) ?_;split
  · exact h
  ·
   intro q hq;rcases kSet_mem hq with rfl | hq
   · exact hl p (by simp)
   · exact h q hq
def varsOk (l:List Pr):Bool:=l.all fun q=>varOk q.v.k q.v.n q.v.s
def evOk (e:Ex) (st:List Pr) (ft:Foot):Prop:=¬ (chkE e 1≠0∨qbd st=false∨qdb ft.all ft.reads ft.writes=false)
instance (e:Ex) (st:List Pr) (ft:Foot):Decidable (evOk e st ft):=inferInstanceAs (Decidable (¬ _))
abbrev msV (vars:List Pr):MS:=⟨qd0 vars [],[],[],[],[],0⟩
def endS:EV×MS→V×Eff
 | (.error z,s)=>(V.nil,doneS (.error z,s))
 | (.ok v,s)=>(v,doneS (.ok (),s))
def evalS (fmt:Int→qab) (e:Ex) (vars st:List Pr) (ft:Foot):V×Eff :=
 if evOk e st ft∧varsOk vars=true then endS (evE (cfgR fmt st ft) e (msV vars)) else (V.nil,wrongE)
structure EvIn (fmt:Int→qab) (e:Ex) (vs st:List Pr):Prop where
 fmt:∀ n,i64 n→qbe (fmt n)=true
 ex:rngX e
 vars:∀ q∈vs,qdx q.v
 st:∀ q∈st,qdx q.v
 len:vs.length≤34359738368
theorem evOk_iff {e:Ex} {st:List Pr} {ft:Foot}:evOk e st ft↔chkE e 1=0∧qbd st=true∧qdb ft.all ft.reads ft.writes=true:=by
 unfold evOk;simp only [not_or,Decidable.not_not,Bool.not_eq_false]
end Go.Cw

namespace Go.Cw
open Go Go.Abs
abbrev MV:=qab→Option AX
def unk:AX:=⟨false,V.nil⟩
def kn (v:V):AX:=⟨true,v⟩
structure XS where
 r:List qab
 w:List qab
 f:Bool
def addS (l:List qab) (s:qab):List qab:=if hasK l s=true then l else l++[s]
theorem hasK_mem {l:List qab} {s:qab}:hasK l s=true↔s∈l:=by
 unfold hasK
 induction l with
 | nil=>simp [anyL]
 | cons x l ih =>
  simp only [anyL,Bool.or_eq_true,decide_eq_true_eq,ih,List.mem_cons];exact ⟨fun h=>h.imp (fun e=>e.symm) id,fun h=>h.imp (fun e=>e.symm) id⟩
def boAV (b:Bool):AV:=Bo b
abbrev tru (l:List qab):List (qab×Bool):=l.map fun s=>(s,true)
theorem kSet_tru (s:qab):∀ (l:List qab),qbk (tru l) s true=tru (addS l s)
 | []=>by simp [qbk,addS,hasK,anyL]
 | x::l=>by
  by_cases h:x=s
  ·
   subst h;simp [qbk,addS,hasK,anyL]
  ·
   have ih:=kSet_tru s l;have e:addS (x::l) s=x::addS l s:=by
    have e1:hasK (x::l) s=hasK l s:=by simp [hasK,anyL,h]
    unfold addS;rw [e1];split<;>simp
   simp only [tru,List.map_cons,qbk,if_neg h,e] at ih ⊢;rw [ih]
theorem addS_nodup {l:List qab} (h:l.Nodup) (s:qab):(addS l s).Nodup:=by
 unfold addS;split
 · exact h
 ·
  rename_i hs;exact List.nodup_append.2 ⟨h,by simp,fun a ha b hb=>by simp at hb;subst hb;rintro rfl;exact hs (hasK_mem.2 ha)⟩
theorem mem_addS {l:List qab} {s x:qab}:x∈addS l s↔x∈l∨x=s:=by
 unfold addS;split
 ·
  rename_i h;exact ⟨.inl,fun h'=>h'.elim id fun e=>e▸hasK_mem.1 h⟩
 · simp
def keyX (wr:Bool) (a:AX) (x:XS):Bool×XS :=
 if a.known=false then (false,⟨x.r,x.w,true⟩) else if qdt a.v.s=false then (false,x)
 else (true,if wr then ⟨x.r,addS x.w a.v.s,x.f⟩ else ⟨addS x.r a.v.s,x.w,x.f⟩)
def abL:List qab:=[⟨#[97]⟩,⟨#[98]⟩]
def varEx (s:qab):Ex:=.mk 3 0 s []
def qb2 (n:Nat):List Ex:=(abL.take n).map varEx
def qbm (vs:List V):List Pr:=(abL.zip vs).map fun p=>⟨p.1,p.2⟩
def apE (fmt:Int→qab) (op:Int) (vs:List V):V×Eff:=evalS fmt (.mk op 0 em (qb2 vs.length)) (qbm vs) [] ⟨false,[],[]⟩
def apS (fmt:Int→qab) (op:Int) (vs:List V):AX×Bool:=(kn (apE fmt op vs).1,decide ((apE fmt op vs).2.status=1))
def updF (f:MV) (s:qab) (a:AX):MV:=fun k=>if s=k then some a else f k
def axEq (x y:AX):Bool:=decide (x.known=y.known)&&eqVal x.v y.v
theorem axEq_iff {x y:AX}:axEq x y=true↔x=y:=by
 rcases x with ⟨k,a,b,c⟩;rcases y with ⟨k',a',b',c'⟩;simp [axEq,eqVal]
def jn (x:AX):Option AX→AX
 | none=>unk
 | some y=>if axEq x y=true then x else unk
def joinF (f g:MV):MV:=fun k=>(f k).map fun x=>jn x (g k)
section
variable (fmt:Int→qab)
mutual
def exE:Ex→MV→XS→(AX×Bool)×XS
 | .mk op n s args,f,x =>
  if op=1 then ((kn (vI n),true),x)
  else if op=2 then ((kn (vS s),true),x)
  else if op=3 then (((f s).getD unk,true),x)
  else match exL args f x with
   | (none,x')=>((unk,false),x')
   | (some l,x') =>
    if op=22∨op=23∨op=24 then ((unk,(keyX false (l.headD unk) x').1),(keyX false (l.headD unk) x').2)
    else if l.all (·.known)=false then ((unk,true),x')
    else (apS fmt op (l.map (·.v)),x')
def exL:List Ex→MV→XS→Option (List AX)×XS
 | [],_,x=>(some [],x)
 | e::l,f,x=>match exE e f x with
  | ((_,false),x')=>(none,x')
  | ((a,true),x')=>match exL l f x' with
   | (none,x'')=>(none,x'')
   | (some r,x'')=>(some (a::r),x'')
end
theorem exE_eq (e:Ex) (f:MV) (x:XS):exE fmt e f x =
  if e.op=1 then ((kn (vI e.n),true),x)
  else if e.op=2 then ((kn (vS e.s),true),x)
  else if e.op=3 then (((f e.s).getD unk,true),x)
  else match exL fmt e.args f x with
   | (none,x')=>((unk,false),x')
   | (some l,x') =>
    if e.op=22∨e.op=23∨e.op=24 then ((unk,(keyX false (l.headD unk) x').1),(keyX false (l.headD unk) x').2)
    else if l.all (·.known)=false then ((unk,true),x')
    else (apS fmt e.op (l.map (·.v)),x'):=by cases e;rw [exE];rfl
def cntX (body:MV→XS→Option MV×XS) (name:qab):Nat→Int→MV→XS→Option MV×XS
 | 0,_,f,x=>(some f,x)
 | n+1,i,f,x=>match body (updF f name (kn (vI i))) x with
  | (none,x')=>(none,x')
  | (some f',x')=>cntX body name n (i+1) f' x'
def repX (body:MV→XS→Option MV×XS) (name:qab):Nat→MV→XS→Option MV×XS
 | 0,f,x=>(some f,x)
 | n+1,f,x=>match body (updF f name unk) x with
  | (o,x')=>if x'.f=true then (none,x') else match o with
   | none=>(some f,x')
   | some f'=>repX body name n (joinF f f') x'
def brX (r1:Option MV×XS) (e:XS→Option MV×XS):Option MV×XS :=
 if r1.2.f=true then (none,r1.2)
 else if (e r1.2).2.f=true then (none,(e r1.2).2)
 else (match r1.1,(e r1.2).1 with
  | none,o=>o
  | some f,none=>some f
  | some f,some g=>some (joinF f g),(e r1.2).2)
mutual
def exSt:St→MV→XS→Option MV×XS
 | .mk op name mx a b body els,f,x =>
  if op=8 then (none,x)
  else match exE fmt a f x with
  | ((_,false),x1)=>(none,x1)
  | ((va,true),x1) =>
   if op=1∨op=2 then (some (updF f name va),x1)
   else if op=7 then (some f,x1)
   else if op=4 then (if (keyX true va x1).1 then some f else none,(keyX true va x1).2)
   else if op=5 then
    (if va.known=true∧va.v.n=1 then qdu body f x1
    else if va.known=true then qdu els f x1
    else brX (qdu body f x1) fun x=>qdu els f x)
   else match exE fmt b f x1 with
   | ((_,false),x2)=>(none,x2)
   | ((vb,true),x2) =>
    if op=3 then (if (keyX true va x2).1 then some f else none,(keyX true va x2).2)
    else if va.known=true∧vb.known=true then
     (if va.v.n<vb.v.n∧((qda vb.v.n va.v.n).2≠0∨mx<(qda vb.v.n va.v.n).1) then (none,x2)
     else cntX (fun f x=>qdu body f x) name (vb.v.n - va.v.n).toNat va.v.n f x2)
    else repX (fun f x=>qdu body f x) name mx.toNat f x2
def qdu:List St→MV→XS→Option MV×XS
 | [],f,x=>(some f,x)
 | t::l,f,x=>match exSt t f x with
  | (none,x')=>(none,x')
  | (some f',x')=>qdu l f' x'
end
theorem exSt_eq (t:St) (f:MV) (x:XS):exSt fmt t f x =
  if t.op=8 then (none,x)
  else match exE fmt t.a f x with
  | ((_,false),x1)=>(none,x1)
  | ((va,true),x1) =>
   if t.op=1∨t.op=2 then (some (updF f t.name va),x1)
   else if t.op=7 then (some f,x1)
   else if t.op=4 then (if (keyX true va x1).1 then some f else none,(keyX true va x1).2)
   else if t.op=5 then
    (if va.known=true∧va.v.n=1 then qdu fmt t.body f x1
    else if va.known=true then qdu fmt t.els f x1
    else brX (qdu fmt t.body f x1) fun x=>qdu fmt t.els f x)
   else match exE fmt t.b f x1 with
   | ((_,false),x2)=>(none,x2)
   | ((vb,true),x2) =>
    if t.op=3 then (if (keyX true va x2).1 then some f else none,(keyX true va x2).2)
    else if va.known=true∧vb.known=true then
     (if va.v.n<vb.v.n∧((qda vb.v.n va.v.n).2≠0∨t.max<(qda vb.v.n va.v.n).1) then (none,x2)
     else cntX (fun f x=>qdu fmt t.body f x) t.name (vb.v.n - va.v.n).toNat va.v.n f x2)
    else repX (fun f x=>qdu fmt t.body f x) t.name t.max.toNat f x2:=by cases t;rw [exSt];rfl
end
def initF:List Param→List V→MV→MV
 | p::ps,v::vs,f=>initF ps vs (updF f p.name (kn v))
 | _,_,f=>f
def statS (fmt:Int→qab) (p:Proc) (args:List V):Foot×Int :=
 if qbx p≠0∨qcq p args≠0 then (⟨false,[],[]⟩,1)
 else if (qdu fmt p.body (initF p.params args fun _=>none) ⟨[],[],false⟩).2.f=true then (⟨false,[],[]⟩,9)
 else if 64<(qdu fmt p.body (initF p.params args fun _=>none) ⟨[],[],false⟩).2.r.length∨64<(qdu fmt p.body (initF p.params args fun _=>none) ⟨[],[],false⟩).2.w.length then (⟨false,[],[]⟩,2)
 else (⟨false,qcz (qdu fmt p.body (initF p.params args fun _=>none) ⟨[],[],false⟩).2.r,qcz (qdu fmt p.body (initF p.params args fun _=>none) ⟨[],[],false⟩).2.w⟩,0)
end Go.Cw
