/- Part 27 of a proof: CwNs, CwZ, CwSa, CwSb -/
import Derived.Test.YtcjolkgjhcdhcaaGreatDoorR25
import Derived.Test.YtcjolkgjhcdhcaaGreatDoorR26
set_option linter.all false

namespace Go.Cw
open Go Go.Abs
def mN (L n:Nat):List Int:=List.replicate n (-1)++List.replicate (L - n) 0
theorem mN_len {L n:Nat} (h:n≤L):(mN L n).length=L:=by simp [mN];omega
theorem mN_0 (L:Nat):mN L 0=List.replicate L 0:=by simp [mN]
theorem mN_end (L:Nat):mN L L=List.replicate L (-1):=by simp [mN]
theorem mN_set {L n:Nat} (h:n<L):(mN L n).set n (-1)=mN L (n+1):=by
 unfold mN;obtain ⟨k,hk⟩:∃ k,L - n=k+1:=⟨L - n - 1,by omega⟩
 rw [hk,show L - (n+1)=k by omega,List.replicate_succ,List.replicate_succ'];simp [List.set_append]
theorem filter1 {α:Type} (p:α→Bool) (x:α):([x].filter p).length=if p x=true then 1 else 0:=by
 by_cases h:p x=true<;>simp [h]
def cI (m:List Int) (C:Nat→Nat→Bool) (j i:Nat):Nat:=((List.range i).filter fun i=>decide (m.getD j (-1)<m.getD i (-1))&&C i j).length
theorem cI_0 (m:List Int) (C:Nat→Nat→Bool) (j:Nat):cI m C j 0=0:=by simp [cI]
theorem cI_succ (m:List Int) (C:Nat→Nat→Bool) (j i:Nat):cI m C j (i+1)=cI m C j i+if (decide (m.getD j (-1)<m.getD i (-1))&&C i j)=true then 1 else 0:=by
 unfold cI;rw [List.range_succ,List.filter_append,List.length_append,filter1]
theorem cI_le (m:List Int) (C:Nat→Nat→Bool) (j i:Nat):cI m C j i≤i:=by
 unfold cI;have:=List.length_filter_le (fun i=>decide (m.getD j (-1)<m.getD i (-1))&&C i j) (List.range i);simpa using this
theorem earlyUp_0 (m:List Int) (C:Nat→Nat→Bool):earlyUp m C 0=0:=by simp [earlyUp,upP]
theorem earlyUp_succ (m:List Int) (C:Nat→Nat→Bool) (j:Nat):earlyUp m C (j+1)=earlyUp m C j+cI m C j j:=by
 unfold earlyUp cI;rw [upP_succ,List.filter_append,List.length_append,List.filter_map,List.length_map];rfl
theorem earlyUp_le (m:List Int) (C:Nat→Nat→Bool) (L:Nat):∀ j,j≤L→earlyUp m C j≤j * L
 | 0,_=>by simp [earlyUp_0]
 | j+1,h=>by
  have:=earlyUp_le m C L j (by omega);have:=cI_le m C j j;rw [earlyUp_succ,Nat.succ_mul];omega
def feetL (l:List Txn):List Foot:=l.map (·.ft)
theorem qei (l:List Txn):(feetL l).length=l.length:=by simp [feetL]
def feetR (l:List Txn):List (List AV):=(feetL l).map Foot.c
theorem feetR_take {l:List Txn} {n:Nat} (h:n<l.length):(feetR l).take (n+1)=(feetR l).take n++[l[n].ft.c]:=by
 unfold feetR feetL;rw [List.take_succ_eq_append_getElem (by simpa using h)];simp
theorem feetR_tlen {l:List Txn} {n:Nat} (h:n≤l.length):((feetR l).take n).length=n:=by simp [feetR,feetL];omega
theorem feetR_all (l:List Txn):(feetR l).take l.length=(feetL l).map Foot.c:=by
 unfold feetR;rw [List.take_of_length_le (by simp [feetL])]
end Go.Cw

namespace Go.Cw
open Go Go.Abs
section
variable {C:Cfg}
theorem EvSim.okI {x:EV} {v w:V} {s:MS} {m:RM} (h:Sim s m) (hx:x=.ok v) (hw:w=v):EvSim (x,s) (w,m):=by subst hx hw;exact ⟨rfl,h⟩
theorem sim_got {s':MS} {m':RM} (h:Sim s' m') (op:Int) (v:V) (hop:op=22∨op=23∨op=24) :
  EvSim (gotS op v,s') (if op=24 then (vB (!decide (v.k=0)),m') else if v.k=0 then (⟨if op=23 then 2 else 1,0,em⟩,m') else if v.k≠(if op=23 then 2 else 1) then (V.nil,m'.ab 1003) else (v,m')):=by
 rcases hop with rfl | rfl | rfl
 ·
  by_cases h0:v.k=0
  ·
   simp only [gotS,h0];exact .okI h rfl rfl
  ·
   by_cases h1:v.k=1
   ·
    simp only [gotS,h1];exact .okI h rfl rfl
   ·
    simp [gotS,h0,h1];exact .ab h
 ·
  by_cases h0:v.k=0
  ·
   simp only [gotS,h0];exact .okI h rfl rfl
  ·
   by_cases h1:v.k=2
   ·
    simp only [gotS,h1];exact .okI h rfl rfl
   ·
    simp [gotS,h0,h1];exact .ab h
 ·
  simp only [gotS];exact .okI h rfl rfl
theorem sim_one {s:MS} {m:RM} (h:Sim s m) {op:Int} {a:V} (ha:okX a) (hr:qdt a) (hf:∀ n,i64 n→qa7 (C.fmt n)=true) (hop:op=9∨op=18∨op=20∨op=21∨op=22∨op=23∨op=24):EvSim (unS C op a s) (oneR C m op a):=by
 have hfe:a.k=2→(op=22∨op=23∨op=24)→EvSim (unS C op a s) (oneR C m op a):=by
  intro hk ho;have hf:=sim_fetch (C:=C) h a.s;have hw:wantR op=2:=by rcases ho with rfl | rfl | rfl<;>rfl
  have e1:unS C op a s=match qce C a.s s with
   | (.error z,m')=>(.error z,m')
   | (.ok v,m')=>(gotS op v,m'):=by
   unfold unS;rw [if_neg (by omega),if_neg (by omega),if_neg (by omega),if_neg (by omega),if_neg (by simp [hk])];rfl
  have e2:oneR C m op a=if (qbi C m a.s).2.st≠0 then (V.nil,(qbi C m a.s).2) else if op=24 then (vB (!decide ((qbi C m a.s).1.k=0)),(qbi C m a.s).2) else if (qbi C m a.s).1.k=0 then (⟨if op=23 then 2 else 1,0,em⟩,(qbi C m a.s).2) else if (qbi C m a.s).1.k≠(if op=23 then 2 else 1) then (V.nil,(qbi C m a.s).2.ab 1003) else ((qbi C m a.s).1,(qbi C m a.s).2):=by
   unfold oneR;rw [if_neg (by rw [hw];simp [hk]),if_neg (by omega),if_neg (by omega),if_neg (by omega),if_neg (by omega)]
  rw [e1,e2];rcases hx:qce C a.s s with ⟨z | v,s'⟩<;>rw [hx] at hf
  ·
   have hf:(qbi C m a.s).1=V.nil∧Dead z s' (qbi C m a.s).2:=hf;rw [if_pos (by rw [hf.2.st];exact hf.2.ne)];exact ⟨rfl,hf.2⟩
  ·
   have hf:(qbi C m a.s).1=v∧Sim s' (qbi C m a.s).2:=hf;rw [if_neg (by rw [hf.2.st];simp),hf.1];exact sim_got hf.2 op v ho
 rcases hop with rfl | rfl | rfl | rfl | ho
 ·
  by_cases hk:a.k=1
  · simpa [unS,oneR,wantR,hk] using sim_calc h (qdo a.n)
  · simpa [unS,oneR,wantR,hk] using (EvSim.ab (c:=1009) h)
 ·
  by_cases hk:a.k=3
  · simpa [unS,oneR,wantR,hk] using (EvSim.ok (v:=vB (decide (a.n=0))) h)
  · simpa [unS,oneR,wantR,hk] using (EvSim.ab (c:=1009) h)
 ·
  by_cases hk:a.k=1
  ·
   have hp:=hf _ hr.1;unfold qa7 at hp;simp only [Bool.and_eq_true,decide_eq_true_eq] at hp;have ht:textS (C.fmt a.n)=.ok (vS (C.fmt a.n)):=by unfold textS;rw [if_neg (by omega)]
   simpa [unS,oneR,wantR,hk,ht] using (EvSim.ok (v:=vS (C.fmt a.n)) h)
  · simpa [unS,oneR,wantR,hk] using (EvSim.ab (c:=1009) h)
 ·
  by_cases hk:a.k=2
  · simpa [unS,oneR,wantR,hk] using (EvSim.ok (v:=vI a.s.size) h)
  · simpa [unS,oneR,wantR,hk] using (EvSim.ab (c:=1009) h)
 ·
  by_cases hk:a.k=2
  · exact hfe hk ho
  ·
   have e1:unS C op a s=(.error (ab 1009),s):=by
    unfold unS;rw [if_neg (by omega),if_neg (by omega),if_neg (by omega),if_neg (by omega),if_pos (by simp [hk])]
   have hw:wantR op=2:=by rcases ho with rfl | rfl | rfl<;>rfl
   have e2:oneR C m op a=(V.nil,m.ab 1009):=by
    unfold oneR;rw [if_pos (by rw [hw];simp [hk])]
   rw [e1,e2];exact .ab h
theorem sim_op {s:MS} {m:RM} (h:Sim s m) {op:Int} {l:List V} (hl:∀ v∈l,okX v) (hr:∀ v∈l,qdt v) (hf:∀ n,i64 n→qa7 (C.fmt n)=true) (har:(l.length:Int)=qb0 op):EvSim (opS C op l s) (opR C m op l):=by
 match l with
 | []=>exact .ab h
 | [a] =>
  refine sim_one h (hl a (by simp)) (hr a (by simp)) hf ?_;unfold qb0 at har;simp at har;split at har
  · omega
  split at har
  · omega
  split at har
  · omega
  · omega
 | [a,b] =>
  refine sim_two h (hl a (by simp)) (hl b (by simp)) ?_;unfold qb0 at har;simp at har;split at har
  · omega
  split at har
  · omega
  split at har
  · omega
  · omega
 | a::b::c::r=>exact .ab h
section
variable (hV:vC C) (hC:rngC C)
include hV hC
mutual
theorem sim_ev:∀ (e:Ex) (d:Nat) (s:MS) (m:RM),chkE e d=0→rngX e→vM s→rngM s→qec s.reads→Sim s m→EvSim (evE C e s) (evR C e m)
 | .mk op n x args,d,s,m,hc,hR,hM,hr,ha,h=>by
  have har:=qd7 hc;have hR':=(rngX_iff _).1 hR;simp only [Ex.args,Ex.op,Ex.n,Ex.s] at har hR';rw [chkE] at hc;by_cases hn:qcb op n x args.length d=0
  ·
   rw [if_pos hn] at hc;rw [evE,evR];by_cases h1:op=1
   · rw [if_pos h1,if_pos h1];exact .ok h
   rw [if_neg h1,if_neg h1];by_cases h2:op=2
   · rw [if_pos h2,if_pos h2];exact .ok h
   rw [if_neg h2,if_neg h2];by_cases h3:op=3
   ·
    rw [if_pos h3,if_pos h3];have hv:=h.vars x;by_cases hp:hasP m.vars x=true
    ·
     rw [if_pos hp] at hv;rw [hv,if_pos hp];exact .ok h
    ·
     rw [if_neg hp] at hv;rw [hv,if_neg hp];exact .ab h
   rw [if_neg h3,if_neg h3];have hS:=sim_evL args (d+1) s m hc hR'.2 hM hr ha h;have hE:=evL_ok hC args s hR'.2 hr ha;rcases hL:evL C args s with ⟨z | l,s'⟩
   ·
    rw [hL] at hS;have hS:Dead z s' (evRL C args m).2:=hS;simp only;rw [if_pos (by rw [hS.st];exact hS.ne)];exact ⟨rfl,hS⟩
   ·
    rw [hL] at hS hE;have hS:(evRL C args m).1=l∧Sim s' (evRL C args m).2:=hS;simp only;rw [if_neg (by rw [hS.2.st];simp),hS.1];have hl:=okX_evL hV hC args (d+1) s s' l hc hR'.2 hM hr ha hL;exact sim_op hS.2 hl (hE.2 l rfl) hV.fmt (by rw [evL_len hL];exact har)
  ·
   rw [if_neg hn] at hc;exact (hn hc).elim
theorem sim_evL:∀ (l:List Ex) (d:Nat) (s:MS) (m:RM),chkL l d=0→(∀ x∈l,rngX x)→vM s→rngM s→qec s.reads→Sim s m →
  (match (evL C l s).1 with
   | .ok r=>(evRL C l m).1=r∧Sim (evL C l s).2 (evRL C l m).2
   | .error z=>Dead z (evL C l s).2 (evRL C l m).2)
 | [],d,s,m,_,_,_,_,_,h=>by rw [evL,evRL];exact ⟨rfl,h⟩
 | e::l,d,s,m,hc,hR,hM,hr,ha,h=>by
  rw [chkL] at hc;split at hc
  ·
   rename_i h0;have hE':=evE_ok hC e s (hR e (by simp)) hr ha;have hS:=sim_ev e d s m h0 (hR e (by simp)) hM hr ha h;rw [evL,evRL];rcases hE:evE C e s with ⟨z | v,s'⟩
   ·
    rw [hE] at hS;have hS:(evR C e m).1=V.nil∧Dead z s' (evR C e m).2:=hS;simp only;rw [if_pos (by rw [hS.2.st];exact hS.2.ne)];exact hS.2
   ·
    rw [hE] at hS hE';have hS:(evR C e m).1=v∧Sim s' (evR C e m).2:=hS;simp only;rw [if_neg (by rw [hS.2.st];simp)];have hT:=sim_evL l d s' (evR C e m).2 hc (fun x hx=>hR x (by simp [hx])) (vM_ev hE'.1 hM) (hE'.1.rng hr) hE'.1.asc hS.2;rcases hL:evL C l s' with ⟨z | r,s''⟩
    ·
     rw [hL] at hT;exact hT
    ·
     rw [hL] at hT;have hT:(evRL C l (evR C e m).2).1=r∧Sim s'' (evRL C l (evR C e m).2).2:=hT;exact ⟨by rw [hS.1,hT.1],hT.2⟩
  · contradiction
end
end
end
end Go.Cw

namespace Go.Cw
open Go Go.Abs
abbrev Vis:=List (qac×Int)
def subV (a b:Vis):Prop:=∀ k ty,qbt a k=some ty→qbt b k=some ty
theorem subV.refl (a:Vis):subV a a:=fun _ _ h=>h
theorem subV.trans {a b c:Vis} (h:subV a b) (g:subV b c):subV a c:=fun k ty e=>g k ty (h k ty e)
def qcc {α:Type} (l:List (qac×α)):List qac:=l.map (·.1)
theorem qc8 {α:Type}:∀ {l:List (qac×α)} {k:qac},qbt l k=none↔k∉qcc l
 | [],k=>by simp [qbt,qcc]
 | p::l,k=>by
  have ih:=qc8 (l:=l) (k:=k);simp only [qbt,qcc,List.map_cons,List.mem_cons,not_or] at ih ⊢;by_cases h:p.1=k
  · simp [h]
  ·
   rw [if_neg h,ih];exact ⟨fun g=>⟨fun e=>h e.symm,g⟩,fun g=>g.2⟩
theorem qcv {α:Type}:∀ (l:List (qac×α)) (k:qac) (v:α) (x:qac),x∈qcc (qcj l k v)↔x=k∨x∈qcc l
 | [],k,v,x=>by simp [qcj,qcc]
 | p::l,k,v,x=>by
  have ih:=qcv l k v x;rw [qcj];split
  ·
   rename_i h;subst h;simp [qcc]
  ·
   simp only [qcc,List.map_cons,List.mem_cons] at ih ⊢;rw [ih];constructor
   · rintro (h | h | h)<;>simp [h]
   · rintro (h | h | h)<;>simp [h]
theorem nodV_set {α:Type}:∀ (l:List (qac×α)) (k:qac) (v:α),(qcc l).Nodup→(qcc (qcj l k v)).Nodup
 | [],k,v,_=>by simp [qcj,qcc]
 | p::l,k,v,h=>by
  have h':p.1∉qcc l∧(qcc l).Nodup:=List.nodup_cons.1 h;rw [qcj];split
  ·
   rename_i e;subst e;exact h
  ·
   rename_i e;refine List.nodup_cons.2 ⟨fun hm=>?_,nodV_set l k v h'.2⟩;rcases (qcv l k v _).1 hm with e' | hm
   · exact e e'
   · exact h'.1 hm
theorem kDel_sub {α:Type}:∀ (l:List (qac×α)) (k:qac),(kDel l k).Sublist l
 | [],_=>by simp [kDel]
 | p::l,k=>by
  rw [kDel];split
  · exact List.sublist_cons_self _ _
  · exact (kDel_sub l k).cons₂ _
theorem kGet_of_mem {α:Type}:∀ {l:List (qac×α)} {k:qac} {v:α},(qcc l).Nodup→(k,v)∈l→qbt l k=some v
 | p::l,k,v,hd,h=>by
  have hd':p.1∉qcc l∧(qcc l).Nodup:=List.nodup_cons.1 hd;rw [qbt];rcases List.mem_cons.1 h with rfl | h
  · simp
  ·
   rw [if_neg]
   · exact kGet_of_mem hd'.2 h
   ·
    intro e;exact hd'.1 (List.mem_map.2 ⟨(k,v),h,e.symm⟩)
structure TOk (ts:TS):Prop where
 nod:(qcc ts.visible).Nodup
 sub:subV ts.visible ts.all
theorem TOk.del {ts:TS} (h:TOk ts) (k:qac):TOk ⟨kDel ts.visible k,ts.loops,ts.all⟩:=⟨h.nod.sublist ((kDel_sub _ _).map _),fun x ty e=>h.sub x ty (by
 have:=(kDel_sub ts.visible k).subset (kGet_mem e);exact kGet_of_mem h.nod this)⟩
theorem TOk.dels (b:List (qac×Bool)) (a:Vis):∀ (l:List St) {vis:Vis},TOk ⟨vis,b,a⟩→TOk ⟨delLets l vis,b,a⟩
 | [],vis,h=>h
 | t::l,vis,h=>by
  rw [delLets];refine TOk.dels b a l ?_;split
  · exact h.del t.name
  · exact h
theorem TOk.set {ts:TS} (h:TOk ts) (k:qac) (ty:Int) (lp:List (qac×Bool)):TOk ⟨qcj ts.visible k ty,lp,qcj ts.all k ty⟩:=⟨nodV_set _ _ _ h.nod,fun x u e=>by
 simp only at e ⊢;rw [qch] at e ⊢;split at e
 · rename_i hk;rw [if_pos hk];exact e
 · rename_i hk;rw [if_neg hk];exact h.sub x u e⟩
mutual
def nmS:St→List qac
 | .mk op name _ _ _ body els=>(if op=1∨op=6 then [name] else [])++(nmL body++nmL els)
def nmL:List St→List qac
 | []=>[]
 | t::l=>nmS t++nmL l
end
theorem nmS_eq (t:St):nmS t=(if t.op=1∨t.op=6 then [t.name] else [])++(nmL t.body++nmL t.els):=by cases t;rw [nmS];rfl
structure TGo (ns:List qac) (ts ts':TS):Prop where
 ok:TOk ts'
 mono:subV ts.all ts'.all
 keys:∀ k,k∈qcc ts'.all→k∈qcc ts.all∨k∈ns
theorem TGo.refl {ts:TS} (h:TOk ts) (ns:List qac):TGo ns ts ts:=⟨h,.refl _,fun _ h=>.inl h⟩
theorem TGo.mono' {ns ns':List qac} {ts ts':TS} (h:TGo ns ts ts') (hn:∀ k∈ns,k∈ns'):TGo ns' ts ts':=⟨h.ok,h.mono,fun k hk=>(h.keys k hk).imp id (hn k)⟩
theorem TGo.trans {a b:List qac} {s t u:TS} (h:TGo a s t) (g:TGo b t u):TGo (a++b) s u:=⟨g.ok,h.mono.trans g.mono,fun k hk=>by
 rcases g.keys k hk with hk | hk
 ·
  rcases h.keys k hk with hk | hk
  · exact .inl hk
  · exact .inr (by simp [hk])
 · exact .inr (by simp [hk])⟩
def fresh (ns:List qac) (ts:TS):Prop:=ns.Nodup∧∀ k∈ns,k∉qcc ts.all
theorem TGo.set {ts:TS} (h:TOk ts) {k:qac} (hk:k∉qcc ts.all) (ty:Int) (lp:List (qac×Bool)):TGo [k] ts ⟨qcj ts.visible k ty,lp,qcj ts.all k ty⟩:=⟨h.set k ty lp,fun x u e=>by
 simp only;rw [qch];split
 ·
  rename_i hx;subst hx;rw [qc8.2 hk] at e;cases e
 · exact e,fun x hx=>by
 rcases (qcv _ _ _ _).1 hx with h | h
 · exact .inr (by simp [h])
 · exact .inl h⟩
theorem fresh.left {a b:List qac} {ts:TS} (h:fresh (a++b) ts):fresh a ts:=⟨(List.nodup_append.1 h.1).1,fun k hk=>h.2 k (by simp [hk])⟩
theorem fresh.right {a b:List qac} {ts ts':TS} (h:fresh (a++b) ts) (g:TGo a ts ts'):fresh b ts':=⟨(List.nodup_append.1 h.1).2.1,fun k hk hm=>by
 rcases g.keys k hm with hm | hm
 · exact h.2 k (by simp [hk]) hm
 · exact (List.nodup_append.1 h.1).2.2 k hm k hk rfl⟩
theorem TGo.blk {ns:List qac} {l:List St} {f:TS→Int×TS} {ts:TS} (hf:(f ts).1=0→TGo ns ts (f ts).2) (h0:(qca l f ts).1=0):TGo ns ts (qca l f ts).2:=by
 unfold qca at h0 ⊢;split at h0
 · rename_i h;exact (h h0).elim
 ·
  rename_i h;rw [if_neg h];have g:=hf (by simpa using h);exact ⟨TOk.dels _ _ l (vis:=(f ts).2.visible) g.ok,g.mono,g.keys⟩
theorem go_step (t:St) (B E:TS→Int×TS) (ts:TS) (h:TOk ts) (hf:fresh (nmS t) ts)
  (hB:∀ ts,TOk ts→fresh (nmL t.body) ts→(B ts).1=0→TGo (nmL t.body) ts (B ts).2)
  (hE:∀ ts,TOk ts→fresh (nmL t.els) ts→(E ts).1=0→TGo (nmL t.els) ts (E ts).2)
  (h0:(stStep t B E ts).1=0):TGo (nmS t) ts (stStep t B E ts).2:=by
 rw [nmS_eq] at hf ⊢;unfold stStep at h0 ⊢;by_cases he:(qc7 ts.visible t).2.2≠0
 · rw [if_pos he] at h0;exact (he h0).elim
 rw [if_neg he] at h0 ⊢;by_cases h1:t.op=1
 ·
  rw [if_pos h1] at h0 ⊢;rw [if_pos (.inl h1)] at hf ⊢;exact (TGo.set h (hf.2 t.name (by simp)) _ _).mono' (fun k hk=>by simp at hk;simp [hk])
 rw [if_neg h1] at h0 ⊢;by_cases h2:t.op=2
 ·
  rw [if_pos h2];rcases qbt ts.visible t.name with _ | ty
  · exact .refl h _
  · exact .refl h _
 rw [if_neg h2] at h0 ⊢;by_cases h3:t.op=3
 · rw [if_pos h3];exact .refl h _
 rw [if_neg h3] at h0 ⊢;by_cases h4:t.op=4
 · rw [if_pos h4];exact .refl h _
 rw [if_neg h4] at h0 ⊢;by_cases h7:t.op=7
 · rw [if_pos h7];exact .refl h _
 rw [if_neg h7] at h0 ⊢;by_cases h5:t.op=5
 ·
  rw [if_pos h5] at h0 ⊢;by_cases h6:(qc7 ts.visible t).1≠3
  · rw [if_pos h6] at h0;simp at h0
  rw [if_neg h6] at h0 ⊢;by_cases h8:(qca t.body B ts).1≠0
  · rw [if_pos h8] at h0;exact (h8 h0).elim
  rw [if_neg h8] at h0 ⊢;rw [if_neg (by omega),List.nil_append] at hf ⊢;have g1:=TGo.blk (l:=t.body) (fun g=>hB ts h hf.left g) (by simpa using h8);have g2:=TGo.blk (l:=t.els) (fun g=>hE _ g1.ok (hf.right g1) g) h0;exact g1.trans g2
 rw [if_neg h5] at h0 ⊢;by_cases h6:t.op=6
 ·
  rw [if_pos h6] at h0 ⊢;by_cases h8:(qc7 ts.visible t).1≠1∨(qc7 ts.visible t).2.1≠1
  · rw [if_pos h8] at h0;simp at h0
  rw [if_neg h8] at h0 ⊢;rw [if_pos (.inr h6)] at hf ⊢;have g0:=TGo.set h (hf.2 t.name (by simp)) 1 (qcj ts.loops t.name true);have g1:=TGo.blk (l:=t.body) (fun g=>hB _ g0.ok (hf.right g0).left g) h0;have g2:=g0.trans g1;exact ⟨g1.ok.del t.name,g2.mono,fun k hk=>by
   rcases g2.keys k hk with hk | hk
   · exact .inl hk
   ·
    refine .inr ?_;simp only [List.mem_append] at hk ⊢;rcases hk with hk | hk
    · exact .inl hk
    · exact .inr (.inl hk)⟩
 ·
  rw [if_neg h6];exact .refl h _
mutual
theorem go_st:∀ (t:St) (ts:TS),TOk ts→fresh (nmS t) ts→(stT t ts).1=0→TGo (nmS t) ts (stT t ts).2
 | .mk op name mx a b body els,ts,h,hf,h0=>by
  rw [stT_eq] at h0 ⊢;exact go_step (.mk op name mx a b body els) _ _ ts h hf (fun ts=>go_seq body ts) (fun ts=>go_seq els ts) h0
theorem go_seq:∀ (l:List St) (ts:TS),TOk ts→fresh (nmL l) ts→(qdf l ts).1=0→TGo (nmL l) ts (qdf l ts).2
 | [],ts,h,hf,h0=>by rw [qdf];exact .refl h _
 | t::l,ts,h,hf,h0=>by
  rw [qdf] at h0 ⊢;rw [nmL] at hf ⊢;split at h0
  · rename_i he;exact (he h0).elim
  rename_i he;rw [if_neg he];have g1:=go_st t ts h hf.left (by simpa using he);exact g1.trans (go_seq l _ g1.ok (hf.right g1) h0)
end
def tyS (G:Vis) (s:MS):Prop:=∀ k v ty,qbt s.vars k=some v→qbt G k=some ty→v.k=ty
def qbe (op:Int):Int:=if 10≤op∧op≤15 then 3 else (qci op).2
theorem kind_exact {r:Int×Int} {v:V} (h:qcf r=.ok v):v.k=1:=by
 unfold qcf at h;split at h
 · cases h;rfl
 · split at h<;>cases h
theorem kind_text {s:qac} {v:V} (h:textS s=.ok v):v.k=2:=by
 unfold textS at h;split at h
 · cases h
 · cases h;rfl
section
variable {C:Cfg}
theorem kind_op {op:Int} {l:List V} {s t:MS} {v:V} (har:(l.length:Int)=qb0 op) (h:opS C op l s=(.ok v,t)):v.k=qbe op:=by
 have hy:∀ {x:EV} {u:MS},(x,u)=((.ok v,t):EV×MS)→x=.ok v:=fun h=>congrArg Prod.fst h;unfold opS at h;split at h
 ·
  rename_i a;have hop:op=9∨op=18∨op=20∨op=21∨op=22∨op=23∨op=24:=by
   unfold qb0 at har;simp at har;split at har
   · omega
   split at har
   · omega
   split at har
   · omega
   · omega
  rcases hop with rfl | rfl | rfl | rfl | ho
  ·
   have e:unS C 9 a s=(if a.k=1 then qcf (qdo a.n) else .error (ab 1009),s):=rfl;rw [e] at h;have h:=hy h;split at h
   · exact kind_exact h
   · cases h
  ·
   have e:unS C 18 a s=(if a.k=3 then .ok (vB (decide (a.n=0))) else .error (ab 1009),s):=rfl;rw [e] at h;have h:=hy h;split at h
   · cases h;rfl
   · cases h
  ·
   have e:unS C 20 a s=(if a.k=1 then textS (C.fmt a.n) else .error (ab 1009),s):=rfl;rw [e] at h;have h:=hy h;split at h
   · exact kind_text h
   · cases h
  ·
   have e:unS C 21 a s=(if a.k=2 then .ok (vI a.s.size) else .error (ab 1009),s):=rfl;rw [e] at h;have h:=hy h;split at h
   · cases h;rfl
   · cases h
  ·
   unfold unS at h;rw [if_neg (by omega),if_neg (by omega),if_neg (by omega),if_neg (by omega)] at h;by_cases hk:a.k≠2
   · rw [if_pos hk] at h;cases h
   rw [if_neg hk] at h;rcases hx:qce C a.s s with ⟨z | w,m'⟩
   · rw [hx] at h;cases h
   ·
    rw [hx] at h;have h:=hy h;rcases ho with rfl | rfl | rfl
    ·
     have e:gotS 22 w=if w.k=0 then .ok (vI 0) else if w.k≠1 then .error (ab 1003) else .ok w:=by simp [gotS]
     rw [e] at h;split at h
     · cases h;rfl
     split at h
     · cases h
     ·
      rename_i h2;have hv:w=v:=by injection h
      have:w.k=1:=by omega
      rw [← hv,this];rfl
    ·
     have e:gotS 23 w=if w.k=0 then textS em else if w.k≠2 then .error (ab 1003) else .ok w:=by simp [gotS]
     rw [e] at h;split at h
     · exact kind_text h
     split at h
     · cases h
     ·
      rename_i h2;have hv:w=v:=by injection h
      have:w.k=2:=by omega
      rw [← hv,this];rfl
    ·
     have e:gotS 24 w=.ok (vB (!decide (w.k=0))):=by simp [gotS]
     rw [e] at h;cases h;rfl
 ·
  rename_i a b;have g:=hy h;clear h hy;have hop:(4≤op∧op≤8)∨(10≤op∧op≤17)∨op=19:=by
   unfold qb0 at har;simp at har;split at har
   · omega
   split at har
   · omega
   split at har
   · omega
   · omega
  unfold binS at g;by_cases ho:op=4∨op=5∨op=6∨op=7∨op=8
  ·
   rw [if_pos ho] at g;have:qbe op=1:=by unfold qbe qci;rw [if_neg (by omega),if_pos (by omega)]
   rw [this];split at g
   ·
    unfold qd9 at g
    repeat' split at g
    all_goals exact kind_exact g
   · cases g
  rw [if_neg ho] at g;by_cases h16:op=16
  ·
   rw [if_pos h16] at g;rw [h16];split at g
   · cases g;rfl
   · cases g
  rw [if_neg h16] at g;by_cases h17:op=17
  ·
   rw [if_pos h17] at g;rw [h17];split at g
   · cases g;rfl
   · cases g
  rw [if_neg h17] at g;by_cases h19:op=19
  ·
   rw [if_pos h19] at g;rw [h19];split at g
   · exact kind_text g
   · cases g
  rw [if_neg h19] at g;unfold compS at g;split at g
  ·
   cases g;unfold qbe;rw [if_pos (by omega)];rfl
  · cases g
 · cases h
theorem kind_ev {G vis:Vis} (hsub:subV vis G) {e:Ex} {d:Nat} {ty:Int} (hc:chkE e d=0) (hof:ofE vis e=(ty,0)) {s t:MS} {v:V} (hT:tyS G s) (h:evE C e s=(.ok v,t)):v.k=ty∧1≤ty∧ty≤3:=by
 have har:=qd7 hc;rw [ofE_eq] at hof;rw [evE_eq] at h;have hk:∀ (op:Int),1≤(qci op).2∧(qci op).2≤3:=fun op=>by
  unfold qci
  repeat' split
  all_goals decide
 by_cases h3:e.op=3
 ·
  rw [if_pos h3] at hof;rw [if_neg (by omega),if_neg (by omega),if_pos h3] at h;have h:=congrArg Prod.fst h;simp only at h;split at h
  ·
   rename_i w hw;cases h;unfold varT at hof;split at hof
   · cases hof
   ·
    rename_i u hu;split at hof
    · cases hof
    ·
     cases hof;exact ⟨hT _ _ _ hw (hsub _ _ hu),by omega,by omega⟩
  · cases h
 ·
  rw [if_neg h3] at hof;split at hof
  ·
   rename_i he;have:=congrArg Prod.snd hof;simp only at this;exact (he this).elim
  have hty:ty=qbe e.op:=by
   unfold qbe;split at hof
   ·
    rename_i ho;split at hof
    · cases hof
    · cases hof;rw [if_pos ho]
   ·
    rename_i ho;rw [if_neg ho];split at hof
    · cases hof;rfl
    · cases hof
  have hr:1≤ty∧ty≤3:=by
   rw [hty];unfold qbe;split
   · omega
   · exact hk _
  refine ⟨?_,hr⟩;rw [hty];split at h
  ·
   rename_i h1;cases h;unfold qbe qci;rw [if_neg (by omega),if_pos (.inl h1)];rfl
  split at h
  ·
   rename_i h1;cases h;unfold qbe qci;rw [if_neg (by omega),if_neg (by omega),if_pos (.inl h1)];rfl
  split at h
  · cases h
  ·
   rename_i l m' hL;exact kind_op (by rw [evL_len hL];exact har) h
end
end Go.Cw

namespace Go.Cw
open Go Go.Abs
def loopR (body:RM→RM) (name:qac) (b:Int):Nat→Int→RM→RM
 | 0,_,m=>m
 | f+1,i,m=>if i<b∧m.st=0 then (if (qdr m).st=0 then loopR body name b f (W64 (i+1)) (body { qdr m with vars:=setR (qdr m).vars ⟨name,vI i⟩ }) else loopR body name b f (W64 (i+1)) (qdr m)) else m
section
variable (C:Cfg)
mutual
def stR:St→RM→RM
 | .mk op name mx a b body els,m =>
  if op=8 then m.ab mx
  else if (evR C a m).2.st≠0 then (evR C a m).2
  else if op=1∨op=2 then { (evR C a m).2 with vars:=setR (evR C a m).2.vars ⟨name,(evR C a m).1⟩ }
  else if op=4 then storeR C (evR C a m).2 (evR C a m).1.s V.nil
  else if op=7 then emitR (evR C a m).2 (evR C a m).1
  else if op=5 then (if (evR C a m).1.n=1 then blkR body (evR C a m).2 else blkR els (evR C a m).2)
  else if (evR C b (evR C a m).2).2.st≠0 then (evR C b (evR C a m).2).2
  else if op=3 then storeR C (evR C b (evR C a m).2).2 (evR C a m).1.s (evR C b (evR C a m).2).1
  else if (evR C a m).1.n<(evR C b (evR C a m).2).1.n∧((qcq (evR C b (evR C a m).2).1.n (evR C a m).1.n).2≠0∨mx<(qcq (evR C b (evR C a m).2).1.n (evR C a m).1.n).1) then (evR C b (evR C a m).2).2.ab 1005
  else loopR (fun m=>blkR body m) name (evR C b (evR C a m).2).1.n ((evR C b (evR C a m).2).1.n - (evR C a m).1.n).toNat (evR C a m).1.n (evR C b (evR C a m).2).2
def blkR:List St→RM→RM
 | [],m=>m
 | t::l,m=>if m.st≠0 then m else if (qdr m).st=0 then blkR l (stR t (qdr m)) else blkR l (qdr m)
end
end
theorem blkR_dead (C:Cfg):∀ (l:List St) {m:RM},m.st≠0→blkR C l m=m
 | [],m,h=>by rw [blkR]
 | t::l,m,h=>by rw [blkR,if_pos h]
theorem loopR_dead {body:RM→RM} {name:qac} {b:Int}:∀ (f:Nat) (i:Int) {m:RM},m.st≠0→loopR body name b f i m=m
 | 0,i,m,h=>by rw [loopR]
 | f+1,i,m,h=>by rw [loopR,if_neg (fun g=>h g.2)]
theorem loopS_end {body:MS→Except Stop Unit×MS} {name:qac} {b:Int}:∀ (f:Nat) {i:Int} {s:MS},¬ i<b→qcy body name b f i s=(.ok (),s)
 | 0,i,s,h=>by rw [qcy]
 | f+1,i,s,h=>by rw [qcy,if_neg h]
theorem loopR_end {body:RM→RM} {name:qac} {b:Int}:∀ (f:Nat) {i:Int} {m:RM},¬ i<b→loopR body name b f i m=m
 | 0,i,m,h=>by rw [loopR]
 | f+1,i,m,h=>by rw [loopR,if_neg (fun g=>h g.1)]
structure Pre (G:Vis) (r p:Nat) (s:MS) (m:RM):Prop where
 inv:Inv r p s
 vm:vM s
 ty:tyS G s
 sim:Sim s m
def Post (G:Vis) (x:Except Stop Unit×MS) (m:RM):Prop:=match x.1 with
 | .ok _=>Pre G 0 0 x.2 m
 | .error z=>Dead z x.2 m
theorem tyS_set {G:Vis} {s:MS} {k:qac} {v:V} (h:tyS G s) (hk:∀ ty,qbt G k=some ty→v.k=ty):tyS G { s with vars:=qcj s.vars k v }:=fun x w ty hx hg=>by
 simp only at hx;rw [qch] at hx;split at hx
 · rename_i e;subst e;cases hx;exact hk ty hg
 · exact h x w ty hx hg
theorem Sim.set {s:MS} {m:RM} (h:Sim s m) (k:qac) (v:V):Sim { s with vars:=qcj s.vars k v } { m with vars:=setR m.vars ⟨k,v⟩ }:=⟨fun x=>by
 simp only;rw [qch,(setR_map _ _ _).1,(setR_map _ _ _).2];by_cases hx:k=x
 · simp [hx]
 · simp [hx,h.vars x],h.own,h.keys,h.out,h.reads,h.puts,h.steps,h.st,h.code,h.miss⟩
section
variable {C:Cfg} (hV:vC C) (hC:rngC C)
include hV hC
theorem pre_ev {G vis:Vis} {e:Ex} {r p:Nat} {s:MS} {m:RM} (hg:goX e) (hc:chkE e 1=0) (h:Pre G (r+4095) p s m) :
  (∀ z s',evE C e s=(.error z,s')→Dead z s' (evR C e m).2) ∧
  (∀ v s',evE C e s=(.ok v,s')→(evR C e m).1=v∧Pre G r p s' (evR C e m).2∧okX v∧qdt v∧∀ ty,subV vis G→ofE vis e=(ty,0)→v.k=ty∧1≤ty∧ty≤3):=by
 have hS:=sim_ev hV hC e 1 s m hc hg.1 h.vm h.inv.rng h.inv.ar h.sim;have hI:=h.inv.eval hC (r:=r) hg;have hE:=evE_ok hC e s hg.1 h.inv.rng h.inv.ar;refine ⟨fun z s' hx=>?_,fun v s' hx=>?_⟩
 ·
  rw [hx] at hS;exact (show _∧Dead z s' (evR C e m).2 from hS).2
 ·
  have hk:=okX_ev hV hC e 1 s s' v hc hg.1 h.vm h.inv.rng h.inv.ar hx;have ht:=fun ty (hsub:subV vis G) (ho:ofE vis e=(ty,0))=>kind_ev (C:=C) hsub hc ho h.ty hx;rw [hx] at hS hI hE;have hS:(evR C e m).1=v∧Sim s' (evR C e m).2:=hS;refine ⟨hS.1,⟨hI.1,vM_ev hE.1 h.vm,?_,hS.2⟩,hk,hI.2 v rfl,ht⟩;have:s'.vars=s.vars:=by have:=hE.1.eq;simp only at this;rw [this]
  intro k w ty hw hg;rw [this] at hw;exact h.ty k w ty hw hg
omit hV hC in
theorem pre_tick {G:Vis} {s:MS} {m:RM} (h:Pre G 0 0 s m):(∀ z s',qdq s=(.error z,s')→(qdr m).st≠0∧Dead z s' (qdr m))∧(∀ u s',qdq s=(.ok u,s')→(qdr m).st=0∧Pre G 8192 1 s' (qdr m)):=by
 have hS:=sim_tick h.sim h.inv.st;refine ⟨fun z s' hx=>?_,fun u s' hx=>?_⟩
 ·
  rw [hx] at hS;have hS:Dead z s' (qdr m):=hS;exact ⟨by rw [hS.st];exact hS.ne,hS⟩
 ·
  have hi:=h.inv.tick hx;have hv:s'.vars=s.vars∧s'.own=s.own:=by
   unfold qdq at hx;have:=congrArg Prod.snd hx;simp only at this;subst this;exact ⟨rfl,rfl⟩
  rw [hx] at hS;have hS:Sim s' (qdr m):=hS;refine ⟨hS.st,hi,⟨by rw [hv.1];exact h.vm.1,by rw [hv.2];exact h.vm.2⟩,fun k w ty hw hg=>h.ty k w ty (by rw [← hv.1];exact hw) hg,hS⟩
omit hV hC in
theorem sim_loop {G:Vis} {body:MS→Except Stop Unit×MS} {bodyR:RM→RM} {name:qac} {b:Int} (hb64:i64 b) (hG:∀ ty,qbt G name=some ty→ty=1)
  (hb:∀ s m,Pre G 8192 1 s m→Post G (body s) (bodyR m)):∀ (f g:Nat) (i:Int) (s:MS) (m:RM),i64 i→b - i≤f→b - i≤g→Pre G 0 0 s m→Post G (qcy body name b f i s) (loopR bodyR name b g i m)
 | 0,g,i,s,m,hi,h1,h2,h=>by
  rw [loopS_end 0 (by omega),loopR_end g (by omega)];exact h
 | f+1,0,i,s,m,hi,h1,h2,h=>by
  rw [loopS_end _ (by omega),loopR_end 0 (by omega)];exact h
 | f+1,g+1,i,s,m,hi,h1,h2,h=>by
  by_cases hlt:i<b
  ·
   obtain ⟨t1,t2⟩:=pre_tick h;rw [qcy,if_pos hlt,loopR,if_pos ⟨hlt,h.sim.st⟩];have hw:W64 (i+1)=i+1:=W64_id (by have:=hi.1;omega) (by have:=hb64.2;omega);rcases hx:qdq s with ⟨z | u,s'⟩
   ·
    obtain ⟨e1,e2⟩:=t1 _ _ hx;simp only;rw [if_neg e1,loopR_dead _ _ e1];exact e2
   ·
    obtain ⟨e1,e2⟩:=t2 _ _ hx;simp only;rw [if_pos e1];have hp:Pre G 8192 1 { s' with vars:=qcj s'.vars name (vI i) } { qdr m with vars:=setR (qdr m).vars ⟨name,vI i⟩ }:=⟨e2.inv.vars (rng_vI hi) name,⟨fun q hq=>by
     rcases kSet_mem hq with rfl | hq
     · exact okX_vI i
     · exact e2.vm.1 q hq,e2.vm.2⟩,tyS_set e2.ty (fun ty hg=>(hG ty hg).symm),e2.sim.set name (vI i)⟩
    have hB:=hb _ _ hp;rcases hy:body { s' with vars:=qcj s'.vars name (vI i) } with ⟨z | u',s''⟩
    ·
     rw [hy] at hB;have hB:Dead z s'' _:=hB;simp only;rw [loopR_dead _ _ (by rw [hB.st];exact hB.ne)];exact hB
    ·
     rw [hy] at hB;have hB:Pre G 0 0 s'' _:=hB;simp only;rw [hw];exact sim_loop hb64 hG hb f g (i+1) s'' _ ⟨by have:=hi.1;omega,by have:=hb64.2;omega⟩ (by omega) (by omega) hB
  ·
   rw [loopS_end _ hlt,loopR_end _ hlt];exact h
end
theorem sub_num {a b:Int} (ha:i64 a) (hb:i64 b) (h:a<b):((qcq b a).2≠0∨(∀ mx,mx<(qcq b a).1↔mx<b - a))∧((qcq b a).2≠0→9223372036854775807<b - a):=by
 obtain ⟨a1,a2⟩:=ha;obtain ⟨b1,b2⟩:=hb;have e:W64 (b - a)=if b - a≤9223372036854775807 then b - a else b - a - 18446744073709551616:=by
  unfold W64;simp only [IntKind.wrap,IntKind.bits,IntKind.signed,Bool.true_and,decide_eq_true_eq,show (2:Int) ^ (64 - 1)=9223372036854775808 by decide,show (2:Int) ^ 64=18446744073709551616 by decide];split<;>split<;>omega
 unfold qcq;rw [e];by_cases h1:b - a≤9223372036854775807
 ·
  rw [if_pos h1,if_neg (by omega)];refine ⟨.inr fun mx=>by simp,fun h=>by simp at h⟩
 ·
  rw [if_neg h1,if_pos (by omega)];exact ⟨.inl (by simp),fun _=>by omega⟩
theorem many_iff {a b mx:Int} (ha:i64 a) (hb:i64 b) (h1:1≤mx) (h2:mx≤16):tooMany a b mx↔(a<b∧((qcq b a).2≠0∨mx<(qcq b a).1)):=by
 unfold tooMany;refine and_congr_right fun h=>?_;have hn:=sub_num ha hb h;have key:IntKind.u64.wrap mx<IntKind.u64.wrap (IntKind.u64.wrap b - IntKind.u64.wrap a)↔mx<b - a:=by
  obtain ⟨a1,a2⟩:=ha;obtain ⟨b1,b2⟩:=hb;simp only [IntKind.wrap,IntKind.bits,IntKind.signed];simp;omega
 rw [key];rcases hn.1 with h3 | h3
 ·
  have:=hn.2 h3;exact ⟨fun _=>.inl h3,fun _=>by omega⟩
 ·
  rw [← h3];exact ⟨.inr,fun g=>g.elim (fun g=>(h3 mx).2 (by have:=hn.2 g;omega)) id⟩
end Go.Cw
