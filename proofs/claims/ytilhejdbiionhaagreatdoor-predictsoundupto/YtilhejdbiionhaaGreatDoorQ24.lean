/- Part 24 of a proof: CwP, CwQ -/
import Derived.Test.YtilhejdbiionhaaGreatDoorQ23
set_option linter.all false

namespace Go.Cw
open Go Go.Abs
theorem withS_mem {l:List qab} {k x:qab}:x∈withS l k↔x=k∨x∈l:=by
 unfold withS;split
 ·
  rename_i h;have hk:k∈l:=List.mem_of_getElem? h;constructor
  · exact .inr
  ·
   rintro (rfl | h)
   · exact hk
   · exact h
 ·
  have e:=List.take_append_drop (posS k l) l;rw [List.mem_append,List.mem_cons];constructor
  ·
   rintro (h | h | h)
   · exact .inr (List.mem_of_mem_take h)
   · exact .inl h
   · exact .inr (List.mem_of_mem_drop h)
  ·
   rintro (h | h)
   · exact .inr (.inl h)
   ·
    rw [← e,List.mem_append] at h;rcases h with h | h
    · exact .inl h
    · exact .inr (.inr h)
def Grow (s t:MS):Prop:=(∀ k∈s.reads,k∈t.reads)∧(∀ k∈s.puts,k∈t.puts)∧s.steps≤t.steps
theorem Grow.refl (s:MS):Grow s s:=⟨fun _ h=>h,fun _ h=>h,Nat.le_refl _⟩
theorem grow_keeps (C:Cfg):Keeps C Grow where
 refl:=Grow.refl
 trans:=fun h g=>⟨fun k hk=>g.1 k (h.1 k hk),fun k hk=>g.2.1 k (h.2.1 k hk),Nat.le_trans h.2.2 g.2.2⟩
 fetch:=fun k s=>by
  unfold qbr;split
  · exact Grow.refl _
  split
  · exact Grow.refl _
  split
  · exact Grow.refl _
  · exact ⟨fun x hx=>withS_mem.2 (.inr hx),fun _ h=>h,Nat.le_refl _⟩
 store:=fun k v s=>by
  unfold qbi;split
  · exact Grow.refl _
  split
  · exact Grow.refl _
  · exact ⟨fun _ h=>h,fun x hx=>withS_mem.2 (.inr hx),Nat.le_refl _⟩
 emit:=fun v s=>by
  unfold emitS;split
  · exact Grow.refl _
  · exact ⟨fun _ h=>h,fun _ h=>h,Nat.le_refl _⟩
 tick:=fun s=>⟨fun _ h=>h,fun _ h=>h,by simp [qc2]⟩
 vars:=fun s n v=>⟨fun _ h=>h,fun _ h=>h,Nat.le_refl _⟩
structure Fit (C:Cfg) (s t:MS):Prop where
 rd:∀ k∈t.reads,k∈s.reads∨(qdt k=true∧(C.all=true∨hasK C.rd k=true))
 pt:∀ k∈t.puts,k∈s.puts∨(qdt k=true∧(C.all=true∨hasK C.wr k=true))
 ar:ascS s.reads→ascS t.reads
 ap:ascS s.puts→ascS t.puts
theorem Fit.refl (C:Cfg) (s:MS):Fit C s s:=⟨fun _ h=>.inl h,fun _ h=>.inl h,id,id⟩
theorem fit_keeps (C:Cfg):Keeps C (Fit C) where
 refl:=Fit.refl C
 trans:=fun h g=>⟨fun k hk=>(g.rd k hk).elim (h.rd k) .inr,fun k hk=>(g.pt k hk).elim (h.pt k) .inr,fun a=>g.ar (h.ar a),fun a=>g.ap (h.ap a)⟩
 fetch:=fun k s=>by
  unfold qbr;split
  · exact Fit.refl C _
  split
  · exact Fit.refl C _
  split
  · exact Fit.refl C _
  ·
   rename_i h1 _ _ h3;refine ⟨fun x hx=>?_,fun _ h=>.inl h,fun a=>withS_asc a k,id⟩;rcases withS_mem.1 hx with rfl | hx
   ·
    refine .inr ⟨by simpa using h1,?_⟩;rcases ha:C.all with _ | _
    ·
     refine .inr ?_;rcases hr:hasK C.rd x with _ | _
     · exact (h3 ⟨ha,hr⟩).elim
     · rfl
    · exact .inl rfl
   · exact .inl hx
 store:=fun k v s=>by
  unfold qbi;split
  · exact Fit.refl C _
  split
  · exact Fit.refl C _
  ·
   rename_i h1 h3;refine ⟨fun _ h=>.inl h,fun x hx=>?_,id,fun a=>withS_asc a k⟩;rcases withS_mem.1 hx with rfl | hx
   ·
    refine .inr ⟨by simpa using h1,?_⟩;rcases ha:C.all with _ | _
    ·
     refine .inr ?_;rcases hr:hasK C.wr x with _ | _
     · exact (h3 ⟨ha,hr⟩).elim
     · rfl
    · exact .inl rfl
   · exact .inl hx
 emit:=fun v s=>by
  unfold emitS;split
  · exact Fit.refl C _
  · exact ⟨fun _ h=>.inl h,fun _ h=>.inl h,id,id⟩
 tick:=fun s=>⟨fun _ h=>.inl h,fun _ h=>.inl h,id,id⟩
 vars:=fun s n v=>⟨fun _ h=>.inl h,fun _ h=>.inl h,id,id⟩
def Stops (C:Cfg) (z:Stop):Prop:=(∃ c,z=ab c)∨∃ k,z=rst k∧C.all=false∧qdt k=true∧(hasK C.rd k=false∨hasK C.wr k=false)
theorem ab_exact {r:Int×Int} {z:Stop} (h:qce r=.error z):∃ c,z=ab c:=by
 unfold qce at h
 repeat' split at h
 all_goals cases h
 all_goals exact ⟨_,rfl⟩
theorem ab_text {s:qab} {z:Stop} (h:textS s=.error z):∃ c,z=ab c:=by
 unfold textS at h
 repeat' split at h
 all_goals cases h
 all_goals exact ⟨_,rfl⟩
theorem ab_bin {op:Int} {a b:V} {z:Stop} (h:binS op a b=.error z):∃ c,z=ab c:=by
 unfold binS at h;split at h
 ·
  split at h
  ·
   unfold qd6 at h
   repeat' split at h
   all_goals exact ab_exact h
  · cases h;exact ⟨_,rfl⟩
 split at h
 ·
  split at h<;>cases h;exact ⟨_,rfl⟩
 split at h
 ·
  split at h<;>cases h;exact ⟨_,rfl⟩
 split at h
 ·
  split at h
  · exact ab_text h
  · cases h;exact ⟨_,rfl⟩
 ·
  unfold compS at h;split at h<;>cases h;exact ⟨_,rfl⟩
theorem ab_got {op:Int} {v:V} {z:Stop} (h:gotS op v=.error z):∃ c,z=ab c:=by
 unfold gotS at h;split at h
 · cases h
 split at h
 · cases h
 split at h
 · exact ab_text h
 split at h<;>cases h;exact ⟨_,rfl⟩
section
variable {C:Cfg}
theorem stop_fetch {k:qab} {s t:MS} {z:Stop} (h:qbr C k s=(.error z,t)):Stops C z:=by
 unfold qbr at h;split at h
 · cases h;exact .inl ⟨_,rfl⟩
 split at h
 · cases h
 split at h
 ·
  rename_i h1 _ _ h3;cases h;exact .inr ⟨k,rfl,h3.1,by simpa using h1,.inl h3.2⟩
 · cases h
theorem stop_store {k:qab} {v:V} {s t:MS} {z:Stop} (h:qbi C k v s=(.error z,t)):Stops C z:=by
 unfold qbi at h;split at h
 · cases h;exact .inl ⟨_,rfl⟩
 split at h
 ·
  rename_i h1 h3;cases h;exact .inr ⟨k,rfl,h3.1,by simpa using h1,.inr h3.2⟩
 · cases h
theorem stop_emit {v:V} {s t:MS} {z:Stop} (h:emitS v s=(.error z,t)):Stops C z:=by
 unfold emitS at h;split at h
 · cases h;exact .inl ⟨_,rfl⟩
 · cases h
theorem stop_tick {s t:MS} {z:Stop} (h:qc2 s=(.error z,t)):Stops C z:=by
 unfold qc2 at h;split at h
 · cases h;exact .inl ⟨_,rfl⟩
 · cases h
theorem stop_op {op:Int} {l:List V} {s t:MS} {z:Stop} (h:opS C op l s=(.error z,t)):Stops C z:=by
 have hx:∀ {x:EV} {u:MS},(x,u)=((.error z,t):EV×MS)→x=.error z:=fun h=>congrArg Prod.fst h;unfold opS at h;split at h
 ·
  rename_i a;unfold unS at h;split at h
  ·
   have h:=hx h;split at h
   · exact .inl (ab_exact h)
   · cases h;exact .inl ⟨_,rfl⟩
  split at h
  ·
   have h:=hx h;split at h<;>cases h;exact .inl ⟨_,rfl⟩
  split at h
  ·
   have h:=hx h;split at h
   · exact .inl (ab_text h)
   · cases h;exact .inl ⟨_,rfl⟩
  split at h
  ·
   have h:=hx h;split at h<;>cases h;exact .inl ⟨_,rfl⟩
  split at h
  · cases h;exact .inl ⟨_,rfl⟩
  split at h
  ·
   rename_i hf;cases h;exact stop_fetch hf
  · exact .inl (ab_got (hx h))
 · exact .inl (ab_bin (hx h))
 · cases h;exact .inl ⟨_,rfl⟩
mutual
theorem stop_ev:∀ (e:Ex) (s t:MS) (z:Stop),evE C e s=(.error z,t)→Stops C z
 | .mk op n x args,s,t,z,h=>by
  rw [evE] at h;split at h
  · cases h
  split at h
  · cases h
  split at h
  ·
   have h:=congrArg Prod.fst h;simp only at h;split at h<;>cases h;exact .inl ⟨_,rfl⟩
  split at h
  ·
   rename_i hL;cases h;exact stop_evL args s _ _ hL
  · exact stop_op h
theorem stop_evL:∀ (l:List Ex) (s t:MS) (z:Stop),evL C l s=(.error z,t)→Stops C z
 | [],s,t,z,h=>by rw [evL] at h;cases h
 | e::l,s,t,z,h=>by
  rw [evL] at h;split at h
  ·
   rename_i hE;cases h;exact stop_ev e s _ _ hE
  ·
   split at h
   ·
    rename_i hL;cases h;exact stop_evL l _ _ _ hL
   · cases h
end
theorem stop_loop {body:MS→Except Stop Unit×MS} {name:qab} {b:Int} (hb:∀ s t z,body s=(.error z,t)→Stops C z):∀ (f:Nat) (i:Int) (s t:MS) (z:Stop),qcd body name b f i s=(.error z,t)→Stops C z
 | 0,i,s,t,z,h=>by rw [qcd] at h;cases h
 | f+1,i,s,t,z,h=>by
  rw [qcd] at h;split at h
  ·
   split at h
   ·
    rename_i hT;cases h;exact stop_tick hT
   ·
    split at h
    ·
     rename_i hB;cases h;exact hb _ _ _ hB
    · exact stop_loop hb f _ _ _ _ h
  · cases h
mutual
theorem stop_st:∀ (x:St) (s t:MS) (z:Stop),stI C x s=(.error z,t)→Stops C z
 | .mk op name mx a b body els,s,t,z,h=>by
  rw [stI] at h;split at h
  ·
   split at h
   · rename_i hE;cases h;exact stop_ev a s _ _ hE
   · cases h
  split at h
  ·
   split at h
   · rename_i hE;cases h;exact stop_ev a s _ _ hE
   ·
    split at h
    · rename_i hE;cases h;exact stop_ev b _ _ _ hE
    ·
     split at h
     · exact stop_store h
     · cases h;exact .inl ⟨_,rfl⟩
  split at h
  ·
   split at h
   · rename_i hE;cases h;exact stop_ev a s _ _ hE
   ·
    split at h
    · exact stop_store h
    · cases h;exact .inl ⟨_,rfl⟩
  split at h
  ·
   split at h
   · rename_i hE;cases h;exact stop_ev a s _ _ hE
   ·
    split at h
    ·
     split at h
     · exact stop_blk body _ _ _ h
     · exact stop_blk els _ _ _ h
    · cases h;exact .inl ⟨_,rfl⟩
  split at h
  ·
   split at h
   · rename_i hE;cases h;exact stop_ev a s _ _ hE
   ·
    split at h
    · rename_i hE;cases h;exact stop_ev b _ _ _ hE
    ·
     split at h
     ·
      split at h
      · cases h;exact .inl ⟨_,rfl⟩
      · exact stop_loop (fun s t z h=>stop_blk body s t z h) _ _ _ _ _ h
     · cases h;exact .inl ⟨_,rfl⟩
  split at h
  ·
   split at h
   · rename_i hE;cases h;exact stop_ev a s _ _ hE
   ·
    split at h
    · exact stop_emit h
    · cases h;exact .inl ⟨_,rfl⟩
  split at h
  · cases h;exact .inl ⟨_,rfl⟩
  · cases h
theorem stop_blk:∀ (l:List St) (s t:MS) (z:Stop),qcu C l s=(.error z,t)→Stops C z
 | [],s,t,z,h=>by rw [qcu] at h;cases h
 | x::l,s,t,z,h=>by
  rw [qcu] at h;split at h
  · rename_i hT;cases h;exact stop_tick hT
  ·
   split at h
   · rename_i hS;cases h;exact stop_st x _ _ _ hS
   · exact stop_blk l _ _ _ h
end
end
end Go.Cw

namespace Go.Cw
open Go Go.Abs
mutual
def gE:Ex→Nat
 | .mk op _ _ args=>(if op=22∨op=23∨op=24 then 1 else 0)+gL args
def gL:List Ex→Nat
 | []=>0
 | e::l=>gE e+gL l
end
structure N4 where
 st:Nat
 ge:Nat
 pu:Nat
 em:Nat
def N4.add (a b:N4):N4:=⟨a.st+b.st,a.ge+b.ge,a.pu+b.pu,a.em+b.em⟩
def N4.mx (a b:N4):N4:=⟨max a.st b.st,max a.ge b.ge,max a.pu b.pu,max a.em b.em⟩
def N4.mul (n:Nat) (a:N4):N4:=⟨n * a.st,n * a.ge,n * a.pu,n * a.em⟩
def N4.one:N4:=⟨1,0,0,0⟩
def N4.zero:N4:=⟨0,0,0,0⟩
def n0 (op mx:Int) (a b:Ex):N4 :=
 ⟨if op=6 then mx.toNat else 0,(if op=8 then 0 else gE a)+(if op=3∨op=6 then gE b else 0),if op=3∨op=4 then 1 else 0,if op=7 then 1 else 0⟩
mutual
def nS:St→N4
 | .mk op _ mx a b body els=>(n0 op mx a b).add (if op=5 then (nL body).mx (nL els) else if op=6 then (nL body).mul mx.toNat else .zero)
def nL:List St→N4
 | []=>.zero
 | t::l=>(N4.one.add (nS t)).add (nL l)
end
theorem nS_eq (t:St):nS t=(n0 t.op t.max t.a t.b).add (if t.op=5 then (nL t.body).mx (nL t.els) else if t.op=6 then (nL t.body).mul t.max.toNat else .zero):=by cases t;rw [nS];rfl
def sat (x:N4):Cnt:=⟨mn x.st 16385,mn x.ge 16385,mn x.pu 16385,mn x.em 16385⟩
theorem W64_id {n:Int} (h0:-9223372036854775808≤n) (h1:n<9223372036854775808):W64 n=n:=wrapI h0 h1
theorem rdsL_sat:∀ (l:List Ex) (n:Int),(∀ e∈l,rdsE e=mn (gE e) 16385)→0≤n→n+16385 * l.length<4611686018427387904→mn (rdsL l n) 16385=mn (n+gL l) 16385
 | [],n,_,_,_=>by rw [rdsL,gL];simp
 | e::l,n,h,h0,h1=>by
  have he:=h e (by simp);have hb:0≤rdsE e∧rdsE e≤16385:=by rw [he];unfold mn;split<;>omega
  have hw:W64 (n+rdsE e)=n+rdsE e:=W64_id (by omega) (by simp at h1;omega);rw [rdsL,hw,rdsL_sat l (n+rdsE e) (fun x hx=>h x (by simp [hx])) (by omega) (by simp at h1;omega),gL,he];unfold mn
  repeat' split
  all_goals omega
theorem arity_le (op:Int):qcp op≤2:=by unfold qcp;repeat' split<;>omega
theorem chkE_len {e:Ex} {d:Nat} (h:chkE e d=0):e.args.length≤2:=by
 have h1:=chkE_arity h;have h2:=arity_le e.op;omega
mutual
theorem rds_sat:∀ (e:Ex) (d:Nat),chkE e d=0→rdsE e=mn (gE e) 16385
 | .mk op n s args,d,h=>by
  have hl:=chkE_len h;simp only [Ex.args] at hl;have ha:=rdsL_mem args (d+1) (by
   rw [chkE] at h;split at h
   · exact h
   · contradiction)
  rw [rdsE,gE,rdsL_sat args _ ha (by split<;>omega) (by split<;>omega)];congr 1;split<;>simp
theorem rdsL_mem:∀ (l:List Ex) (d:Nat),chkL l d=0→∀ e∈l,rdsE e=mn (gE e) 16385
 | [],d,_=>by simp
 | e::l,d,h=>by
  rw [chkL] at h;split at h
  ·
   rename_i h0;have h1:=rds_sat e d h0;have h2:=rdsL_mem l d h;intro x hx;rcases List.mem_cons.1 hx with rfl | hx
   · exact h1
   · exact h2 x hx
  · contradiction
end
theorem mn_b (n:Nat):0≤mn n 16385∧mn n 16385≤16385:=by unfold mn;split<;>omega
theorem mn_add (a b:Nat):mn (W64 (mn a 16385+mn b 16385)) 16385=mn (a+b:Nat) 16385:=by
 have h1:=mn_b a;have h2:=mn_b b;rw [W64_id (by omega) (by omega)];unfold mn
 repeat' split
 all_goals omega
theorem mn_max (a b:Nat):mx (mn a 16385) (mn b 16385)=mn (max a b:Nat) 16385:=by
 have:max a b=if a≤b then b else a:=Nat.max_def;rw [this];unfold mn mx
 repeat' split
 all_goals omega
theorem mn_mul {n:Int} (h1:1≤n) (h2:n≤16) (a:Nat):mn (W64 (mn a 16385 * n)) 16385=mn (n.toNat * a:Nat) 16385:=by
 have hb:=mn_b a;obtain ⟨k,rfl⟩:∃ k:Nat,n=k:=⟨n.toNat,by omega⟩
 have hk:(mn a 16385 * (k:Int))≤16385 * 16:=by
  have:mn a 16385 * (k:Int)≤16385 * (k:Int):=Int.mul_le_mul_of_nonneg_right hb.2 (by omega);omega
 have h0:0≤mn a 16385 * (k:Int):=Int.mul_nonneg hb.1 (by omega);rw [W64_id (by omega) (by omega)];simp only [Int.toNat_natCast];by_cases ha:a≤16385
 ·
  have:mn a 16385=a:=by unfold mn;split<;>omega
  rw [this,Nat.mul_comm]
  push_cast
  rfl
 ·
  have e1:mn a 16385=16385:=by unfold mn;split<;>omega
  have h3:a≤k * a:=Nat.le_mul_of_pos_left a (by omega);rw [e1];unfold mn
  repeat' split
  all_goals omega
theorem sat_add (a b:N4):(sat a).plus (sat b)=sat (a.add b):=by
 simp only [sat,Cnt.plus,N4.add,mn_add]
theorem sat_max (a b:N4):(sat a).larger (sat b)=sat (a.mx b):=by
 simp only [sat,Cnt.larger,N4.mx,mn_max]
theorem sat_mul {n:Int} (h1:1≤n) (h2:n≤16) (a:N4):(sat a).times n=sat (a.mul n.toNat):=by
 simp only [sat,Cnt.times,N4.mul,mn_mul h1 h2]
theorem okS_max {t:St} {d:Nat} (h:okS t d) (h6:t.op=6):1≤t.max∧t.max≤16:=by
 have h1:=((qdk t d).1 h).1;unfold qci shapeOk at h1;grind
theorem mn_small {n:Nat} (h:n≤16385):mn n 16385=n:=by unfold mn;split<;>omega
theorem cnt0_sat {t:St} {d:Nat} (h:okS t d):cnt0 t=sat (N4.one.add (n0 t.op t.max t.a t.b)):=by
 have hA:t.op≠8→rdsE t.a=mn (gE t.a) 16385:=fun k=>rds_sat _ _ (okS_a h k);have hB:t.op=3∨t.op=6→rdsE t.b=mn (gE t.b) 16385:=fun k=>rds_sat _ _ (okS_b h k);unfold cnt0 sat N4.add N4.one n0;simp only;have m0:mn 0 16385=0:=by decide
 have m1:mn 1 16385=1:=by decide
 by_cases h3:t.op=3
 ·
  have h8:¬ t.op=8:=by omega
  have h6:¬ t.op=6:=by omega
  have h4:¬ t.op=4:=by omega
  have h7:¬ t.op=7:=by omega
  rw [if_pos h3,if_neg h8,hA h8,hB (.inl h3),mn_add];simp [h3,m0,m1]
 by_cases h4:t.op=4
 ·
  have h8:¬ t.op=8:=by omega
  rw [if_neg h3,if_pos h4,if_neg h8,hA h8];simp [h4,m0,m1]
 by_cases h7:t.op=7
 ·
  have h8:¬ t.op=8:=by omega
  rw [if_neg h3,if_neg h4,if_pos h7,if_neg h8,hA h8];simp [h7,m0,m1]
 by_cases h6:t.op=6
 ·
  have h8:¬ t.op=8:=by omega
  have hm:=okS_max h h6;rw [if_neg h3,if_neg h4,if_neg h7,if_pos h6,if_neg h8,hA h8,hB (.inr h6),mn_add,W64_id (by omega) (by omega),mn_small (n:=1+_) (by simp [h6];omega)];simp [h6,m0,m1];omega
 rw [if_neg h3,if_neg h4,if_neg h7,if_neg h6];by_cases h8:t.op=8
 · simp [h8,m0,m1]
 ·
  rw [if_neg h8,hA h8];simp [h3,h4,h6,h7,h8,m0,m1]
theorem cntL_sat {l:List St}:∀ (x:N4),(∀ t∈l,cntS t=sat (N4.one.add (nS t)))→cntL l (sat x)=sat (x.add (nL l)):=by
 induction l with
 | nil=>intro x _;rw [cntL,nL];rfl
 | cons t l ih =>
  intro x h;rw [cntL,h t (by simp),sat_add,ih _ (fun y hy=>h y (by simp [hy])),nL];simp only [N4.add,Nat.add_assoc]
theorem sat_zero:sat .zero=⟨0,0,0,0⟩:=rfl
theorem zero_add (x:N4):N4.zero.add x=x:=by cases x;simp [N4.zero,N4.add]
theorem add_zero (x:N4):x.add N4.zero=x:=by cases x;simp [N4.zero,N4.add]
theorem add_assoc (x y z:N4):(x.add y).add z=x.add (y.add z):=by simp [N4.add,Nat.add_assoc]
theorem cntS_sat:∀ (t:St) (d:Nat),okS t d→cntS t=sat (N4.one.add (nS t))
 | .mk op name mx a b body els,d,h=>by
  have h1:=(qdk _ _).1 h;have hb:cntB body=sat (nL body):=by
   have:=cntL_sat (l:=body) .zero fun x hx=>by
    have:=List.sizeOf_lt_of_mem (show x∈body from hx);exact cntS_sat x (d+1) (h1.2.1 x hx)
   rw [sat_zero,zero_add] at this;exact this
  have he:cntB els=sat (nL els):=by
   have:=cntL_sat (l:=els) .zero fun x hx=>by
    have:=List.sizeOf_lt_of_mem (show x∈els from hx);exact cntS_sat x (d+1) (h1.2.2 x hx)
   rw [sat_zero,zero_add] at this;exact this
  rw [cntS_eq,nS_eq,cnt0_sat h];simp only [St.body,St.els] at hb he ⊢;by_cases h5:(St.mk op name mx a b body els).op=5
  · rw [if_pos h5,if_pos h5,hb,he,sat_max,sat_add,add_assoc]
  by_cases h6:(St.mk op name mx a b body els).op=6
  ·
   have hm:=okS_max h h6;rw [if_neg h5,if_pos h6,if_neg h5,if_pos h6,hb,sat_mul hm.1 hm.2,sat_add,add_assoc]
  · rw [if_neg h5,if_neg h6,if_neg h5,if_neg h6,add_zero]
termination_by t=>SizeOf.sizeOf t
decreasing_by
 all_goals
  simp only [St.mk.sizeOf_spec];omega
theorem cntB_sat {l:List St} {d:Nat} (h:okL l d):cntB l=sat (nL l):=by
 have:=cntL_sat (l:=l) .zero fun x hx=>cntS_sat x d (h x hx);rw [sat_zero,zero_add] at this;exact this
structure Dl (s t:MS) (n:N4):Prop where
 st:t.steps≤s.steps+n.st
 ge:t.reads.length≤s.reads.length+n.ge
 pu:t.puts.length≤s.puts.length+n.pu
 em:t.out.length≤s.out.length+n.em
theorem Dl.refl (s:MS) (n:N4):Dl s s n:=⟨by omega,by omega,by omega,by omega⟩
theorem Dl.trans {s t u:MS} {m n:N4} (h:Dl s t m) (g:Dl t u n):Dl s u (m.add n):=by
 obtain ⟨h1,h2,h3,h4⟩:=h;obtain ⟨g1,g2,g3,g4⟩:=g;exact ⟨by simp only [N4.add];omega,by simp only [N4.add];omega,by simp only [N4.add];omega,by simp only [N4.add];omega⟩
theorem Dl.mono {s t:MS} {m n:N4} (h:Dl s t m) (h1:m.st≤n.st) (h2:m.ge≤n.ge) (h3:m.pu≤n.pu) (h4:m.em≤n.em):Dl s t n:=by
 obtain ⟨g1,g2,g3,g4⟩:=h;exact ⟨by omega,by omega,by omega,by omega⟩
section
variable {C:Cfg}
theorem dl_fetch (k:qab) (s:MS):Dl s (qbr C k s).2 ⟨0,1,0,0⟩:=by
 unfold qbr;split
 · exact Dl.refl _ _
 split
 · exact Dl.refl _ _
 split
 · exact Dl.refl _ _
 · exact ⟨by simp,withS_len _ _,by simp,by simp⟩
theorem dl_store (k:qab) (v:V) (s:MS):Dl s (qbi C k v s).2 ⟨0,0,1,0⟩:=by
 unfold qbi;split
 · exact Dl.refl _ _
 split
 · exact Dl.refl _ _
 · exact ⟨by simp,by simp,withS_len _ _,by simp⟩
theorem dl_emit (v:V) (s:MS):Dl s (emitS v s).2 ⟨0,0,0,1⟩:=by
 unfold emitS;split
 · exact Dl.refl _ _
 · exact ⟨by simp,by simp,by simp,by simp⟩
theorem dl_tick (s:MS):Dl s (qc2 s).2 .one:=⟨by simp [qc2,N4.one],by simp [qc2],by simp [qc2],by simp [qc2]⟩
theorem dl_vars (s:MS) (v:List (qab×V)) (n:N4):Dl s { s with vars:=v } n:=⟨by simp,by simp,by simp,by simp⟩
theorem evL_len:∀ {l:List Ex} {s t:MS} {r:List V},evL C l s=(.ok r,t)→r.length=l.length
 | [],s,t,r,h=>by rw [evL] at h;cases h;rfl
 | e::l,s,t,r,h=>by
  rw [evL] at h;split at h
  · cases h
  ·
   split at h
   · cases h
   ·
    rename_i h2;cases h;simp [evL_len h2]
theorem dl_op {op:Int} {l:List V} (s:MS) (h:(l.length:Int)=qcp op):Dl s (opS C op l s).2 ⟨0,if op=22∨op=23∨op=24 then 1 else 0,0,0⟩:=by
 unfold opS;split
 ·
  rename_i a;have hop:op=9∨op=18∨op=20∨op=21∨op=22∨op=23∨op=24:=by
   unfold qcp at h;simp at h;split at h
   · omega
   split at h
   · omega
   split at h
   ·
    rename_i h1 _ h2;omega
   · omega
  unfold unS;split
  · exact Dl.refl _ _
  split
  · exact Dl.refl _ _
  split
  · exact Dl.refl _ _
  split
  · exact Dl.refl _ _
  split
  · exact Dl.refl _ _
  ·
   have:=dl_fetch (C:=C) a.s s;rw [if_pos (by omega)];split
   · rename_i hf;rw [hf] at this;exact this
   · rename_i hf;rw [hf] at this;exact this
 · exact Dl.refl _ _
 · exact Dl.refl _ _
mutual
theorem dl_ev:∀ (e:Ex) (d:Nat) (s:MS),chkE e d=0→Dl s (evE C e s).2 ⟨0,gE e,0,0⟩
 | .mk op n t args,d,s,h=>by
  have har:=chkE_arity h;simp only [Ex.args,Ex.op] at har;have hL:=dl_evL args (d+1) s (by
   rw [chkE] at h;split at h
   · exact h
   · contradiction)
  rw [evE,gE];split
  · exact Dl.refl _ _
  split
  · exact Dl.refl _ _
  split
  · exact Dl.refl _ _
  split
  · rename_i h1;rw [h1] at hL;exact hL.mono (by simp) (by simp) (by simp) (by simp)
  ·
   rename_i h1;rw [h1] at hL;have hl:=evL_len h1;exact (hL.trans (dl_op _ (by rw [hl];exact har))).mono (by simp [N4.add]) (by simp [N4.add];omega) (by simp [N4.add]) (by simp [N4.add])
theorem dl_evL:∀ (l:List Ex) (d:Nat) (s:MS),chkL l d=0→Dl s (evL C l s).2 ⟨0,gL l,0,0⟩
 | [],d,s,_=>by rw [evL];exact Dl.refl _ _
 | e::l,d,s,h=>by
  rw [chkL] at h;split at h
  ·
   rename_i h0;have hE:=dl_ev e d s h0;rw [evL,gL];split
   · rename_i h1;rw [h1] at hE;exact hE.mono (by simp) (by simp) (by simp) (by simp)
   ·
    rename_i m' h1;rw [h1] at hE;have hL:=dl_evL l d m' h;split
    · rename_i h2;rw [h2] at hL;exact hE.trans hL
    · rename_i h2;rw [h2] at hL;exact hE.trans hL
  · contradiction
end
theorem dl_loop {body:MS→Except Stop Unit×MS} {name:qab} {b:Int} {x:N4} (hb64:i64 b) (hb:∀ s,Inv 8192 1 s→Dl s (body s).2 x) (hI:∀ s u t,Inv 8192 1 s→body s=(.ok u,t)→Inv 0 0 t) :
  ∀ (n f:Nat) (i:Int) (s:MS),i64 i→b - i≤n→Inv 0 0 s→Dl s (qcd body name b f i s).2 ((N4.one.add x).mul n)
 | _,0,i,s,_,_,_=>by rw [qcd];exact Dl.refl _ _
 | 0,f+1,i,s,hi,hn,h=>by rw [qcd,if_neg (by omega)];exact Dl.refl _ _
 | n+1,f+1,i,s,hi,hn,h=>by
  have hT:=dl_tick s;have e:∀ y:N4,y.mul (n+1)=y.add (y.mul n):=fun y=>by simp [N4.mul,N4.add,Nat.succ_mul,Nat.add_comm]
  rw [qcd,e];split
  ·
   rename_i hib;split
   ·
    rename_i h1;rw [h1] at hT;exact hT.mono (by simp only [N4.add,N4.one];omega) (by simp only [N4.add,N4.one];omega) (by simp only [N4.add,N4.one];omega) (by simp only [N4.add,N4.one];omega)
   ·
    rename_i m' h1;rw [h1] at hT;have hI1:=(h.tick h1).vars (rng_vI hi) name;have hV:=dl_vars m' (qbk m'.vars name (vI i)) .zero;have hB:=hb _ hI1;split
    ·
     rename_i h2;rw [h2] at hB;exact (hT.trans (hV.trans hB)).mono (by simp only [N4.add,N4.one,N4.zero];omega) (by simp only [N4.add,N4.one,N4.zero];omega) (by simp only [N4.add,N4.one,N4.zero];omega) (by simp only [N4.add,N4.one,N4.zero];omega)
    ·
     rename_i m'' h2;have hI2:=hI _ _ _ hI1 h2;rw [h2] at hB;have hw:W64 (i+1)=i+1:=W64_id (by have:=hi.1;omega) (by have:=hb64.2;omega);have hR:=dl_loop (name:=name) hb64 hb hI n f (i+1) m'' ⟨by have:=hi.1;omega,by have:=hb64.2;omega⟩ (by omega) hI2;rw [hw];exact ((hT.trans (hV.trans hB)).trans hR).mono (by simp only [N4.add,N4.one,N4.zero];omega) (by simp only [N4.add,N4.one,N4.zero];omega) (by simp only [N4.add,N4.one,N4.zero];omega) (by simp only [N4.add,N4.one,N4.zero];omega)
  · exact Dl.refl _ _
theorem few {a b mx:Int} (ha:i64 a) (hb:i64 b) (h1:1≤mx) (h2:mx≤16) (h:¬ tooMany a b mx):b - a≤mx.toNat:=by
 unfold tooMany at h;obtain ⟨a1,a2⟩:=ha;obtain ⟨b1,b2⟩:=hb;simp only [IntKind.wrap,IntKind.bits,IntKind.signed] at h;simp at h;omega
end
section
variable {C:Cfg}
mutual
theorem dl_st (hC:rngC C):∀ (t:St) (d:Nat) (s:MS),okS t d→goS t→Inv 8192 1 s→Dl s (stI C t s).2 (nS t)
 | .mk op name mx a b body els,d,s,hO,hG,h=>by
  have hG':=(goS_iff _).1 hG;have hO':=(qdk _ _).1 hO;have oA:=fun k=>okS_a hO k;have oB:=fun k=>okS_b hO k;have oM:=fun k=>okS_max hO k;simp only [St.op,St.a,St.b,St.body,St.els,St.max] at hG' hO' oA oB oM;obtain ⟨hA,hB,hbody,hels⟩:=hG';obtain ⟨_,obody,oels⟩:=hO';rw [stI,nS];by_cases h1:op=1∨op=2
  ·
   simp only [h1,if_true];have h8:¬ op=8:=by omega
   have hE:=dl_ev (C:=C) a 1 s (oA h8);have hx:gE a≤(n0 op mx a b).ge:=by unfold n0;simp only [h8,if_false];omega
   split
   ·
    rename_i hm;rw [hm] at hE;exact hE.mono (by simp) (by simp only [N4.add];omega) (by simp) (by simp)
   ·
    rename_i hm;rw [hm] at hE;exact (hE.trans (dl_vars _ _ .zero)).mono (by simp [N4.add,N4.zero]) (by simp only [N4.add,N4.zero];omega) (by simp [N4.add,N4.zero]) (by simp [N4.add,N4.zero])
  simp only [h1,if_false];by_cases h3:op=3
  ·
   simp only [h3,if_true];have hE:=dl_ev (C:=C) a 1 s (oA (by omega));have hx:(n0 3 mx a b).ge=gE a+gE b:=by simp [n0]
   have hy:(n0 3 mx a b).pu=1:=by simp [n0]
   split
   ·
    rename_i hm;rw [hm] at hE;exact hE.mono (by simp) (by simp only [N4.add];omega) (by simp) (by simp)
   ·
    rename_i k m' hm;rw [hm] at hE;have hE2:=dl_ev (C:=C) b 1 m' (oB (by omega));split
    ·
     rename_i hm2;rw [hm2] at hE2;exact (hE.trans hE2).mono (by simp [N4.add]) (by simp only [N4.add];omega) (by simp [N4.add]) (by simp [N4.add])
    ·
     rename_i v m'' hm2;rw [hm2] at hE2;split
     · exact ((hE.trans hE2).trans (dl_store k.s v m'')).mono (by simp [N4.add]) (by simp only [N4.add];omega) (by simp only [N4.add];omega) (by simp [N4.add])
     · exact (hE.trans hE2).mono (by simp [N4.add]) (by simp only [N4.add];omega) (by simp [N4.add]) (by simp [N4.add])
  simp only [h3,if_false];by_cases h4:op=4
  ·
   simp only [h4,if_true];have hE:=dl_ev (C:=C) a 1 s (oA (by omega));have hx:(n0 4 mx a b).ge=gE a:=by simp [n0]
   have hy:(n0 4 mx a b).pu=1:=by simp [n0]
   split
   ·
    rename_i hm;rw [hm] at hE;exact hE.mono (by simp) (by simp only [N4.add];omega) (by simp) (by simp)
   ·
    rename_i k m' hm;rw [hm] at hE;split
    · exact (hE.trans (dl_store k.s V.nil m')).mono (by simp [N4.add]) (by simp only [N4.add];omega) (by simp only [N4.add];omega) (by simp [N4.add])
    · exact hE.mono (by simp) (by simp only [N4.add];omega) (by simp) (by simp)
  simp only [h4,if_false];by_cases h5:op=5
  ·
   simp only [h5,if_true];have h0:=h.eval hC (r:=4097) (hA (by omega));have hE:=dl_ev (C:=C) a 1 s (oA (by omega));have hx:(n0 5 mx a b).ge=gE a:=by simp [n0]
   split
   ·
    rename_i hm;rw [hm] at hE;exact hE.mono (by simp) (by simp only [N4.add];omega) (by simp) (by simp)
   ·
    rename_i c m' hm;rw [hm] at hE h0;split
    ·
     split
     ·
      have hB:=dl_blk hC body (d+1) m' obody hbody (h0.1.mono (by omega) (by omega));have m1:=Nat.le_max_left (nL body).st (nL els).st;have m2:=Nat.le_max_left (nL body).ge (nL els).ge;have m3:=Nat.le_max_left (nL body).pu (nL els).pu;have m4:=Nat.le_max_left (nL body).em (nL els).em;exact (hE.trans hB).mono (by simp only [N4.add,N4.mx];omega) (by simp only [N4.add,N4.mx];omega) (by simp only [N4.add,N4.mx];omega) (by simp only [N4.add,N4.mx];omega)
     ·
      have hB:=dl_blk hC els (d+1) m' oels hels (h0.1.mono (by omega) (by omega));have m1:=Nat.le_max_right (nL body).st (nL els).st;have m2:=Nat.le_max_right (nL body).ge (nL els).ge;have m3:=Nat.le_max_right (nL body).pu (nL els).pu;have m4:=Nat.le_max_right (nL body).em (nL els).em;exact (hE.trans hB).mono (by simp only [N4.add,N4.mx];omega) (by simp only [N4.add,N4.mx];omega) (by simp only [N4.add,N4.mx];omega) (by simp only [N4.add,N4.mx];omega)
    · exact hE.mono (by simp) (by simp only [N4.add];omega) (by simp) (by simp)
  simp only [h5,if_false];by_cases h6:op=6
  ·
   simp only [h6,if_true];have h0:=h.eval hC (r:=4097) (hA (by omega));have hE:=dl_ev (C:=C) a 1 s (oA (by omega));have hx:(n0 6 mx a b).ge=gE a+gE b:=by simp [n0]
   have hy:(n0 6 mx a b).st=mx.toNat:=by simp [n0]
   have hM:=oM h6;split
   ·
    rename_i hm;rw [hm] at hE;exact hE.mono (by simp) (by simp only [N4.add];omega) (by simp) (by simp)
   ·
    rename_i u m' hm;rw [hm] at hE h0;have hE2:=dl_ev (C:=C) b 1 m' (oB (by omega));have h2:=h0.1.eval hC (r:=2) (hB (by omega));split
    ·
     rename_i hm2;rw [hm2] at hE2;exact (hE.trans hE2).mono (by simp [N4.add]) (by simp only [N4.add];omega) (by simp [N4.add]) (by simp [N4.add])
    ·
     rename_i v m'' hm2;rw [hm2] at hE2 h2;split
     ·
      split
      · exact (hE.trans hE2).mono (by simp [N4.add]) (by simp only [N4.add];omega) (by simp [N4.add]) (by simp [N4.add])
      ·
       rename_i ht;have hu:=(h0.2 _ rfl).1;have hv:=(h2.2 _ rfl).1;have hn:=few hu hv hM.1 hM.2 ht;have hl:=dl_loop (name:=name) (body:=fun x=>qcu C body x) hv (fun s hs=>dl_blk hC body (d+1) s obody hbody (hs.mono (by omega) (by omega))) (fun s u t hs hg=>blkI_ok hC body s u t hbody (hs.mono (by omega) (by omega)) hg) mx.toNat 16386 u.n m'' hu hn (h2.1.mono (by omega) (by omega));have e1:(N4.one.add (nL body)).mul mx.toNat=⟨mx.toNat+mx.toNat * (nL body).st,mx.toNat * (nL body).ge,mx.toNat * (nL body).pu,mx.toNat * (nL body).em⟩:=by
        simp [N4.mul,N4.add,N4.one,Nat.mul_add]
       rw [e1] at hl;exact ((hE.trans hE2).trans hl).mono (by simp only [N4.add,N4.mul];omega) (by simp only [N4.add,N4.mul];omega) (by simp only [N4.add,N4.mul];omega) (by simp only [N4.add,N4.mul];omega)
     · exact (hE.trans hE2).mono (by simp [N4.add]) (by simp only [N4.add];omega) (by simp [N4.add]) (by simp [N4.add])
  simp only [h6,if_false];by_cases h7:op=7
  ·
   simp only [h7,if_true];have hE:=dl_ev (C:=C) a 1 s (oA (by omega));have hx:(n0 7 mx a b).ge=gE a:=by simp [n0]
   have hy:(n0 7 mx a b).em=1:=by simp [n0]
   split
   ·
    rename_i hm;rw [hm] at hE;exact hE.mono (by simp) (by simp only [N4.add];omega) (by simp) (by simp)
   ·
    rename_i v m' hm;rw [hm] at hE;split
    · exact (hE.trans (dl_emit v m')).mono (by simp [N4.add]) (by simp only [N4.add];omega) (by simp [N4.add]) (by simp only [N4.add];omega)
    · exact hE.mono (by simp) (by simp only [N4.add];omega) (by simp) (by simp)
  simp only [h7,if_false];split
  · exact Dl.refl _ _
  · exact Dl.refl _ _
theorem dl_blk (hC:rngC C):∀ (l:List St) (d:Nat) (s:MS),okL l d→(∀ x∈l,goS x)→Inv 0 0 s→Dl s (qcu C l s).2 (nL l)
 | [],d,s,_,_,_=>by rw [qcu];exact Dl.refl _ _
 | t::l,d,s,hO,hG,h=>by
  have hT:=dl_tick s;rw [qcu,nL];split
  ·
   rename_i hm;rw [hm] at hT;exact hT.mono (by simp only [N4.add];omega) (by simp only [N4.add];omega) (by simp only [N4.add];omega) (by simp only [N4.add];omega)
  ·
   rename_i m' hm;rw [hm] at hT;have hI:=h.tick hm;have hS:=dl_st hC t d m' (hO t (by simp)) (hG t (by simp)) hI;split
   ·
    rename_i hm2;rw [hm2] at hS;exact (hT.trans hS).mono (by simp only [N4.add];omega) (by simp only [N4.add];omega) (by simp only [N4.add];omega) (by simp only [N4.add];omega)
   ·
    rename_i m'' hm2;have hI2:=stI_ok hC t _ _ _ (hG t (by simp)) hI hm2;rw [hm2] at hS;exact (hT.trans hS).trans (dl_blk hC l d m'' (fun x hx=>hO x (by simp [hx])) (fun x hx=>hG x (by simp [hx])) hI2)
end
end
end Go.Cw
