/- Part 24 of a proof: CwQ, CwR, CwS, CwT -/
import Derived.Test.YtilhejdbiionhaaGreatDoorR23
set_option linter.all false

namespace Go.Cw
open Go Go.Abs
mutual
def gE:Ex→Nat
 | .mk op _ _ args=>(if op=22∨op=23∨op=24 then 1 else 0)+gL args
def gL:List Ex→Nat
 | []=>0
 |e::l=>gE e+gL l
end
theorem gE_eq(e:Ex):gE e=(if e.op=22∨e.op=23∨e.op=24 then 1 else 0)+gL e.args:=by cases e;rw[gE];rfl
structure N4 where
 st:Nat
 ge:Nat
 pu:Nat
 em:Nat
def N4.add(a b:N4):N4:=⟨a.st+b.st,a.ge+b.ge,a.pu+b.pu,a.em+b.em⟩
def N4.mx(a b:N4):N4:=⟨max a.st b.st,max a.ge b.ge,max a.pu b.pu,max a.em b.em⟩
def N4.mul(n:Nat)(a:N4):N4:=⟨n * a.st,n * a.ge,n * a.pu,n * a.em⟩
def N4.one:N4:=⟨1,0,0,0⟩
def N4.zero:N4:=⟨0,0,0,0⟩
def n0(op mx:Int)(a b:Ex):N4 :=
 ⟨if op=6 then mx.toNat else 0,(if op=8 then 0 else gE a)+(if op=3∨op=6 then gE b else 0),if op=3∨op=4 then 1 else 0,if op=7 then 1 else 0⟩
mutual
def nS:St→N4
 | .mk op _ mx a b body els=>(n0 op mx a b).add (if op=5 then(nL body).mx (nL els)else if op=6 then(nL body).mul mx.toNat else .zero)
def nL:List St→N4
 | []=>.zero
 |t::l=>(N4.one.add (nS t)).add (nL l)
end
theorem nS_eq(t:St):nS t=(n0 t.op t.max t.a t.b).add (if t.op=5 then(nL t.body).mx (nL t.els)else if t.op=6 then(nL t.body).mul t.max.toNat else .zero):=by cases t;rw[nS];rfl
def sat(x:N4):Cnt:=⟨mn x.st 16385,mn x.ge 16385,mn x.pu 16385,mn x.em 16385⟩
theorem W64_id{n:Int}(h0:-9223372036854775808≤n)(h1:n<9223372036854775808):W64 n=n:=wrapI h0 h1
theorem rdsL_sat:∀(l:List Ex) (n:Int),(∀e∈l,rdsE e=mn (gE e) 16385)→0≤n→n+16385 * l.length<4611686018427387904→mn (rdsL l n) 16385=mn (n+gL l) 16385
 | [],n,_,_,_=>by rw[rdsL,gL];simp
 |e::l,n,h,h0,h1=>by
  have he:=h e (by simp);have hb:0≤rdsE e∧rdsE e≤16385:=by rw[he];unfold mn;split<;>omega
  have hw:W64 (n+rdsE e)=n+rdsE e:=W64_id (by omega) (by simp at h1;omega);rw[rdsL,hw,rdsL_sat l (n+rdsE e) (fun x hx=>h x (by simp[hx])) (by omega) (by simp at h1;omega),gL,he];unfold mn
  repeat' split
  all_goals omega
theorem arity_le(op:Int):qb0 op≤2:=by unfold qb0;repeat' split<;>omega
theorem chkE_len{e:Ex}{d:Nat}(h:chkE e d=0):e.args.length≤2:=by
 have h1:=qd5 h;have h2:=arity_le e.op;omega
mutual
theorem rds_sat:∀(e:Ex) (d:Nat),chkE e d=0→rdsE e=mn (gE e) 16385
 | .mk op n s args,d,h=>by
  have hl:=chkE_len h;simp only[Ex.args]at hl;have ha:=rdsL_mem args (d+1) (by
   rw[chkE]at h;split at h
   ·exact h
   ·contradiction)
  rw[rdsE,gE,rdsL_sat args _ ha (by split<;>omega) (by split<;>omega)];congr 1;split<;>simp
theorem rdsL_mem:∀(l:List Ex) (d:Nat),chkL l d=0→∀e∈l,rdsE e=mn (gE e) 16385
 | [],d,_=>by simp
 |e::l,d,h=>by
  rw[chkL]at h;split at h
  ·rename_i h0;have h1:=rds_sat e d h0;have h2:=rdsL_mem l d h;intro x hx;rcases List.mem_cons.1 hx with rfl|hx
   ·exact h1
   ·exact h2 x hx
  ·contradiction
end
theorem mn_b(n:Nat):0≤mn n 16385∧mn n 16385≤16385:=by unfold mn;split<;>omega
theorem mn_add(a b:Nat):mn (W64 (mn a 16385+mn b 16385)) 16385=mn (a+b:Nat) 16385:=by
 have h1:=mn_b a;have h2:=mn_b b;rw[W64_id (by omega) (by omega)];unfold mn
 repeat' split
 all_goals omega
theorem mn_max(a b:Nat):mx (mn a 16385) (mn b 16385)=mn (max a b:Nat) 16385:=by
 have:max a b=if a≤b then b else a:=Nat.max_def;rw[this];unfold mn mx
 repeat' split
 all_goals omega
theorem mn_mul{n:Int}(h1:1≤n)(h2:n≤16)(a:Nat):mn (W64 (mn a 16385 * n)) 16385=mn (n.toNat * a:Nat) 16385:=by
 have hb:=mn_b a;obtain⟨k,rfl⟩:∃k:Nat,n=k:=⟨n.toNat,by omega⟩
 have hk:(mn a 16385 * (k:Int))≤16385 * 16:=by
  have:mn a 16385 * (k:Int)≤16385 * (k:Int):=Int.mul_le_mul_of_nonneg_right hb.2 (by omega);omega
 have h0:0≤mn a 16385 * (k:Int):=Int.mul_nonneg hb.1 (by omega);rw[W64_id (by omega) (by omega)];simp only[Int.toNat_natCast];by_cases ha:a≤16385
 ·have:mn a 16385=a:=by unfold mn;split<;>omega
  rw[this,Nat.mul_comm]
  push_cast
  rfl
 ·have e1:mn a 16385=16385:=by unfold mn;split<;>omega
  have h3:a≤k * a:=Nat.le_mul_of_pos_left a (by omega);rw[e1];unfold mn
  repeat' split
  all_goals omega
theorem sat_add(a b:N4):(sat a).plus (sat b)=sat (a.add b):=by
 simp only[sat,Cnt.plus,N4.add,mn_add]
theorem sat_max(a b:N4):(sat a).larger (sat b)=sat (a.mx b):=by
 simp only[sat,Cnt.larger,N4.mx,mn_max]
theorem sat_mul{n:Int}(h1:1≤n)(h2:n≤16)(a:N4):(sat a).times n=sat (a.mul n.toNat):=by
 simp only[sat,Cnt.times,N4.mul,mn_mul h1 h2]
theorem okS_max{t:St}{d:Nat}(h:okS t d)(h6:t.op=6):1≤t.max∧t.max≤16:=by
 have h1:=((qco t d).1 h).1;unfold qbo qb9 at h1;grind
theorem mn_small{n:Nat}(h:n≤16385):mn n 16385=n:=by unfold mn;split<;>omega
theorem cnt0_sat{t:St}{d:Nat}(h:okS t d):cnt0 t=sat (N4.one.add (n0 t.op t.max t.a t.b)):=by
 have hA:t.op≠8→rdsE t.a=mn (gE t.a) 16385:=fun k=>rds_sat _ _ (okS_a h k);have hB:t.op=3∨t.op=6→rdsE t.b=mn (gE t.b) 16385:=fun k=>rds_sat _ _ (okS_b h k);unfold cnt0 sat N4.add N4.one n0;simp only;have m0:mn 0 16385=0:=by decide
 have m1:mn 1 16385=1:=by decide
 by_cases h3:t.op=3
 ·have h8:¬t.op=8:=by omega
  have h6:¬t.op=6:=by omega
  have h4:¬t.op=4:=by omega
  have h7:¬t.op=7:=by omega
  rw[if_pos h3,if_neg h8,hA h8,hB (.inl h3),mn_add];simp[h3,m0,m1]
 by_cases h4:t.op=4
 ·have h8:¬t.op=8:=by omega
  rw[if_neg h3,if_pos h4,if_neg h8,hA h8];simp[h4,m0,m1]
 by_cases h7:t.op=7
 ·have h8:¬t.op=8:=by omega
  rw[if_neg h3,if_neg h4,if_pos h7,if_neg h8,hA h8];simp[h7,m0,m1]
 by_cases h6:t.op=6
 ·have h8:¬t.op=8:=by omega
  have hm:=okS_max h h6;rw[if_neg h3,if_neg h4,if_neg h7,if_pos h6,if_neg h8,hA h8,hB (.inr h6),mn_add,W64_id (by omega) (by omega),mn_small (n:=1+_) (by simp[h6];omega)];simp[h6,m0,m1];omega
 rw[if_neg h3,if_neg h4,if_neg h7,if_neg h6];by_cases h8:t.op=8
 ·simp[h8,m0,m1]
 ·rw[if_neg h8,hA h8];simp[h3,h4,h6,h7,h8,m0,m1]
theorem cntL_sat{l:List St}:∀(x:N4),(∀t∈l,cntS t=sat (N4.one.add (nS t)))→cntL l (sat x)=sat (x.add (nL l)):=by
 induction l with
 |nil=>intro x _;rw[cntL,nL];rfl
 |cons t l ih =>
  intro x h;rw[cntL,h t (by simp),sat_add,ih _ (fun y hy=>h y (by simp[hy])),nL];simp only[N4.add,Nat.add_assoc]
theorem sat_zero:sat .zero=⟨0,0,0,0⟩:=rfl
theorem zero_add(x:N4):N4.zero.add x=x:=by cases x;simp[N4.zero,N4.add]
theorem add_zero(x:N4):x.add N4.zero=x:=by cases x;simp[N4.zero,N4.add]
theorem add_assoc(x y z:N4):(x.add y).add z=x.add (y.add z):=by simp[N4.add,Nat.add_assoc]
theorem cntS_sat:∀(t:St) (d:Nat),okS t d→cntS t=sat (N4.one.add (nS t))
 | .mk op name mx a b body els,d,h=>by
  have h1:=(qco _ _).1 h;have hb:cntB body=sat (nL body):=by
   have:=cntL_sat (l:=body) .zero fun x hx=>by
    have:=List.sizeOf_lt_of_mem (show x∈body from hx);exact cntS_sat x (d+1) (h1.2.1 x hx)
   rw[sat_zero,zero_add]at this;exact this
  have he:cntB els=sat (nL els):=by
   have:=cntL_sat (l:=els) .zero fun x hx=>by
    have:=List.sizeOf_lt_of_mem (show x∈els from hx);exact cntS_sat x (d+1) (h1.2.2 x hx)
   rw[sat_zero,zero_add]at this;exact this
  rw[cntS_eq,nS_eq,cnt0_sat h];simp only[St.body,St.els]at hb he⊢;by_cases h5:(St.mk op name mx a b body els).op=5
  ·rw[if_pos h5,if_pos h5,hb,he,sat_max,sat_add,add_assoc]
  by_cases h6:(St.mk op name mx a b body els).op=6
  ·have hm:=okS_max h h6;rw[if_neg h5,if_pos h6,if_neg h5,if_pos h6,hb,sat_mul hm.1 hm.2,sat_add,add_assoc]
  ·rw[if_neg h5,if_neg h6,if_neg h5,if_neg h6,add_zero]
termination_by t=>SizeOf.sizeOf t
decreasing_by
 all_goals
  simp only[St.mk.sizeOf_spec];omega
theorem cntB_sat{l:List St}{d:Nat}(h:okL l d):cntB l=sat (nL l):=by
 have:=cntL_sat (l:=l) .zero fun x hx=>cntS_sat x d (h x hx);rw[sat_zero,zero_add]at this;exact this
structure Dl(s t:MS)(n:N4):Prop where
 st:t.steps≤s.steps+n.st
 ge:t.reads.length≤s.reads.length+n.ge
 pu:t.puts.length≤s.puts.length+n.pu
 em:t.out.length≤s.out.length+n.em
theorem Dl.refl(s:MS)(n:N4):Dl s s n:=⟨by omega,by omega,by omega,by omega⟩
theorem Dl.trans{s t u:MS}{m n:N4}(h:Dl s t m)(g:Dl t u n):Dl s u (m.add n):=by
 obtain⟨h1,h2,h3,h4⟩:=h;obtain⟨g1,g2,g3,g4⟩:=g;exact⟨by simp only[N4.add];omega,by simp only[N4.add];omega,by simp only[N4.add];omega,by simp only[N4.add];omega⟩
theorem Dl.mono{s t:MS}{m n:N4}(h:Dl s t m)(h1:m.st≤n.st)(h2:m.ge≤n.ge)(h3:m.pu≤n.pu)(h4:m.em≤n.em):Dl s t n:=by
 obtain⟨g1,g2,g3,g4⟩:=h;exact⟨by omega,by omega,by omega,by omega⟩
section
variable {C:Cfg}
theorem dl_fetch(k:qac)(s:MS):Dl s (qc0 C k s).2 ⟨0,1,0,0⟩:=by
 unfold qc0;split
 ·exact Dl.refl _ _
 split
 ·exact Dl.refl _ _
 split
 ·exact Dl.refl _ _
 ·exact⟨by simp,withS_len _ _,by simp,by simp⟩
theorem dl_store(k:qac)(v:V)(s:MS):Dl s (qcq C k v s).2 ⟨0,0,1,0⟩:=by
 unfold qcq;split
 ·exact Dl.refl _ _
 split
 ·exact Dl.refl _ _
 ·exact⟨by simp,by simp,withS_len _ _,by simp⟩
theorem dl_emit(v:V)(s:MS):Dl s (emitS v s).2 ⟨0,0,0,1⟩:=by
 unfold emitS;split
 ·exact Dl.refl _ _
 ·exact⟨by simp,by simp,by simp,by simp⟩
theorem dl_tick(s:MS):Dl s (tickS s).2 .one:=⟨by simp[tickS,N4.one],by simp[tickS],by simp[tickS],by simp[tickS]⟩
theorem dl_vars(s:MS)(v:List (qac×V))(n:N4):Dl s { s with vars:=v } n:=⟨by simp,by simp,by simp,by simp⟩
theorem evL_len:∀{l:List Ex} {s t:MS} {r:List V},evL C l s=(.ok r,t)→r.length=l.length
 | [],s,t,r,h=>by rw[evL]at h;cases h;rfl
 |e::l,s,t,r,h=>by
  rw[evL]at h;split at h
  ·cases h
  ·split at h
   ·cases h
   ·rename_i h2;cases h;simp[evL_len h2]
theorem dl_op{op:Int}{l:List V}(s:MS)(h:(l.length:Int)=qb0 op):Dl s (opS C op l s).2 ⟨0,if op=22∨op=23∨op=24 then 1 else 0,0,0⟩:=by
 unfold opS;split
 ·rename_i a;have hop:op=9∨op=18∨op=20∨op=21∨op=22∨op=23∨op=24:=by
   unfold qb0 at h;simp at h;split at h
   ·omega
   split at h
   ·omega
   split at h
   ·rename_i h1 _ h2;omega
   ·omega
  unfold unS;split
  ·exact Dl.refl _ _
  split
  ·exact Dl.refl _ _
  split
  ·exact Dl.refl _ _
  split
  ·exact Dl.refl _ _
  split
  ·exact Dl.refl _ _
  ·have:=dl_fetch (C:=C) a.s s;rw[if_pos (by omega)];split
   ·rename_i hf;rw[hf]at this;exact this
   ·rename_i hf;rw[hf]at this;exact this
 ·exact Dl.refl _ _
 ·exact Dl.refl _ _
mutual
theorem dl_ev:∀(e:Ex) (d:Nat) (s:MS),chkE e d=0→Dl s (evE C e s).2 ⟨0,gE e,0,0⟩
 | .mk op n t args,d,s,h=>by
  have har:=qd5 h;simp only[Ex.args,Ex.op]at har;have hL:=dl_evL args (d+1) s (by
   rw[chkE]at h;split at h
   ·exact h
   ·contradiction)
  rw[evE,gE];split
  ·exact Dl.refl _ _
  split
  ·exact Dl.refl _ _
  split
  ·exact Dl.refl _ _
  split
  ·rename_i h1;rw[h1]at hL;exact hL.mono (by simp) (by simp) (by simp) (by simp)
  ·rename_i h1;rw[h1]at hL;have hl:=evL_len h1;exact(hL.trans (dl_op _ (by rw[hl];exact har))).mono (by simp[N4.add]) (by simp[N4.add];omega) (by simp[N4.add]) (by simp[N4.add])
theorem dl_evL:∀(l:List Ex) (d:Nat) (s:MS),chkL l d=0→Dl s (evL C l s).2 ⟨0,gL l,0,0⟩
 | [],d,s,_=>by rw[evL];exact Dl.refl _ _
 |e::l,d,s,h=>by
  rw[chkL]at h;split at h
  ·rename_i h0;have hE:=dl_ev e d s h0;rw[evL,gL];split
   ·rename_i h1;rw[h1]at hE;exact hE.mono (by simp) (by simp) (by simp) (by simp)
   ·rename_i m' h1;rw[h1]at hE;have hL:=dl_evL l d m' h;split
    ·rename_i h2;rw[h2]at hL;exact hE.trans hL
    ·rename_i h2;rw[h2]at hL;exact hE.trans hL
  ·contradiction
end
theorem dl_loop{body:MS→Except Stop Unit×MS}{name:qac}{b:Int}{x:N4}(hb64:i64 b)(hb:∀s,Inv 8192 1 s→Dl s (body s).2 x)(hI:∀s u t,Inv 8192 1 s→body s=(.ok u,t)→Inv 0 0 t) :
  ∀(n f:Nat) (i:Int) (s:MS),i64 i→b - i≤n→Inv 0 0 s→Dl s (loopS body name b f i s).2 ((N4.one.add x).mul n)
 |_,0,i,s,_,_,_=>by rw[loopS];exact Dl.refl _ _
 | 0,f+1,i,s,hi,hn,h=>by rw[loopS,if_neg (by omega)];exact Dl.refl _ _
 |n+1,f+1,i,s,hi,hn,h=>by
  have hT:=dl_tick s;have e:∀y:N4,y.mul (n+1)=y.add (y.mul n):=fun y=>by simp[N4.mul,N4.add,Nat.succ_mul,Nat.add_comm]
  rw[loopS,e];split
  ·rename_i hib;split
   ·rename_i h1;rw[h1]at hT;exact hT.mono (by simp only[N4.add,N4.one];omega) (by simp only[N4.add,N4.one];omega) (by simp only[N4.add,N4.one];omega) (by simp only[N4.add,N4.one];omega)
   ·rename_i m' h1;rw[h1]at hT;have hI1:=(h.tick h1).vars (rng_vI hi) name;have hV:=dl_vars m' (qbr m'.vars name (vI i)) .zero;have hB:=hb _ hI1;split
    ·rename_i h2;rw[h2]at hB;exact(hT.trans (hV.trans hB)).mono (by simp only[N4.add,N4.one,N4.zero];omega) (by simp only[N4.add,N4.one,N4.zero];omega) (by simp only[N4.add,N4.one,N4.zero];omega) (by simp only[N4.add,N4.one,N4.zero];omega)
    ·rename_i m'' h2;have hI2:=hI _ _ _ hI1 h2;rw[h2]at hB;have hw:W64 (i+1)=i+1:=W64_id (by have:=hi.1;omega) (by have:=hb64.2;omega);have hR:=dl_loop (name:=name) hb64 hb hI n f (i+1) m'' ⟨by have:=hi.1;omega,by have:=hb64.2;omega⟩ (by omega) hI2;rw[hw];exact((hT.trans (hV.trans hB)).trans hR).mono (by simp only[N4.add,N4.one,N4.zero];omega) (by simp only[N4.add,N4.one,N4.zero];omega) (by simp only[N4.add,N4.one,N4.zero];omega) (by simp only[N4.add,N4.one,N4.zero];omega)
  ·exact Dl.refl _ _
theorem few{a b mx:Int}(ha:i64 a)(hb:i64 b)(h1:1≤mx)(h2:mx≤16)(h:¬tooMany a b mx):b - a≤mx.toNat:=by
 unfold tooMany at h;obtain⟨a1,a2⟩:=ha;obtain⟨b1,b2⟩:=hb;simp only[IntKind.wrap,IntKind.bits,IntKind.signed]at h;simp at h;omega
end
section
variable {C:Cfg}
mutual
theorem dl_st(hC:rngC C):∀(t:St) (d:Nat) (s:MS),okS t d→goS t→Inv 8192 1 s→Dl s (stI C t s).2 (nS t)
 | .mk op name mx a b body els,d,s,hO,hG,h=>by
  have hG':=(goS_iff _).1 hG;have hO':=(qco _ _).1 hO;have oA:=fun k=>okS_a hO k;have oB:=fun k=>okS_b hO k;have oM:=fun k=>okS_max hO k;simp only[St.op,St.a,St.b,St.body,St.els,St.max]at hG' hO' oA oB oM;obtain⟨hA,hB,hbody,hels⟩:=hG';obtain⟨_,obody,oels⟩:=hO';rw[stI,nS];by_cases h1:op=1∨op=2
  ·simp only[h1,if_true];have h8:¬op=8:=by omega
   have hE:=dl_ev (C:=C) a 1 s (oA h8);have hx:gE a≤(n0 op mx a b).ge:=by unfold n0;simp only[h8,if_false];omega
   split
   ·rename_i hm;rw[hm]at hE;exact hE.mono (by simp) (by simp only[N4.add];omega) (by simp) (by simp)
   ·rename_i hm;rw[hm]at hE;exact(hE.trans (dl_vars _ _ .zero)).mono (by simp[N4.add,N4.zero]) (by simp only[N4.add,N4.zero];omega) (by simp[N4.add,N4.zero]) (by simp[N4.add,N4.zero])
  simp only[h1,if_false];by_cases h3:op=3
  ·simp only[h3,if_true];have hE:=dl_ev (C:=C) a 1 s (oA (by omega));have hx:(n0 3 mx a b).ge=gE a+gE b:=by simp[n0]
   have hy:(n0 3 mx a b).pu=1:=by simp[n0]
   split
   ·rename_i hm;rw[hm]at hE;exact hE.mono (by simp) (by simp only[N4.add];omega) (by simp) (by simp)
   ·rename_i k m' hm;rw[hm]at hE;have hE2:=dl_ev (C:=C) b 1 m' (oB (by omega));split
    ·rename_i hm2;rw[hm2]at hE2;exact(hE.trans hE2).mono (by simp[N4.add]) (by simp only[N4.add];omega) (by simp[N4.add]) (by simp[N4.add])
    ·rename_i v m'' hm2;rw[hm2]at hE2;split
     ·exact((hE.trans hE2).trans (dl_store k.s v m'')).mono (by simp[N4.add]) (by simp only[N4.add];omega) (by simp only[N4.add];omega) (by simp[N4.add])
     ·exact(hE.trans hE2).mono (by simp[N4.add]) (by simp only[N4.add];omega) (by simp[N4.add]) (by simp[N4.add])
  simp only[h3,if_false];by_cases h4:op=4
  ·simp only[h4,if_true];have hE:=dl_ev (C:=C) a 1 s (oA (by omega));have hx:(n0 4 mx a b).ge=gE a:=by simp[n0]
   have hy:(n0 4 mx a b).pu=1:=by simp[n0]
   split
   ·rename_i hm;rw[hm]at hE;exact hE.mono (by simp) (by simp only[N4.add];omega) (by simp) (by simp)
   ·rename_i k m' hm;rw[hm]at hE;split
    ·exact(hE.trans (dl_store k.s V.nil m')).mono (by simp[N4.add]) (by simp only[N4.add];omega) (by simp only[N4.add];omega) (by simp[N4.add])
    ·exact hE.mono (by simp) (by simp only[N4.add];omega) (by simp) (by simp)
  simp only[h4,if_false];by_cases h5:op=5
  ·simp only[h5,if_true];have h0:=h.eval hC (r:=4097) (hA (by omega));have hE:=dl_ev (C:=C) a 1 s (oA (by omega));have hx:(n0 5 mx a b).ge=gE a:=by simp[n0]
   split
   ·rename_i hm;rw[hm]at hE;exact hE.mono (by simp) (by simp only[N4.add];omega) (by simp) (by simp)
   ·rename_i c m' hm;rw[hm]at hE h0;split
    ·split
     ·have hB:=dl_blk hC body (d+1) m' obody hbody (h0.1.mono (by omega) (by omega));have m1:=Nat.le_max_left (nL body).st (nL els).st;have m2:=Nat.le_max_left (nL body).ge (nL els).ge;have m3:=Nat.le_max_left (nL body).pu (nL els).pu;have m4:=Nat.le_max_left (nL body).em (nL els).em;exact(hE.trans hB).mono (by simp only[N4.add,N4.mx];omega) (by simp only[N4.add,N4.mx];omega) (by simp only[N4.add,N4.mx];omega) (by simp only[N4.add,N4.mx];omega)
     ·have hB:=dl_blk hC els (d+1) m' oels hels (h0.1.mono (by omega) (by omega));have m1:=Nat.le_max_right (nL body).st (nL els).st;have m2:=Nat.le_max_right (nL body).ge (nL els).ge;have m3:=Nat.le_max_right (nL body).pu (nL els).pu;have m4:=Nat.le_max_right (nL body).em (nL els).em;exact(hE.trans hB).mono (by simp only[N4.add,N4.mx];omega) (by simp only[N4.add,N4.mx];omega) (by simp only[N4.add,N4.mx];omega) (by simp only[N4.add,N4.mx];omega)
    ·exact hE.mono (by simp) (by simp only[N4.add];omega) (by simp) (by simp)
  simp only[h5,if_false];by_cases h6:op=6
  ·simp only[h6,if_true];have h0:=h.eval hC (r:=4097) (hA (by omega));have hE:=dl_ev (C:=C) a 1 s (oA (by omega));have hx:(n0 6 mx a b).ge=gE a+gE b:=by simp[n0]
   have hy:(n0 6 mx a b).st=mx.toNat:=by simp[n0]
   have hM:=oM h6;split
   ·rename_i hm;rw[hm]at hE;exact hE.mono (by simp) (by simp only[N4.add];omega) (by simp) (by simp)
   ·rename_i u m' hm;rw[hm]at hE h0;have hE2:=dl_ev (C:=C) b 1 m' (oB (by omega));have h2:=h0.1.eval hC (r:=2) (hB (by omega));split
    ·rename_i hm2;rw[hm2]at hE2;exact(hE.trans hE2).mono (by simp[N4.add]) (by simp only[N4.add];omega) (by simp[N4.add]) (by simp[N4.add])
    ·rename_i v m'' hm2;rw[hm2]at hE2 h2;split
     ·split
      ·exact(hE.trans hE2).mono (by simp[N4.add]) (by simp only[N4.add];omega) (by simp[N4.add]) (by simp[N4.add])
      ·rename_i ht;have hu:=(h0.2 _ rfl).1;have hv:=(h2.2 _ rfl).1;have hn:=few hu hv hM.1 hM.2 ht;have hl:=dl_loop (name:=name) (body:=fun x=>blkI C body x) hv (fun s hs=>dl_blk hC body (d+1) s obody hbody (hs.mono (by omega) (by omega))) (fun s u t hs hg=>blkI_ok hC body s u t hbody (hs.mono (by omega) (by omega)) hg) mx.toNat 16386 u.n m'' hu hn (h2.1.mono (by omega) (by omega));have e1:(N4.one.add (nL body)).mul mx.toNat=⟨mx.toNat+mx.toNat * (nL body).st,mx.toNat * (nL body).ge,mx.toNat * (nL body).pu,mx.toNat * (nL body).em⟩:=by
        simp[N4.mul,N4.add,N4.one,Nat.mul_add]
       rw[e1]at hl;exact((hE.trans hE2).trans hl).mono (by simp only[N4.add,N4.mul];omega) (by simp only[N4.add,N4.mul];omega) (by simp only[N4.add,N4.mul];omega) (by simp only[N4.add,N4.mul];omega)
     ·exact(hE.trans hE2).mono (by simp[N4.add]) (by simp only[N4.add];omega) (by simp[N4.add]) (by simp[N4.add])
  simp only[h6,if_false];by_cases h7:op=7
  ·simp only[h7,if_true];have hE:=dl_ev (C:=C) a 1 s (oA (by omega));have hx:(n0 7 mx a b).ge=gE a:=by simp[n0]
   have hy:(n0 7 mx a b).em=1:=by simp[n0]
   split
   ·rename_i hm;rw[hm]at hE;exact hE.mono (by simp) (by simp only[N4.add];omega) (by simp) (by simp)
   ·rename_i v m' hm;rw[hm]at hE;split
    ·exact(hE.trans (dl_emit v m')).mono (by simp[N4.add]) (by simp only[N4.add];omega) (by simp[N4.add]) (by simp only[N4.add];omega)
    ·exact hE.mono (by simp) (by simp only[N4.add];omega) (by simp) (by simp)
  simp only[h7,if_false];split
  ·exact Dl.refl _ _
  ·exact Dl.refl _ _
theorem dl_blk(hC:rngC C):∀(l:List St) (d:Nat) (s:MS),okL l d→(∀x∈l,goS x)→Inv 0 0 s→Dl s (blkI C l s).2 (nL l)
 | [],d,s,_,_,_=>by rw[blkI];exact Dl.refl _ _
 |t::l,d,s,hO,hG,h=>by
  have hT:=dl_tick s;rw[blkI,nL];split
  ·rename_i hm;rw[hm]at hT;exact hT.mono (by simp only[N4.add];omega) (by simp only[N4.add];omega) (by simp only[N4.add];omega) (by simp only[N4.add];omega)
  ·rename_i m' hm;rw[hm]at hT;have hI:=h.tick hm;have hS:=dl_st hC t d m' (hO t (by simp)) (hG t (by simp)) hI;split
   ·rename_i hm2;rw[hm2]at hS;exact(hT.trans hS).mono (by simp only[N4.add];omega) (by simp only[N4.add];omega) (by simp only[N4.add];omega) (by simp only[N4.add];omega)
   ·rename_i m'' hm2;have hI2:=stI_ok hC t _ _ _ (hG t (by simp)) hI hm2;rw[hm2]at hS;exact(hT.trans hS).trans (dl_blk hC l d m'' (fun x hx=>hO x (by simp[hx])) (fun x hx=>hG x (by simp[hx])) hI2)
end
end
end Go.Cw

namespace Go.Cw
open Go Go.Abs
def okX(v:V):Prop:=varOk v.k v.n v.s=true
def okW(v:V):Prop:=valOk v.k v.n v.s=true
def vM(s:MS):Prop:=(∀p∈s.vars,okX p.2)∧∀p∈s.own,okW p.2
structure vC(C:Cfg):Prop where
 st:∀p∈C.state,okW p.v
 fmt:∀n,i64 n→qa3 (C.fmt n)=true
theorem okX_vI(n:Int):okX (vI n):=by simp[okX,varOk,valOk,vI]
theorem okX_vB(b:Bool):okX (vB b):=by cases b<;>simp[okX,varOk,vB]
theorem okX_vS{s:qac}(h:qa3 s=true):okX (vS s):=by simp[okX,varOk,valOk,vS,h]
theorem okW_nil:okW V.nil:=by simp[okW,valOk,V.nil]
theorem okX_plain{v:V}(h:okX v)(hk:v.k=2):qa3 v.s=true:=by
 unfold okX varOk valOk at h;simp[hk]at h;exact h.2
theorem okX_W{v:V}(h:okX v)(hk:v.k=1∨v.k=2):okW v:=by
 unfold okX varOk at h;rw[if_neg (by omega)]at h;simp only[Bool.and_eq_true]at h;exact h.2
theorem okW_X{v:V}(h:okW v)(hk:v.k≠0)(hk3:v.k≠3):okX v:=by
 unfold okX varOk;rw[if_neg hk3];have h:valOk v.k v.n v.s=true:=h;simp[hk,h]
theorem plain_app{a b:qac}(ha:qa3 a=true)(hb:qa3 b=true)(h:((a++b).size:Int)≤64):qa3 (a++b)=true:=by
 unfold qa3 at ha hb⊢;simp only[Bool.and_eq_true,decide_eq_true_eq,allL_iff]at ha hb⊢;refine⟨fun x hx=>?_,h⟩;have:bl (a++b)=bl a++bl b:=by simp[bl]
 rw[this,List.mem_append]at hx;rcases hx with hx|hx
 ·exact ha.1 x hx
 ·exact hb.1 x hx
theorem plain_em:qa3 em=true:=by decide
theorem okX_text{s:qac}{v:V}(hs:(s.size:Int)≤64→qa3 s=true)(h:textS s=.ok v):okX v:=by
 unfold textS at h;split at h
 ·cases h
 ·cases h;exact okX_vS (hs (by omega))
theorem okX_exact{r:Int×Int}{v:V}(h:qcs r=.ok v):okX v:=by
 unfold qcs at h;split at h
 ·cases h;exact okX_vI _
 ·split at h<;>cases h
theorem okX_bin{op:Int}{a b v:V}(ha:okX a)(hb:okX b)(h:binS op a b=.ok v):okX v:=by
 unfold binS at h;split at h
 ·split at h
  ·unfold qel at h
   repeat' split at h
   all_goals exact okX_exact h
  ·cases h
 split at h
 ·split at h<;>cases h;exact okX_vB _
 split at h
 ·split at h<;>cases h;exact okX_vB _
 split at h
 ·split at h
  ·rename_i hk;exact okX_text (fun hs=>plain_app (okX_plain ha hk.1) (okX_plain hb hk.2) hs) h
  ·cases h
 ·unfold compS at h;split at h<;>cases h;exact okX_vB _
theorem okX_got{op:Int}{w v:V}(hop:op=22∨op=23∨op=24)(hw:okW w)(h:gotS op w=.ok v):okX v:=by
 unfold gotS at h;split at h
 ·cases h;exact okX_vB _
 split at h
 ·cases h;exact okX_vI _
 split at h
 ·exact okX_text (fun _=>plain_em) h
 split at h
 ·cases h
 ·cases h;exact okW_X hw (by omega) (by omega)
theorem okW_getP{l:List Pr}(h:∀p∈l,okW p.v)(k:qac):okW (getP l k):=by
 induction l with
 |nil=>exact okW_nil
 |cons p l ih =>
  rw[getP];split
  ·exact h p (by simp)
  ·exact ih fun q hq=>h q (by simp[hq])
section
variable {C:Cfg} (hV:vC C)
include hV
theorem okW_fetch{k:qac}{s t:MS}{v:V}(hM:vM s)(h:qc0 C k s=(.ok v,t)):okW v:=by
 unfold qc0 at h;split at h
 ·cases h
 split at h
 ·rename_i w hw;cases h;exact hM.2 _ (kGet_mem hw)
 split at h
 ·cases h
 ·cases h;exact okW_getP hV.st k
theorem okX_op{op:Int}{l:List V}{s t:MS}{v:V}(hM:vM s)(hl:(l.length:Int)=qb0 op)(hx:∀a∈l,okX a)(hr:∀a∈l,qcx a)(h:opS C op l s=(.ok v,t)):okX v:=by
 have hy:∀{x:EV} {u:MS},(x,u)=((.ok v,t):EV×MS)→x=.ok v:=fun h=>congrArg Prod.fst h;unfold opS at h;split at h
 ·rename_i a;have hop:op=9∨op=18∨op=20∨op=21∨op=22∨op=23∨op=24:=by
   unfold qb0 at hl;simp at hl;split at hl
   ·omega
   split at hl
   ·omega
   split at hl
   ·omega
   ·omega
  unfold unS at h;split at h
  ·have h:=hy h;split at h
   ·exact okX_exact h
   ·cases h
  split at h
  ·have h:=hy h;split at h<;>cases h;exact okX_vB _
  split at h
  ·have h:=hy h;split at h
   ·exact okX_text (fun _=>hV.fmt _ (hr a (by simp)).1) h
   ·cases h
  split at h
  ·have h:=hy h;split at h<;>cases h;exact okX_vI _
  split at h
  ·cases h
  split at h
  ·cases h
  ·rename_i hf;exact okX_got (by omega) (okW_fetch hV hM hf) (hy h)
 ·rename_i a b;exact okX_bin (hx a (by simp)) (hx b (by simp)) (hy h)
 ·cases h
end
theorem vM_ev{s t:MS}{n:Nat}(h:EvOk s n t)(hM:vM s):vM t:=by rw[h.eq];exact hM
section
variable {C:Cfg} (hV:vC C) (hC:rngC C)
include hV hC
mutual
theorem okX_ev:∀(e:Ex) (d:Nat) (s t:MS) (v:V),chkE e d=0→rngX e→vM s→rngM s→ascS s.reads→evE C e s=(.ok v,t)→okX v
 | .mk op n x args,d,s,t,v,hc,hR,hM,hr,ha,h=>by
  have har:=qd5 hc;have hR':=(qdd _).1 hR;simp only[Ex.args,Ex.op,Ex.n,Ex.s]at har hR';rw[chkE]at hc;by_cases hn:qcb op n x args.length d=0
  ·rw[if_pos hn]at hc;rw[evE]at h;split at h
   ·cases h;exact okX_vI _
   split at h
   ·rename_i h2;cases h;refine okX_vS ?_;unfold qcb at hn;subst h2;cases hp:qa3 x with
    |true=>rfl
    |false=>simp[hp]at hn
   split at h
   ·have h:=congrArg Prod.fst h;simp only at h;split at h
    ·rename_i w hw;cases h;exact hM.1 _ (kGet_mem hw)
    ·cases h
   split at h
   ·cases h
   ·rename_i l m' hL;have hE:=evL_ok hC args s hR'.2 hr ha;rw[hL]at hE;have hl:=okX_evL args (d+1) s m' l hc hR'.2 hM hr ha hL;exact okX_op hV (vM_ev hE.1 hM) (by rw[evL_len hL];exact har) hl (hE.2 l rfl) h
  ·rw[if_neg hn]at hc;exact(hn hc).elim
theorem okX_evL:∀(l:List Ex) (d:Nat) (s t:MS) (r:List V),chkL l d=0→(∀x∈l,rngX x)→vM s→rngM s→ascS s.reads→evL C l s=(.ok r,t)→∀v∈r,okX v
 | [],d,s,t,r,_,_,_,_,_,h=>by rw[evL]at h;cases h;simp
 |e::l,d,s,t,r,hc,hR,hM,hr,ha,h=>by
  rw[chkL]at hc;split at hc
  ·rename_i h0;rw[evL]at h;split at h
   ·cases h
   ·rename_i v m' hE;have hE':=evE_ok hC e s (hR e (by simp)) hr ha;rw[hE]at hE';have hv:=okX_ev e d s m' v h0 (hR e (by simp)) hM hr ha hE;split at h
    ·cases h
    ·rename_i r' m'' hL;cases h;have hl:=okX_evL l d m' _ r' hc (fun x hx=>hR x (by simp[hx])) (vM_ev hE'.1 hM) (hE'.1.rng hr) hE'.1.asc hL;intro w hw;rcases List.mem_cons.1 hw with rfl|hw
     ·exact hv
     ·exact hl w hw
  ·contradiction
end
theorem vM_set{s:MS}{v:V}(k:qac)(hM:vM s)(hv:okX v):vM { s with vars:=qbr s.vars k v }:=⟨fun p hp=>by
 rcases kSet_mem hp with rfl|hp
 ·exact hv
 ·exact hM.1 p hp,hM.2⟩
theorem vM_store{s t:MS}{k:qac}{v:V}{u:Unit}(hM:vM s)(hv:okW v)(h:qcq C k v s=(.ok u,t)):vM t:=by
 unfold qcq at h;split at h
 ·cases h
 split at h
 ·cases h
 ·cases h;refine⟨hM.1,fun p hp=>?_⟩;rcases kSet_mem hp with rfl|hp
  ·exact hv
  ·exact hM.2 p hp
theorem vM_emit{s t:MS}{v:V}{u:Unit}(hM:vM s)(h:emitS v s=(.ok u,t)):vM t:=by
 unfold emitS at h;split at h
 ·cases h
 ·cases h;exact hM
end
end Go.Cw

namespace Go.Cw
open Go Go.Abs
abbrev keysP(l:List Pr):List qac:=l.map (·.key)
theorem ascP_iff:∀(l:List Pr) (prev:Option qac),ascP prev l=true↔(∀p∈l,keyOk p.key=true)∧ascS (keysP l)∧∀k,prev=some k→∀p∈l,sLt k p.key=true
 | [],prev=>by simp[ascP]
 |p::l,prev=>by
  simp only[ascP,Bool.and_eq_true,ascP_iff l,List.mem_cons,keysP,List.map_cons,List.pairwise_cons,List.mem_map];constructor
  ·rintro⟨⟨h1,h2⟩,h3,h4,h5⟩;refine⟨?_,⟨?_,h4⟩,?_⟩
   ·rintro q (rfl|hq)
    ·exact h1
    ·exact h3 q hq
   ·rintro x ⟨q,hq,rfl⟩;exact h5 _ rfl q hq
   ·rintro k rfl q (rfl|hq)
    ·exact h2
    ·exact sLt_trans h2 (h5 _ rfl q hq)
  ·rintro⟨h1,⟨h2,h3⟩,h4⟩;refine⟨⟨h1 p (.inl rfl),?_⟩,fun q hq=>h1 q (.inr hq),h3,?_⟩
   ·cases prev with
    |none=>rfl
    |some k=>exact h4 k rfl p (.inl rfl)
   ·rintro k hk q hq;cases hk;exact h2 _ ⟨q,hq,rfl⟩
theorem writesOk_iff(l:List Pr):writesOk l=true↔(∀p∈l,okW p.v)∧(∀p∈l,keyOk p.key=true)∧ascS (keysP l):=by
 simp only[writesOk,valsOk,Bool.and_eq_true,allL_iff,ascP_iff,okW];constructor
 ·rintro⟨h1,h2,h3,_⟩;exact⟨h1,h2,h3⟩
 ·rintro⟨h1,h2,h3⟩;exact⟨h1,h2,h3,fun k hk=>by cases hk⟩
theorem anyL_iff{α:Type}{p:α→Bool}:∀{l:List α},anyL p l=true↔∃x,x∈l∧p x=true
 | []=>by simp[anyL]
 |x::l=>by simp[anyL,anyL_iff (l:=l)]
theorem anyL_false{α:Type}{p:α→Bool}{l:List α}:anyL p l=false↔∀x,x∈l→p x=false:=by
 cases h:anyL p l with
 |true =>
  obtain⟨x,hx,hp⟩:=anyL_iff.1 h;simp only[Bool.true_eq_false,false_iff];intro k;rw[k x hx]at hp;cases hp
 |false =>
  simp only[true_iff];intro x hx;cases hp:p x with
  |false=>rfl
  |true=>rw[anyL_iff.2 ⟨x,hx,hp⟩]at h;cases h
theorem stateOk_iff(l:List Pr):qb7 l=true↔(∀p∈l,okW p.v∧p.v.k≠0)∧(∀p∈l,keyOk p.key=true)∧ascS (keysP l):=by
 rw[←stateOkR_eq,stateOkR,Bool.and_eq_true,writesOk_iff,Bool.not_eq_true',anyL_false];simp only[decide_eq_false_iff_not];constructor
 ·rintro⟨h0,h1,h2,h3⟩;exact⟨fun p hp=>⟨h1 p hp,h0 p hp⟩,h2,h3⟩
 ·rintro⟨h1,h2,h3⟩;exact⟨fun p hp=>(h1 p hp).2,fun p hp=>(h1 p hp).1,h2,h3⟩
theorem hasP_iff{l:List Pr}{k:qac}:hasP l k=true↔k∈keysP l:=by
 simp[hasP,anyL_iff,keysP]
theorem hasK_iff{l:List qac}{k:qac}:qd1 l k=true↔k∈l:=by
 simp[qd1,anyL_iff]
theorem getP_in{l:List Pr}(ha:ascS (keysP l)){p:Pr}(hp:p∈l):getP l p.key=p.v:=by
 induction l with
 |nil=>cases hp
 |cons q l ih =>
  obtain⟨h1,h2⟩:=List.pairwise_cons.1 ha;rw[getP];rcases List.mem_cons.1 hp with rfl|hp
  ·rw[if_pos rfl]
  ·have:=h1 p.key (List.mem_map_of_mem hp);rw[if_neg (sLt_ne this),ih h2 hp]
theorem posP_eq(k:qac)(l:List Pr):posP k l=posS k (keysP l):=by
 induction l with
 |nil=>rfl
 |cons p l ih =>
  simp only[posP,keysP,List.map_cons,posS];rw[ih]
end Go.Cw

namespace Go.Cw
open Go Go.Abs
structure RunIn(fmt:Int→qac)(p:Proc)(args:List V)(st:List Pr):Prop where
 fmt:∀n,i64 n→qa3 (fmt n)=true
 body:∀t∈p.body,rngS t
 args:∀v∈args,qcx v
 st:∀q∈st,qcx q.v
abbrev cfgR(fmt:Int→qac)(st:List Pr)(ft:Foot):Cfg:=⟨st,ft.all,ft.reads,ft.writes,fmt⟩
abbrev ms0(p:Proc)(args:List V):MS:=⟨qdp p.params args [],[],[],[],[],0⟩
def runOk(p:Proc)(args:List V)(st:List Pr)(ft:Foot):Prop:=¬(qbv p≠0∨qcl p args≠0∨qb7 st=false∨footOk ft.all ft.reads ft.writes=false)
theorem runS_no{fmt:Int→qac}{p:Proc}{args:List V}{st:List Pr}{ft:Foot}(h:¬runOk p args st ft):runS fmt p args st ft=wrongE:=by
 unfold runS;exact if_pos (Decidable.not_not.1 h)
theorem runS_yes{fmt:Int→qac}{p:Proc}{args:List V}{st:List Pr}{ft:Foot}(h:runOk p args st ft):runS fmt p args st ft=doneS (blkI (cfgR fmt st ft) p.body (ms0 p args)):=by
 unfold runS;exact if_neg h
theorem runOk_iff(p:Proc)(args:List V)(st:List Pr)(ft:Foot):runOk p args st ft↔qbv p=0∧qcl p args=0∧qb7 st=true∧footOk ft.all ft.reads ft.writes=true:=by
 unfold runOk;simp only[not_or,Decidable.not_not,Bool.not_eq_false]
theorem setArgs_mem:∀{ps:List Param} {vs:List V} {m:List (qac×V)} {q:qac×V},q∈qdp ps vs m→q∈m∨q.2∈vs
 | [],vs,m,q,h=>by simp[qdp]at h;exact .inl h
 |x::l,[],m,q,h=>by simp[qdp]at h;exact .inl h
 |x::l,v::r,m,q,h=>by
  rw[qdp]at h;rcases setArgs_mem h with h|h
  ·rcases kSet_mem h with rfl|h
   ·exact .inr (by simp)
   ·exact .inl h
  ·exact .inr (by simp[h])
theorem cost_valid{p:Proc}(h:qbv p=0):qcn p=0:=by
 unfold qbv at h;split at h
 ·contradiction
 ·rename_i hd;simp only[Decidable.not_not]at hd;unfold detErr at hd;split at hd
  ·contradiction
  ·rename_i ht;simp only[Decidable.not_not]at ht;unfold qc1 at ht;split at ht
   ·contradiction
   ·rename_i hv;simpa using hv
theorem cost_okL{p:Proc}(h:qbv p=0):okL p.body 1:=validP_ok (cost_valid h)
theorem cost_goS{p:Proc}(h:qbv p=0)(hr:∀t∈p.body,rngS t):∀t∈p.body,goS t:=fun t ht=>goS_of t 1 (cost_okL h t ht) (hr t ht)
theorem cost_lim{p:Proc}(h:qbv p=0):(cntB p.body).st≤16384∧(cntB p.body).ge≤64∧(cntB p.body).pu≤64∧(cntB p.body).em≤16:=by
 unfold qbv at h;split at h
 ·contradiction
 split at h
 ·contradiction
 split at h
 ·contradiction
 ·omega
theorem cost_det{p:Proc}(h:qbv p=0):detErr p=0:=by
 unfold qbv at h;split at h
 ·contradiction
 ·rename_i hd;simpa using hd
theorem cost_nL{p:Proc}(h:qbv p=0):((nL p.body).st:Int)=(cntB p.body).st∧((nL p.body).ge:Int)=(cntB p.body).ge∧((nL p.body).pu:Int)=(cntB p.body).pu∧((nL p.body).em:Int)=(cntB p.body).em:=by
 have h1:=cost_lim h;have h2:=cntB_sat (cost_okL h);have hm:∀n:Nat,mn n 16385≤16384→(n:Int)=mn n 16385:=fun n hn=>by unfold mn at hn⊢;split<;>split at hn<;>omega
 rw[h2]at h1⊢;simp only[sat]at h1⊢;exact⟨hm _ h1.1,hm _ (by omega),hm _ (by omega),hm _ (by omega)⟩
theorem args_ok{ps:List Param}{vs:List V}(h:argsOk ps vs=true)(hl:vs.length=ps.length):∀v∈vs,okX v:=by
 induction ps generalizing vs with
 |nil=>intro v hv;rw[List.eq_nil_of_length_eq_zero hl]at hv;cases hv
 |cons x l ih =>
  cases vs with
  |nil=>simp
  |cons v r =>
   simp only[argsOk,Bool.and_eq_true]at h;intro w hw;rcases List.mem_cons.1 hw with rfl|hw
   ·have:=h.1;unfold argOk at this;unfold okX varOk valOk;simp only[Bool.or_eq_true,Bool.and_eq_true,decide_eq_true_eq]at this;rcases this with⟨⟨h1,h2⟩,_⟩|⟨⟨⟨h1,h2⟩,h3⟩,_⟩
    ·simp[h1,h2]
    ·simp[h1,h2,h3]
   ·exact ih h.2 (by simpa using hl) w hw
theorem argsErr_ok{p:Proc}{args:List V}(h:qcl p args=0):args.length=p.params.length∧∀v∈args,okX v:=by
 unfold qcl at h;split at h
 ·contradiction
 ·rename_i h1;split at h
  ·rename_i h2;have hl:args.length=p.params.length:=by
    by_cases hl:args.length=p.params.length
    ·exact hl
    ·exact(h1 (.inr hl)).elim
   exact⟨hl,args_ok h2 hl⟩
  ·contradiction
section
variable {fmt:Int→qac} {p:Proc} {args:List V} {st:List Pr} {ft:Foot}
theorem inv0(hI:RunIn fmt p args st):Inv 0 0 (ms0 p args):=by
 refine⟨⟨fun q hq=>?_,by simp⟩,by simp,by simp,by simp,by simp,by simp,by simp⟩;rcases setArgs_mem hq with h|h
 ·cases h
 ·exact hI.args _ h
theorem vM0(h:qcl p args=0):vM (ms0 p args):=by
 refine⟨fun q hq=>?_,by simp⟩;rcases setArgs_mem hq with h1|h1
 ·cases h1
 ·exact(argsErr_ok h).2 _ h1
theorem vC_of(hI:RunIn fmt p args st)(hs:qb7 st=true):vC (cfgR fmt st ft):=⟨fun q hq=>(((stateOk_iff st).1 hs).1 q hq).1,hI.fmt⟩
theorem fit_run(x:List St):Fit (cfgR fmt st ft) (ms0 p args) (blkI (cfgR fmt st ft) x (ms0 p args)).2:=keep_blk (fit_keeps _) x _
end
end Go.Cw
