/- Part 42 of a proof: W46c, W46d, W46e -/
import Derived.Test.YtdbpbpmikpdjcaaGreatDoorQ18
import Derived.Test.YtdbpbpmikpdjcaaGreatDoorQ41
set_option linter.all false

set_option maxRecDepth 4000
set_option maxHeartbeats 400000
namespace Go.Proofs.YtdbpbpmikpdjcaaGreatDoor
open Go Go.Abs Go.Cw
abbrev zRL:List AV:=[.nils,Bo false,.nils,.nils,.nils,.nils,I 0,I 0,.nils,.nils,.nils,.nils,S em,I 0]
section
attribute [local go_sem] RM.c
variable (C:Cfg) (hC:rngC C) (hf:∀ n,i64 n→qa6 (C.fmt n)=true) (hF:∀ n,i64 n→APure Tryz.prog 277 [I n] (S (C.fmt n)))
include hC hf hF
theorem c_ref15_loop (s:St) (a b:Int) (m:RM) (ha:i64 a) (hb2:i64 b) (hI0:RInv 0 0 m) (hm:m.st=0)
  (hBd:∀ m,RInv 0 0 m→m.st=0→APure Tryz.prog 96 [.agg (m.c C),.slice (s.body.map St.c)] (.agg ((blkR C s.body m).c C)))
  (hBi:∀ m,RInv 0 0 m→m.st=0→(blkR C s.body m).st=0→RInv 0 0 (blkR C s.body m)) :
  APure Tryz.prog 167 [.agg (m.c C),.agg s.x,I a,I b] (.agg ((if a<b∧((qco b a).2≠0∨s.max<(qco b a).1) then m.ab 1005 else loopR (blkR C s.body) s.name b (b - a).toNat a m).c C)):=by
 refine qak Tryz.func167 Tryz.ntmps167 rfl (by kernel_rfl) rfl rfl fun E h hN hh hu hb=>?_
 simp [go_sem] at hb
 obtain ⟨R,hR⟩:∃ R,(if a<b∧((qco b a).2≠0∨s.max<(qco b a).1) then m.ab 1005 else loopR (blkR C s.body) s.name b (b - a).toNat a m)=R:=⟨_,rfl⟩
 rw [hR]
 simp -dsimp [go_sem,hN]
 refine qaa (c_ref01_Sub b a hb2 ha) ?_
 simp -dsimp [go_sem,hN]
 refine ⟨by grind,?_⟩
 refine cnd (fun h1=>?_) (fun h1=>?_)
 ·
  rw [if_pos (by simp at h1;grind)] at hR
  subst hR
  simp -dsimp [go_sem,hN]
  refine qaa (qbi C m 1005) ?_
  simp -dsimp [go_sem,hN]
 rw [if_neg (by simp at h1;grind)] at hR
 simp -dsimp [go_sem,hN]
 have hab:b - a<18446744073709551616:=by have:=ha.1;have:=hb2.2;omega
 refine qat (α:=RM) (b - a).toNat (fun n mm=>(mm.st=0→RInv 0 0 mm)∧loopR (blkR C s.body) s.name b ((b - a).toNat - n) (a+n) mm=R)
  (fun n mm=>⟨[(3,I b),(4,P0 h.length),(5,P0 (h.length+1)),(8,P0 (h.length+2)),(11,I (a+n))],h++[.cells (mm.c C),.cells s.x,.cells zRL]⟩) m ⟨fun _=>hI0,by simpa using hR⟩ (Wk.mk (by simp [hh]) (by simp [go_sem]) (by simp [hu,qab hu,go_sem]) (by simp [go_sem])) ?_
 rintro n mm hn ⟨hRI,hI⟩
 simp -dsimp [go_sem,hN]
 refine qaf (qbp C mm) (by simp) ?_
 simp -dsimp [go_sem,hN]
 refine cnd ?_ ?_<;>intro hc<;>simp at hc
 ·
  have hlt:n<(b - a).toNat:=by omega
  have hif:i64 (a+n):=⟨by have:=ha.1;omega,by have:=hb2.2;omega⟩
  have hw:IntKind.i64.wrap (a+(n:Int)+1)=a+((n+1:Nat):Int):=by rw [wrapI (by have:=ha.1;omega) (by have:=hb2.2;omega)];omega
  have hRI:=hRI hc.2
  have hcast:a+((n:Int)+1)=a+((n+1:Nat):Int):=by omega
  obtain ⟨f,hfu⟩:∃ f,(b - a).toNat - n=f+1:=⟨(b - a).toNat - n - 1,by omega⟩
  have hfu2:(b - a).toNat - (n+1)=f:=by omega
  have hTick:=c_ref15_Tick C mm
  have hTi:=fun h2=>tickR_inv hRI h2
  rw [hfu,loopR,if_pos ⟨by omega,hc.2⟩,show W64 (a+(n:Int)+1)=a+((n+1:Nat):Int) from hw] at hI
  obtain ⟨T,hTe⟩:∃ T,qdk mm=T:=⟨_,rfl⟩
  rw [hTe] at hI hTick hTi
  have hTr:=qbp C T
  simp -dsimp [go_sem,hN]
  refine qaa hTick ?_
  simp -dsimp [go_sem,hN]
  refine qaa hTr ?_
  simp -dsimp [go_sem,hN]
  refine cnd ?_ ?_<;>intro h2<;>simp at h2
  ·
   have hT:=hTi h2
   have hV:=hT.var (p:=0) (rng_vI hif) s.name
   have hlv:=hT.lenV
   rw [if_pos h2] at hI
   have hset:=c_ref15_set T.vars ⟨s.name,vI (a+n)⟩ (by omega)
   have hV0:=hV.mono (Nat.zero_le _) (Nat.le_refl _)
   have hB1:=hBd _ hV0 h2
   have hB2:=hBi _ hV0 h2
   obtain ⟨V,hVe⟩:∃ V,setR T.vars ⟨s.name,vI (a+n)⟩=V:=⟨_,rfl⟩
   rw [hVe] at hset
   simp only [hVe] at hB1 hB2 hI
   obtain ⟨B,hBe⟩:∃ B,blkR C s.body { T with vars:=V }=B:=⟨_,rfl⟩
   simp only [hBe] at hB1 hB2 hI
   simp only [RM.c] at hB1
   simp -dsimp [go_sem,hN]
   refine qah 7 mixed (by kernel_rfl) (by kernel_rfl) ?_
   simp -dsimp [go_sem,hN]
   refine qay (c_ref15_num (a+n)) (by simp) ?_
   simp -dsimp [go_sem,hN]
   refine qaa hset ?_
   simp -dsimp [go_sem,hN]
   refine qaa hB1 ?_
   simp -dsimp [go_sem,hN,hw]
   have hlt2:(n:Int)<b - a:=by omega
   refine ⟨hlt2,B,⟨hB2,?_⟩,?_⟩
   ·
    rw [hfu2,hcast]
    exact hI
   · exact (Wk.mk (by simp [hh]) (by simp [go_sem]) (by simp [hu,qab hu,go_sem]) (by simp [go_sem]))
  ·
   rw [if_neg h2] at hI
   simp -dsimp [go_sem,hN,hw]
   refine ⟨by omega,T,⟨fun h3=>absurd h3 h2,by rw [hfu2,hcast];exact hI⟩,(Wk.mk (by simp [hh]) (by simp [go_sem]) (by simp [hu,qab hu,go_sem]) (by simp [go_sem]))⟩
 ·
  have he:loopR (blkR C s.body) s.name b ((b - a).toNat - n) (a+n) mm=mm:=by
   by_cases h2:mm.st=0
   · exact loopR_end _ (fun g=>hc g h2)
   · exact loopR_dead _ _ h2
  rw [he] at hI
  subst hI
  simp -dsimp [go_sem,hN]
end
end Go.Proofs.YtdbpbpmikpdjcaaGreatDoor

set_option maxRecDepth 4000
set_option maxHeartbeats 4000000
namespace Go.Proofs.YtdbpbpmikpdjcaaGreatDoor
open Go Go.Abs Go.Cw
section
attribute [local go_sem] RM.c
variable (C:Cfg) (hC:rngC C) (hf:∀ n,i64 n→qa6 (C.fmt n)=true) (hF:∀ n,i64 n→APure Tryz.prog 277 [I n] (S (C.fmt n)))
include hC hf hF
theorem c_ref15_stmt_of (t:St) (d:Nat) (m:RM) (hok:okS t d) (hg:goS t) (hI0:RInv 8192 1 m) (hm:m.st=0)
  (hB1:∀ m,RInv 0 0 m→m.st=0→APure Tryz.prog 96 [.agg (m.c C),.slice (t.body.map St.c)] (.agg ((blkR C t.body m).c C)))
  (hB2:∀ m,RInv 0 0 m→m.st=0→APure Tryz.prog 96 [.agg (m.c C),.slice (t.els.map St.c)] (.agg ((blkR C t.els m).c C))) :
  APure Tryz.prog 133 [.agg (m.c C),.agg t.x] (.agg ((stR C t m).c C)):=by
 refine qak Tryz.func133 Tryz.ntmps133 rfl (by kernel_rfl) rfl rfl fun E h hN hh hu hb=>?_
 have hok':=(qcg _ _).1 hok
 have hg':=(goS_iff _).1 hg
 have hop:=okS_op hok
 simp [go_sem] at hb
 obtain ⟨R,hR⟩:∃ R,stR C t m=R:=⟨_,rfl⟩
 rw [hR]
 rw [stR_eq] at hR
 simp -dsimp [go_sem,hN]
 refine cnd ?_ ?_<;>intro h8<;>simp at h8
 ·
  rw [if_pos h8] at hR
  subst hR
  simp -dsimp [go_sem,hN]
  refine qaa (qbi C m t.max) ?_
  simp -dsimp [go_sem,hN]
 rw [if_neg h8] at hR
 have hgx:=hg'.1 h8
 have hI1:RInv (4097+nodes t.a) 1 m:=hI0.mono (by have:=hgx.2;omega) (Nat.le_refl _)
 have hEv:=c_ref15_eval C hC hf hF t.a m 4097 1 hgx.1 hI1 hm
 have hA:=evR_inv hC hf t.a m 4097 1 hgx.1 hI1 hm
 obtain ⟨x,hx⟩:∃ x,evR C t.a m=x:=⟨_,rfl⟩
 obtain ⟨u,m1⟩:=x
 simp only [hx] at hA hR hEv
 simp -dsimp [go_sem,hN]
 refine qaa hEv ?_
 simp -dsimp [go_sem,hN]
 refine qaa (qbp C m1) ?_
 simp -dsimp [go_sem,hN]
 refine cnd ?_ ?_<;>intro h1<;>simp at h1
 ·
  rw [if_pos h1] at hR
  subst hR
  simp -dsimp [go_sem,hN]
 rw [if_neg (by simp [h1])] at hR
 have hA:=hA h1
 have hA0:=hA.1.mono (Nat.zero_le _) (Nat.zero_le _)
 have hlv:=hA.1.lenV
 have hlp:=hA.1.lenP
 have hlo:=hA.1.lenO
 have hlt:=hA.1.ot
 by_cases ho:t.op=1∨t.op=2
 ·
  rw [if_pos ho] at hR
  subst hR
  rcases ho with ho | ho <;>
  ·
   simp -dsimp [go_sem,hN,ho]
   refine qaa (c_ref15_set m1.vars ⟨t.name,u⟩ (by omega)) ?_
   simp -dsimp [go_sem,hN,ho]
 have ho1:t.op≠1∧t.op≠2:=by omega
 rw [if_neg ho] at hR
 by_cases h4:t.op=4
 ·
  rw [if_pos h4] at hR
  subst hR
  simp -dsimp [go_sem,hN,h4]
  refine qaa (c_ref15_Store C m1 u.s V.nil (by omega) (by omega)) ?_
  simp -dsimp [go_sem,hN]
 rw [if_neg h4] at hR
 by_cases h7:t.op=7
 ·
  rw [if_pos h7] at hR
  subst hR
  simp -dsimp [go_sem,hN,h7]
  refine qaa (c_ref15_Emit C m1 u (by omega)) ?_
  simp -dsimp [go_sem,hN]
 rw [if_neg h7] at hR
 by_cases h5:t.op=5
 ·
  rw [if_pos h5] at hR
  simp -dsimp [go_sem,hN,h5]
  refine cnd ?_ ?_<;>intro h2<;>simp at h2
  ·
   rw [if_pos h2] at hR
   subst hR
   simp -dsimp [go_sem,hN]
   refine qaa (hB1 m1 hA0 h1) ?_
   simp -dsimp [go_sem,hN]
  ·
   rw [if_neg h2] at hR
   subst hR
   simp -dsimp [go_sem,hN]
   refine qaa (hB2 m1 hA0 h1) ?_
   simp -dsimp [go_sem,hN]
 rw [if_neg h5] at hR
 have h36:t.op=3∨t.op=6:=by omega
 have hgb:=hg'.2.1 h36
 have hI2:RInv (0+nodes t.b) 1 m1:=hA.1.mono (by have:=hgb.2;omega) (Nat.le_refl _)
 have hEv2:=c_ref15_eval C hC hf hF t.b m1 0 1 hgb.1 hI2 h1
 have hB:=evR_inv hC hf t.b m1 0 1 hgb.1 hI2 h1
 obtain ⟨y,hy⟩:∃ y,evR C t.b m1=y:=⟨_,rfl⟩
 obtain ⟨v,m2⟩:=y
 simp only [hy] at hB hR hEv2
 simp -dsimp [go_sem,hN,ho1.1,ho1.2,h4,h7,h5]
 refine qaa hEv2 ?_
 simp -dsimp [go_sem,hN]
 refine qaa (qbp C m2) ?_
 simp -dsimp [go_sem,hN]
 refine cnd ?_ ?_<;>intro h2<;>simp at h2
 ·
  rw [if_pos h2] at hR
  subst hR
  simp -dsimp [go_sem,hN]
 rw [if_neg (by simp [h2])] at hR
 have hB:=hB h2
 have hlp2:=hB.1.lenP
 have hlo2:=hB.1.lenO
 by_cases h3:t.op=3
 ·
  rw [if_pos h3] at hR
  subst hR
  simp -dsimp [go_sem,hN,h3]
  refine qaa (c_ref15_Store C m2 u.s v (by omega) (by omega)) ?_
  simp -dsimp [go_sem,hN]
 ·
  rw [if_neg h3] at hR
  have hlp3:=c_ref15_loop C hC hf hF t u.n v.n m2 hA.2.1 hB.2.1 (hB.1.mono (Nat.zero_le _) (Nat.zero_le _)) h2 hB1 (fun m hm h0 h3=>blkR_inv hC hf t.body (d+1) m hok'.2.1 hg'.2.2.1 hm h0 h3)
  rw [hR] at hlp3
  simp -dsimp [go_sem,hN,h3]
  refine qaa hlp3 ?_
  simp -dsimp [go_sem,hN]
end
end Go.Proofs.YtdbpbpmikpdjcaaGreatDoor

set_option maxRecDepth 4000
set_option maxHeartbeats 4000000
namespace Go.Proofs.YtdbpbpmikpdjcaaGreatDoor
open Go Go.Abs Go.Cw
abbrev zRB:List AV:=[.nils,Bo false,.nils,.nils,.nils,.nils,I 0,I 0,.nils,.nils,.nils,.nils,S em,I 0]
section
attribute [local go_sem] RM.c
variable (C:Cfg) (hC:rngC C) (hf:∀ n,i64 n→qa6 (C.fmt n)=true) (hF:∀ n,i64 n→APure Tryz.prog 277 [I n] (S (C.fmt n)))
include hC hf hF
theorem c_ref15_block_of (l:List St) (d:Nat) (m:RM) (hok:okL l d) (hg:∀ x∈l,goS x) (hI0:RInv 0 0 m) (hm:m.st=0)
  (hS:∀ x∈l,∀ m,RInv 8192 1 m→m.st=0→APure Tryz.prog 133 [.agg (m.c C),.agg x.x] (.agg ((stR C x m).c C))) :
  APure Tryz.prog 96 [.agg (m.c C),.slice (l.map St.c)] (.agg ((blkR C l m).c C)):=by
 refine qak Tryz.func96 Tryz.ntmps96 rfl (by kernel_rfl) rfl rfl fun E h hN hh hu hb=>?_
 simp [go_sem] at hb
 obtain ⟨R,hR⟩:∃ R,blkR C l m=R:=⟨_,rfl⟩
 rw [hR]
 simp -dsimp [go_sem,hN]
 refine qat (α:=RM) l.length (fun n mm=>(mm.st=0→RInv 0 0 mm)∧blkR C (l.drop n) mm=R)
  (fun n mm=>⟨[(1,.slice (l.map St.c)),(2,P0 h.length),(4,P0 (h.length+1)),(5,I n)],h++[.cells (mm.c C),.cells zRB]⟩) m ⟨fun _=>hI0,by simpa using hR⟩ (Wk.mk (by simp [hh]) (by simp [go_sem]) (by simp [hu,qab hu,go_sem]) (by simp [go_sem])) ?_
 rintro n mm hn ⟨hRI,hI⟩
 have hw:=qav hn (show _≤68719476736 by first | exact hb.2.1 | exact hb.2 | exact hb.1 | omega)
 simp -dsimp [go_sem,hN]
 refine qaf (qbp C mm) (by simp) ?_
 simp -dsimp [go_sem,hN]
 refine cnd ?_ ?_<;>intro hc<;>simp at hc
 ·
  have hRI:=hRI hc.2
  have hc1:n<l.length:=by omega
  have hTick:=c_ref15_Tick C mm
  have hTi:=fun h2=>tickR_inv hRI h2
  rw [qae hc1,blkR,if_neg (by simp [hc.2])] at hI
  obtain ⟨T,hTe⟩:∃ T,qdk mm=T:=⟨_,rfl⟩
  rw [hTe] at hI hTick hTi
  have hTr:=qbp C T
  simp -dsimp [go_sem,hN]
  refine qaa hTick ?_
  simp -dsimp [go_sem,hN]
  refine qaa hTr ?_
  simp -dsimp [go_sem,hN]
  refine cnd ?_ ?_<;>intro h2<;>simp at h2
  ·
   have hT:=hTi h2
   rw [if_pos h2] at hI
   have hS1:=hS l[n] (List.getElem_mem hc1) T hT h2
   have hS2:=stR_inv hC hf l[n] d T (hok _ (List.getElem_mem hc1)) (hg _ (List.getElem_mem hc1)) hT h2
   obtain ⟨B,hBe⟩:∃ B,stR C l[n] T=B:=⟨_,rfl⟩
   rw [hBe] at hI hS1 hS2
   simp only [RM.c] at hS1
   simp -dsimp [go_sem,hN,hc1]
   refine qah 5 mixed (by kernel_rfl) (by kernel_rfl) ?_
   simp -dsimp [go_sem,hN,hc1]
   refine qaa hS1 ?_
   simp -dsimp [go_sem,hN,hw]
   refine ⟨B,⟨hS2,hI⟩,(Wk.mk (by simp [hh]) (by simp [go_sem]) (by simp [hu,qab hu,go_sem]) (by simp [go_sem]))⟩
  ·
   rw [if_neg h2] at hI
   simp -dsimp [go_sem,hN,hw]
   refine ⟨hc1,_,⟨fun h3=>absurd h3 h2,hI⟩,(Wk.mk (by simp [hh]) (by simp [go_sem]) (by simp [hu,qab hu,go_sem]) (by simp [go_sem]))⟩
 ·
  have he:blkR C (l.drop n) mm=mm:=by
   by_cases h2:mm.st=0
   · rw [List.drop_eq_nil_of_le (by by_cases hn2:n<l.length;exact absurd h2 (hc (by omega));omega),blkR]
   · exact blkR_dead C _ h2
  rw [he] at hI
  subst hI
  simp -dsimp [go_sem,hN]
mutual
theorem c_ref15_stmt (t:St) (d:Nat) (m:RM) (hok:okS t d) (hg:goS t) (hI0:RInv 8192 1 m) (hm:m.st=0):APure Tryz.prog 133 [.agg (m.c C),.agg t.x] (.agg ((stR C t m).c C)):=by
 have hs1:SizeOf.sizeOf t.body<SizeOf.sizeOf t:=St.body_le t
 have hs2:SizeOf.sizeOf t.els<SizeOf.sizeOf t:=St.els_le t
 have hok':=(qcg _ _).1 hok
 have hg':=(goS_iff _).1 hg
 exact c_ref15_stmt_of C hC hf hF t d m hok hg hI0 hm (fun m1 hA h1=>c_ref15_block t.body (d+1) m1 hok'.2.1 hg'.2.2.1 hA h1) (fun m1 hA h1=>c_ref15_block t.els (d+1) m1 hok'.2.2 hg'.2.2.2 hA h1)
termination_by SizeOf.sizeOf t
theorem c_ref15_block (l:List St) (d:Nat) (m:RM) (hok:okL l d) (hg:∀ x∈l,goS x) (hI0:RInv 0 0 m) (hm:m.st=0):APure Tryz.prog 96 [.agg (m.c C),.slice (l.map St.c)] (.agg ((blkR C l m).c C)) :=
 c_ref15_block_of C hC hf hF l d m hok hg hI0 hm (fun x hx m1 hI1 h1=>by
  have hlt:SizeOf.sizeOf x<SizeOf.sizeOf l:=List.sizeOf_lt_of_mem hx
  exact c_ref15_stmt x d m1 (hok _ hx) (hg _ hx) hI1 h1)
termination_by SizeOf.sizeOf l
end
end
end Go.Proofs.YtdbpbpmikpdjcaaGreatDoor
