/- Part 44 of a proof: W120, W103, W104, W105, W106, W107, W108, W109, W110, W111, W112, W113, W114, W115, W116, W117, W118, W31, W124 -/
import Derived.Shelf.Small.Strs
import Derived.Shelf.Strconv.Itoa4
import Derived.Lib.ItoaLen
import Derived.Test.YtbimdamecieomaaGreatDoorQ14
import Derived.Test.YtbimdamecieomaaGreatDoorQ15
import Derived.Test.YtbimdamecieomaaGreatDoorQ16
import Derived.Test.YtbimdamecieomaaGreatDoorQ17
import Derived.Test.YtbimdamecieomaaGreatDoorQ19
import Derived.Test.YtbimdamecieomaaGreatDoorQ21
import Derived.Test.YtbimdamecieomaaGreatDoorQ22
import Derived.Test.YtbimdamecieomaaGreatDoorQ23
import Derived.Test.YtbimdamecieomaaGreatDoorQ25
import Derived.Test.YtbimdamecieomaaGreatDoorQ28
import Derived.Test.YtbimdamecieomaaGreatDoorQ29
import Derived.Test.YtbimdamecieomaaGreatDoorQ31
import Derived.Test.YtbimdamecieomaaGreatDoorQ38
import Derived.Test.YtbimdamecieomaaGreatDoorQ43
set_option linter.all false

set_option maxRecDepth 4000
set_option maxHeartbeats 2000000
namespace Go.Proofs.YtbimdamecieomaaGreatDoor
open Go Go.Abs Go.Cw
variable {tT:TypeId} {tx:Nat×Nat} {g:Nat}
theorem c_ls_Round0 (procs:List Proc) (s:List Pr) (l:List Txn) (choices:List Int) (h:qaa) (hg:h[g]?=some (tabO tT tx)) (hB:BatchIn qb6 procs l) (hs:rngL s) (hL:s.length+192 * l.length≤60000000000) (hl:l.length≤1048576) :
  ACalls Tryz.prog 8 [.slice (procs.map Proc.c),.slice (s.map Pr.c),.slice (l.map Txn.c),.slice (choices.map qb1)] h fun r h'=>r=.ret (.tuple [.slice ((qa5 qb6 procs s l).1.map Pr.c),.own (h.length+5) l.length,.slice ((lsOrd l choices l.length).map qb1)])∧h'=h++[.none,.none,.none,.none,.none,.uarr 63 8 ((qa5 qb6 procs s l).2.map Eff.c)]:=by
 refine qbu Tryz.func8 rfl (by kernel_rfl) (by simp [Tryz.ntmps8]) ?_;intro E hN hh hu hb hb' hua;rw [Tryz.ntmps8] at hN;have hgl:g<h.length:=(List.getElem?_eq_some_iff.1 hg).1;have hg':∀ l:qaa,(h++l)[g]?=some (tabO tT tx):=fun l=>by rw [List.getElem?_append_left hgl];exact hg
 simp [go_sem] at hb;have hfl:=fts_len l;refine qau (qcq ?_);simp [go_sem,hN];refine qau (qcq ?_);simp [go_sem,hN];refine awp_seqW (e1:=⟨[(1,.slice (s.map Pr.c)),(3,.slice (choices.map qb1)),(4,P0 h.length),(6,P0 (h.length+1)),(11,P0 (h.length+2))],h++[.cells [.slice (procs.map Proc.c)],.cells [.slice (l.map Txn.c)],.cells (reqT (ftsL l) l.length).c]⟩) ?_ ?_
 ·
  simp -dsimp [go_sem,hN];refine qaj l.length (fun n=>True) (fun n=>⟨[(1,.slice (s.map Pr.c)),(3,.slice (choices.map qb1)),(4,P0 h.length),(6,P0 (h.length+1)),(11,P0 (h.length+2)),(20,.slice (l.map Txn.c)),(21,I l.length),(22,I n)],h++[.cells [.slice (procs.map Proc.c)],.cells [.slice (l.map Txn.c)],.cells (reqT (ftsL l) n).c]⟩) trivial ((normc_wk E _ (p:=h.length+2) (xs:=[.nils,.nils]) (by simp)).trans ?_) ?_
  · exact (Wk.mk (by simp [hh]) (by simp [go_sem,reqT,LT.c,qa4,AV.norm]) (by simp [hu,qar hu,go_sem,reqT,LT.c]) (by simp [go_sem]))
  intro n hn _;have hw:=qa6 hn (show _≤68719476736 by omega);have hT:=reqT_in (ftsL l) n (by omega);obtain ⟨hp1,hp2⟩:=reqT_pre (ftsL l) n;simp -dsimp [go_sem,hN,LT.c];refine cnd ?_ ?_<;>intro hc<;>simp at hc
  ·
   have hnx:reqT (ftsL l) (n+1)=⟨(reqT (ftsL l) n).glob++[⟨(n:Int),(effF l[n].ft).all⟩],reqQ n (effF l[n].ft) (reqT (ftsL l) n).qs⟩:=by
    simp only [reqT];rw [fE_get (by omega)];simp
   rw [hnx];obtain ⟨T,hTe⟩:∃ T,reqT (ftsL l) n=T:=⟨_,rfl⟩
   rw [hTe] at hT hp1 hp2;simp only [hTe];obtain ⟨gl,qs⟩:=T;have h1:=hT.globLen;have h2:=hT.qsLen;have h3:=hT.reqsLen;rw [hfl] at h1 h2 h3;have hk:=footK_asc (effF_ok l[n].ft);have hreq:=c_lt_Request gl qs n (effF l[n].ft) (128 * l.length) hT.valid (effF_ok _) (by omega) hp1 (fun m hm _=>hp2 _ (List.getElem_mem hm)) (by simp only at h1;omega) h2 h3 (by omega);simp -dsimp [go_sem,hN,hc,Txn.c];refine awp_drawG 10 mixed (by kernel_rfl) ?_;simp -dsimp [go_sem,hN,hc,Txn.c];refine tdcall (c_ls_locks l[n].ft) (by simp) ?_;simp -dsimp [go_sem,hN];refine tdcall hreq (by simp) ?_;simp -dsimp [go_sem,hN,hw,LT.c];exact ⟨by simp [sepD,List.zipIdx]<;>kernel_rfl,wkA⟩
  ·
   have hn2:n=l.length:=by omega
   subst hn2;simp -dsimp [go_sem,hN];exact Wk.slots (by simp [wkS,go_sem])
 refine qau (qai _ _ _ ?_);simp -dsimp [go_sem,hN];refine ⟨by omega,?_⟩;refine qau (qb5 [_,_] _ ?_);simp [go_sem,hN];intro c a w sm k;refine wp_makeT sm k (el:=63) (x:=.tmp 40) (d1:=41) (n:=l.length) (sz:=8) (zr:=[I 0,I 0,.slice [],.slice [],.slice [],.slice [],S em,I 0]) rfl rfl (by omega) rfl (by simp [go_sem]) (by simp [go_sem]) (by simp [go_sem]) (by omega) (by simp [go_sem]) (by simp [go_sem]) (by simp [go_sem,nilz]) (by simp [go_sem]) (by simp [go_sem]) (by omega) fun c' a' w' s' k'=>?_;refine qbd _ [_,_,_] _ rfl ?_ c' a' w' s' k';simp [go_sem,hN];clear s' k' sm k;apply qai;simp -dsimp [go_sem,hN];refine qaj l.length (fun n=>True) (fun n=>⟨[(3,.slice (choices.map qb1)),(11,P0 (h.length+2)),(14,P0 (h.length+4)),(15,P0 (h.length+6)),(16,P0 (h.length+7)),(17,.fn (.func 23) [] [P0 h.length,P0 (h.length+4),P0 (h.length+1),P0 (h.length+6),P0 (h.length+2),P0 (h.length+7)]),(43,.slice (l.map Txn.c)),(44,I l.length),(45,I n)],
  lsH h procs l (Cw.stepT (ftsL l) (qdy (ftsL l) choices n)) (lsX qb6 procs s l choices n).1 (lsX qb6 procs s l choices n).2 (lsOrd l choices n)⟩) trivial ((normc_wk E _ (p:=h.length+4) (xs:=[.own (h.length+3) s.length]) (by simp)).trans ((nilc_wk E _ (p:=h.length+7) (j:=0) (t:=3) (sz:=1) (xs:=[.nils]) (by simp) (by simp)).trans ?_)) ?_
 ·
  rw [lsX_zero];exact (Wk.mk (by simp [hh]) (by simp [go_sem,qa4,AV.norm,zeroE,Eff.c,em,nilz,qdy,Cw.stepT,hfl,LT.c]) (by simp [hu,qar hu,go_sem,LT.c]) (by simp [go_sem]))
 intro n hn _;have hw:=qa6 hn (show _≤68719476736 by omega);obtain ⟨x1,x2,x3,x4⟩:=lsX_ok (choices:=choices) hB hs n hn;have hT:=stepT_in (ftsL l) (qdy (ftsL l) choices n);have hrd:=stepT_ready (ftsL l) (qdy (ftsL l) choices n);simp -dsimp [go_sem,hN,LT.c];refine cnd ?_ ?_<;>intro hc<;>simp at hc
 ·
  obtain ⟨j,q,hS⟩:=ls_step (fs:=ftsL l) (choices:=choices) (n:=n) (by omega);have hjl:j<l.length:=by have:=hS.lt;omega
  have hxs:=lsX_succ (fmt:=qb6) (procs:=procs) (s:=s) hS hjl;have hix:=(glob_idx hT.tab j).2 hS.left;obtain ⟨z1,z2,z3,z4,z5,z6,z7⟩:=hS;rw [hxs,z7,stepT_snoc];have h1:=hT.globLen;have h2:=hT.qsLen;have h3:=hT.reqsLen;have h4:=hT.sz;rw [hfl] at h1 h2 h3 h4;have hval:=hT.valid;obtain ⟨T,hTe⟩:∃ T,Cw.stepT (ftsL l) (qdy (ftsL l) choices n)=T:=⟨_,rfl⟩
  rw [hTe] at h1 h2 h3 h4 hval hix hrd;simp only [hTe];obtain ⟨X,hX⟩:∃ X,lsX qb6 procs s l choices n=X:=⟨_,rfl⟩
  rw [hX] at x1 x2 x3;simp only [hX];have hlo:lsOrd l choices n=(qdy (ftsL l) choices n).map Int.ofNat:=rfl;have hlo1:lsOrd l choices (n+1)=(qdy (ftsL l) choices n).map Int.ofNat++[(j:Int)]:=by show (qdy (ftsL l) choices (n+1)).map Int.ofNat=_;rw [z7,List.map_append];rfl
  simp only [hlo,hlo1];clear hlo hlo1;obtain ⟨O,hO⟩:∃ O,qdy (ftsL l) choices n=O:=⟨_,rfl⟩
  simp only [hO] at x4 z1 z2 z3 z4 z6 z7 hrd ⊢;obtain ⟨c,hcd⟩:∃ c,lkCand (ftsL l) O=c:=⟨_,rfl⟩
  simp only [hcd] at z1 z2 z3 z4 hrd;have hgc:c[q]=j:=(List.getElem?_eq_some_iff.1 z4).2;have hready:=c_lt_Ready T (by omega) hval;rw [hrd] at hready;have hch:=c_ls_choose choices n c.length z1;rw [z2] at hch;have hrun:=c_ls_Round1 (g:=g) (tT:=tT) (tx:=tx) procs X.1 l j T X.2 (O.map Int.ofNat) h hg hjl (by omega) (runIn_one hB x1 (List.getElem_mem hjl)) (by omega) (by simp;omega) hval hix (by omega) (by omega) (fun x hx=>by have:=h3 x hx;omega);obtain ⟨Y,hY⟩:∃ Y,oneS qb6 procs X.1 l[j]=Y:=⟨_,rfl⟩
  rw [hY] at hrun ⊢;simp -dsimp [go_sem,hN,LT.c];refine qab hready ?_;simp -dsimp [go_sem,hN];refine cnd ?_ ?_<;>intro hz<;>simp at hz
  · rw [hz] at z1;simp at z1
  simp -dsimp [go_sem,hN];refine qab hch ?_;simp -dsimp [go_sem,hN,z3,hgc,qb1];refine qam hrun ?_;rintro r h' ⟨rfl,rfl⟩;simp -dsimp [go_sem,hN,hw];exact ⟨hc,Wk.slots (by simp [wkS,go_sem])⟩
 ·
  have hn2:n=l.length:=by omega
  subst hn2;rw [lsX_serial hB hs] at x3 ⊢;simp -dsimp [go_sem,hN];refine qan 5 mixed (by kernel_rfl) (by kernel_rfl) ?_;simp -dsimp [go_sem,hN,x3,x4];exact ⟨_,.refl _,h++[.none,.none,.none,.none,.none,.uarr 63 8 ((qa5 qb6 procs s l).2.map Eff.c)],by simp [go_sem],by simp [lsH,go_sem],by simp,by simp [qar hu,go_sem],rfl,rfl⟩
theorem c_ls_Round (procs:List Proc) (s:List Pr) (l:List Txn) (choices:List Int) (h:qaa) (hg:h[g]?=some (tabO tT tx)) (hB:BatchIn qb6 procs l) (hs:rngL s) (hL:s.length+192 * l.length≤60000000000) (hl:l.length≤1048576) :
  ACalls Tryz.prog 8 [.slice (procs.map Proc.c),.slice (s.map Pr.c),.slice (l.map Txn.c),.slice (choices.map qb1)] h fun r h'=>r=.ret (.tuple [.slice ((qa5 qb6 procs s l).1.map Pr.c),.slice ((qa5 qb6 procs s l).2.map Eff.c),.slice ((lsOrd l choices l.length).map qb1)])∧h'=h:=by
 have hlen:(qa5 qb6 procs s l).2.length=l.length:=roundS_len l;have core:=c_ls_Round0 (g:=g) (tT:=tT) (tx:=tx) procs s l choices h hg hB hs hL hl;refine ⟨core.1,fun cx wx vx hsx hax=>?_⟩;have hu:=hsx.hUnder;refine (acalls_ret (fun E hE=>?_) core).2 cx wx vx hsx hax;refine (qbz E _ (i:=h.length+5) (t:=63) (sz:=8) (rows:=(qa5 qb6 procs s l).2.map Eff.c) (by simp)).trans ?_;simp;refine (norm_wk E _).trans ?_;exact Wk.mk (by simp [hE]) (by simpa [go_sem] using hwk.app0 _) (by simpa using hu) (by simp [go_sem,AV.norm,qa4,wkT,hlen])
end Go.Proofs.YtbimdamecieomaaGreatDoor

set_option maxRecDepth 4000
set_option maxHeartbeats 2000000
namespace Go.Proofs.YtbimdamecieomaaGreatDoor
open Go Go.Abs Go.Cw
def posV:Option (List Int)→AV
 | none=>.tuple [.slice [],Bo false]
 | some m=>.tuple [.slice (m.map qb1),Bo true]
theorem c_ls_positions (order:List Int) (N:Nat) (hl:N≤1048576):APure Tryz.prog 40 [I N,.slice (order.map qb1)] (posV (posF order N)):=by
 refine qcz Tryz.func40 rfl (by kernel_rfl) (by simp [Tryz.ntmps40]) (by unfold posV;split<;>rfl) ?_;intro E h hN hh hu hb;rw [Tryz.ntmps40] at hN;simp [go_sem] at hb;obtain ⟨r,hr⟩:∃ r,posF order N=r:=⟨_,rfl⟩
 rw [hr];unfold posF at hr;refine qau (qcq ?_);simp [go_sem,hN];refine qau (qai _ _ _ ?_);simp -dsimp [go_sem,hN];refine cnd ?_ ?_<;>intro h0<;>simp at h0
 ·
  have h0':¬ order.length=N:=by omega
  rw [if_neg h0'] at hr;subst hr;simp -dsimp [go_sem,hN,posV]
 have h0':order.length=N:=by omega
 rw [if_pos h0'] at hr;simp -dsimp [go_sem,hN];refine qau (qb5 [_] _ ?_);simp [go_sem,hN];intro c a w sm k;refine wp_makeT sm k (el:=3) (x:=.tmp 14) (d1:=15) (n:=N) (sz:=1) (zr:=[I 0]) rfl rfl (by omega) rfl (by simp [go_sem]) (by simp [go_sem]) (by simp [go_sem]) (by omega) (by simp [go_sem]) (by simp [go_sem]) (by simp [go_sem,nilz]) (by simp [go_sem]) (by simp [go_sem]) (by omega) fun c' a' w' s' k'=>?_;refine qbd _ [_,_] _ rfl ?_ c' a' w' s' k';simp [go_sem,hN];clear s' k' sm k;refine awp_seqW (e1:=⟨[(0,I N),(1,.slice (order.map qb1)),(6,.own h.length N)],h++[.uarr 3 1 ((List.replicate N (-1:Int)).map qb1)]⟩) ?_ ?_
 ·
  simp -dsimp [go_sem,hN];refine qaj N (fun n=>True) (fun n=>⟨[(0,I N),(1,.slice (order.map qb1)),(6,.own h.length N),(17,I N),(18,I n)],h++[.uarr 3 1 ((mN N n).map qb1)]⟩) trivial ?_ ?_
  ·
   rw [mN_0,List.map_replicate];exact (Wk.mk (by simp [hh]) (by simp [go_sem,qb1]) (by simp [hu,qar hu,go_sem]) (by simp [go_sem]))
  intro n hn _;have hw:=qa6 hn (show _≤68719476736 by omega);have hal:=mN_len hn;simp -dsimp [go_sem,hN];refine cnd ?_ ?_<;>intro hc<;>simp at hc
  ·
   have hset:=mN_set hc;simp -dsimp [go_sem,hN,hc,hal,hw,← hset,qb1];exact wkA
  have hn2:n=N:=by omega
  subst hn2;rw [mN_end];simp -dsimp [go_sem,hN];exact Wk.slots (by simp [wkS,go_sem])
 refine awp_seqI (ι:=List Int) (fun m=>m.length=N∧some m=r) (fun m=>⟨[(6,.own h.length N)],h++[.uarr 3 1 (m.map qb1)]⟩) ?_ ?_
 rotate_left
 ·
  rintro m ⟨hm,rfl⟩;refine AWp.wk (qbz E ⟨[(6,.own h.length N)],h++[.uarr 3 1 (m.map qb1)]⟩ (i:=h.length) (t:=3) (sz:=1) (rows:=m.map qb1) (by simp)) ?_;apply qai;simp -dsimp [go_sem,hN,posV,hm]
 simp -dsimp [go_sem,hN];refine qbh (α:=List Int) order.length (fun j m=>m.length=N∧atF N (order.drop j) j m=r) (fun j m=>⟨[(0,I N),(6,.own h.length N),(25,.slice (order.map qb1)),(26,I order.length),(27,I j)],h++[.uarr 3 1 (m.map qb1)]⟩) (List.replicate N (-1)) ⟨by simp,by simpa using hr⟩ ?_ ?_
 · exact wkA
 rintro i m hi ⟨hm,hI⟩;have hw:=qa6 hi (show _≤68719476736 by omega);simp -dsimp [go_sem,hN];refine cnd ?_ ?_<;>intro hc<;>simp at hc
 ·
  rw [qah hc,atF] at hI;obtain ⟨k,hk⟩:∃ k,order[i]=k:=⟨_,rfl⟩
  rw [hk] at hI;by_cases h1:k<0
  ·
   rw [if_pos (.inl h1)] at hI;subst hI;simp -dsimp [go_sem,hN,hc,qb1,hk,h1,posV]
  obtain ⟨j,rfl⟩:=Int.eq_ofNat_of_zero_le (show 0≤k by omega);rw [Int.toNat_natCast] at hI;by_cases h2:(N:Int)≤(j:Int)
  ·
   rw [if_pos (.inr (.inl h2))] at hI;subst hI;simp -dsimp [go_sem,hN,hc,qb1,hk,h1,h2,posV]
  have hj:j<N:=by omega
  have hjm:j<m.length:=by omega
  have hg:m.getD j (-1)=m[j]:=by rw [List.getD_eq_getElem?_getD,List.getElem?_eq_getElem hjm];rfl
  by_cases h3:0≤m[j]
  ·
   rw [if_pos (.inr (.inr (by rw [hg];exact h3)))] at hI;subst hI;simp -dsimp [go_sem,hN,hc,qb1,hk,h1,h2,hj,hjm,hm,h3,posV]
  rw [if_neg (by rw [hg];simp only [not_or];exact ⟨h1,h2,h3⟩)] at hI;simp -dsimp [go_sem,hN,hc,qb1,hk,h1,h2,hj,hjm,hm,h3,hw];exact ⟨m.set j (i:Int),⟨by simp [hm],hI⟩,Wk.mk (by simp [hh]) (by simp [go_sem,qb1]) (by simp [hu,qar hu,go_sem]) (by simp [go_sem])⟩
 ·
  rw [List.drop_eq_nil_of_le (by omega),atF] at hI;subst hI;simp -dsimp [go_sem,hN];exact ⟨m,⟨hm,rfl⟩,Wk.slots (by simp [wkS,go_sem])⟩
end Go.Proofs.YtbimdamecieomaaGreatDoor

set_option maxRecDepth 4000
set_option maxHeartbeats 2000000
namespace Go.Proofs.YtbimdamecieomaaGreatDoor
open Go Go.Abs Go.Cw
theorem c_ls_Legal (fs:List Foot) (order:List Int) (hl:fs.length≤1048576):APure Tryz.prog 15 [.slice (fs.map Foot.c),.slice (order.map qb1)] (Bo (qcs fs order)):=by
 refine qaz Tryz.func15 Tryz.ntmps15 rfl (by kernel_rfl) rfl rfl fun E h hN hh hu hb=>?_;rw [legal_pos];have hpl:=@posF_len order;obtain ⟨r,hr⟩:∃ r,posF order fs.length=r:=⟨_,rfl⟩
 simp -dsimp [go_sem,hN];refine qab (c_ls_positions order fs.length hl) ?_;rw [hr];rcases r with _ | m
 · simp -dsimp [go_sem,hN,posV]
 have hm:=hpl hr;simp -dsimp [go_sem,hN,posV];have hC:=fun j i (hj:j<fs.length) (hi:i<fs.length)=>show qc4 fs i j=qci fs[i] fs[j] by
  unfold qc4;rw [List.getElem?_eq_getElem hj,List.getElem?_eq_getElem hi]
 refine qaj fs.length (fun j=>earlyUp m (qc4 fs) j=0) (fun j=>⟨[(0,.slice (fs.map Foot.c)),(5,.slice (m.map qb1)),(19,I fs.length),(20,I j)],h⟩) (earlyUp_0 _ _) wkA ?_;intro j hj hI;have hw:=qa6 hj (show _≤68719476736 by omega);simp -dsimp [go_sem,hN];refine cnd ?_ ?_<;>intro hc<;>simp at hc
 ·
  simp -dsimp [go_sem,hN];refine qaj j (fun i=>cI m (qc4 fs) j i=0) (fun i=>⟨[(0,.slice (fs.map Foot.c)),(5,.slice (m.map qb1)),(7,I j),(19,I fs.length),(20,I j),(23,I j),(24,I i)],h⟩) (cI_0 _ _ _) wkA ?_;intro i hi hI2;have hw2:=qa6 hi (show _≤68719476736 by omega);simp -dsimp [go_sem,hN];refine cnd ?_ ?_<;>intro hd<;>simp at hd
  ·
   have hil:i<fs.length:=by omega
   have hjm:j<m.length:=by omega
   have him:i<m.length:=by omega
   have hg1:m.getD j (-1)=m[j]:=by rw [List.getD_eq_getElem?_getD,List.getElem?_eq_getElem hjm];rfl
   have hg2:m.getD i (-1)=m[i]:=by rw [List.getD_eq_getElem?_getD,List.getElem?_eq_getElem him];rfl
   have hcs:=cI_succ m (qc4 fs) j i;have heh:=@early_hit m (qc4 fs) i j fs.length hd hc;rw [hC j i hc hil,hg1,hg2] at hcs heh;simp -dsimp [go_sem,hN,hc,hil,hjm,him,hm,qb1];refine qan 18 mixed (by kernel_rfl) (by kernel_rfl) ?_;simp -dsimp [go_sem,hN,hc,hil,hjm,him,hm,qb1,Foot.c];refine qag (c_fp_Conflicts fs[i] fs[j]) (by simp) ?_;simp -dsimp [go_sem,hN];refine cnd (fun h1=>?_) (fun h1=>?_)
   ·
    have h2:=heh (by simpa using h1);simp -dsimp [go_sem,hN];simp [h2]
   ·
    rw [if_neg (by simpa using h1),hI2] at hcs;simp -dsimp [go_sem,hN,hw2];exact ⟨hd,hcs,wkA⟩
  ·
   have e:i=j:=by omega
   subst e;simp -dsimp [go_sem,hN,hw];refine ⟨hc,?_,wkA⟩;rw [earlyUp_succ,hI,hI2]
 ·
  have hj2:j=fs.length:=by omega
  subst hj2;simp -dsimp [go_sem,hN];simp [hI]
end Go.Proofs.YtbimdamecieomaaGreatDoor

set_option maxRecDepth 4000
set_option maxHeartbeats 2000000
namespace Go.Proofs.YtbimdamecieomaaGreatDoor
open Go Go.Abs Go.Cw
end Go.Proofs.YtbimdamecieomaaGreatDoor

set_option maxRecDepth 4000
set_option maxHeartbeats 2000000
namespace Go.Proofs.YtbimdamecieomaaGreatDoor
open Go Go.Abs Go.Cw
end Go.Proofs.YtbimdamecieomaaGreatDoor

set_option maxRecDepth 4000
set_option maxHeartbeats 2000000
namespace Go.Proofs.YtbimdamecieomaaGreatDoor
open Go Go.Abs Go.Cw
end Go.Proofs.YtbimdamecieomaaGreatDoor

set_option maxRecDepth 4000
set_option maxHeartbeats 2000000
namespace Go.Proofs.YtbimdamecieomaaGreatDoor
open Go Go.Abs Go.Cw
end Go.Proofs.YtbimdamecieomaaGreatDoor

set_option maxRecDepth 4000
set_option maxHeartbeats 2000000
namespace Go.Proofs.YtbimdamecieomaaGreatDoor
open Go Go.Abs Go.Cw
end Go.Proofs.YtbimdamecieomaaGreatDoor

set_option maxRecDepth 4000
set_option maxHeartbeats 2000000
namespace Go.Proofs.YtbimdamecieomaaGreatDoor
open Go Go.Abs Go.Cw
end Go.Proofs.YtbimdamecieomaaGreatDoor

set_option maxRecDepth 4000
set_option maxHeartbeats 2000000
namespace Go.Proofs.YtbimdamecieomaaGreatDoor
open Go Go.Abs Go.Cw
end Go.Proofs.YtbimdamecieomaaGreatDoor

set_option maxRecDepth 4000
set_option maxHeartbeats 2000000
namespace Go.Proofs.YtbimdamecieomaaGreatDoor
open Go Go.Abs Go.Cw
end Go.Proofs.YtbimdamecieomaaGreatDoor

set_option maxRecDepth 4000
set_option maxHeartbeats 2000000
namespace Go.Proofs.YtbimdamecieomaaGreatDoor
open Go Go.Abs Go.Cw
end Go.Proofs.YtbimdamecieomaaGreatDoor

set_option maxRecDepth 4000
set_option maxHeartbeats 2000000
namespace Go.Proofs.YtbimdamecieomaaGreatDoor
open Go Go.Abs Go.Cw
end Go.Proofs.YtbimdamecieomaaGreatDoor

set_option maxRecDepth 4000
set_option maxHeartbeats 2000000
namespace Go.Proofs.YtbimdamecieomaaGreatDoor
open Go Go.Abs Go.Cw
end Go.Proofs.YtbimdamecieomaaGreatDoor

set_option maxRecDepth 4000
set_option maxHeartbeats 2000000
namespace Go.Proofs.YtbimdamecieomaaGreatDoor
open Go Go.Abs Go.Cw
theorem c_law24_sameInts (l l':List Int):APure Tryz.prog 12 [.slice (l.map qb1),.slice (l'.map qb1)] (Bo (decide (l=l'))):=by
 refine qaz Tryz.func12 Tryz.ntmps12 rfl (by kernel_rfl) rfl rfl fun E h hN hh hu hb=>?_;simp [go_sem] at hb;simp -dsimp [go_sem,hN];refine cnd ?_ ?_<;>intro h0<;>simp at h0
 ·
  simp -dsimp [go_sem,hN];intro e;subst e;omega
 have h0:l.length=l'.length:=by omega
 simp -dsimp [go_sem,hN];refine qaj l.length (fun n=>decide (l.drop n=l'.drop n)=decide (l=l')) (fun n=>⟨[(0,.slice (l.map qb1)),(1,.slice (l'.map qb1)),(5,I n)],h⟩) (by simp) wkA ?_;intro n hn hI;have hw:=qa6 hn hb.1.1;simp -dsimp [go_sem,hN];refine cnd ?_ ?_<;>intro hc<;>simp at hc
 ·
  have hc':n<l'.length:=by omega
  rw [qah hc,qah hc'] at hI;simp -dsimp [go_sem,hN,hc,hc'];refine qan 8 mixed (by kernel_rfl) (by kernel_rfl) ?_;simp -dsimp [go_sem,hN,hc,hc',qb1];refine cnd ?_ ?_<;>intro hg<;>simp at hg
  ·
   simp -dsimp [go_sem,hN];intro e;subst e;exact hg rfl
  ·
   have e:l[n]=l'[n]:=by omega
   simp -dsimp [go_sem,hN,hw];simp only [e,List.cons.injEq,true_and] at hI;exact ⟨hc,by simpa using hI,wkA⟩
 ·
  rw [List.drop_eq_nil_of_le (by omega),List.drop_eq_nil_of_le (by omega)] at hI;simp -dsimp [go_sem,hN,← hI]
theorem sameL_lenK {α:Type} {f:α→α→Bool}:∀ (a b:List α),qcw f a b=true→a.length=b.length
 | [],[],_=>rfl
 | x::a,y::b,h=>by
  rw [qcw,Bool.and_eq_true] at h;simp [sameL_lenK a b h.2]
 | [],_::_,h=>by simp [qcw] at h
 | _::_,[],h=>by simp [qcw] at h
theorem c_law24_sameEffects (a b:List Eff):APure Tryz.prog 11 [.slice (a.map Eff.c),.slice (b.map Eff.c)] (Bo (qcw sameE a b)):=by
 refine qaz Tryz.func11 Tryz.ntmps11 rfl (by kernel_rfl) rfl rfl fun E h hN hh hu hb=>?_;simp [go_sem] at hb;simp -dsimp [go_sem,hN];refine cnd ?_ ?_<;>intro h0<;>simp at h0
 ·
  have h1:qcw sameE a b=false:=by
   rcases Bool.eq_false_or_eq_true (qcw sameE a b) with g | g
   · exact (h0 (by exact_mod_cast sameL_lenK a b g)).elim
   · exact g
  simp -dsimp [go_sem,hN,h1]
 have h0:a.length=b.length:=by omega
 simp -dsimp [go_sem,hN];refine qaj a.length (fun n=>qcw sameE (a.drop n) (b.drop n)=qcw sameE a b) (fun n=>⟨[(0,.slice (a.map Eff.c)),(1,.slice (b.map Eff.c)),(5,I n)],h⟩) (by simp) wkA ?_;intro n hn hI;have hw:=qa6 hn (show _≤68719476736 by omega);simp -dsimp [go_sem,hN];refine cnd ?_ ?_<;>intro hc<;>simp at hc
 ·
  have hc2:n<b.length:=by omega
  rw [qah hc,qah hc2,qcw] at hI;simp -dsimp [go_sem,hN,hc,hc2];refine qan 8 mixed (by kernel_rfl) (by kernel_rfl) ?_;simp -dsimp [go_sem,hN,hc,hc2,Eff.c];refine qab (c_ref15_Same a[n] b[n]) ?_;simp -dsimp [go_sem,hN];refine cnd ?_ ?_<;>intro h1<;>simp at h1
  ·
   rw [h1] at hI;simp -dsimp [go_sem,hN,← hI]
  ·
   rw [h1] at hI;simp -dsimp [go_sem,hN,hw];exact ⟨hc,by simpa using hI,wkA⟩
 ·
  rw [List.drop_eq_nil_of_le (show a.length≤n by omega),List.drop_eq_nil_of_le (show b.length≤n by omega),qcw] at hI;simp -dsimp [go_sem,hN,← hI]
end Go.Proofs.YtbimdamecieomaaGreatDoor

set_option maxRecDepth 4000
set_option maxHeartbeats 2000000
namespace Go.Proofs.YtbimdamecieomaaGreatDoor
open Go Go.Abs Go.Cw
theorem c_law24_foots (l:List Txn):APure Tryz.prog 20 [.slice (l.map Txn.c)] (.slice ((l.map fun x=>effF x.ft).map Foot.c)):=by
 refine qaz Tryz.func20 Tryz.ntmps20 rfl (by kernel_rfl) rfl rfl fun E h hN hh hu hb=>?_;simp [go_sem] at hb;simp -dsimp [go_sem,hN];obtain ⟨G,hG⟩:∃ G:Nat→List Foot,G=fun n=>(l.take n).map fun x=>effF x.ft:=⟨_,rfl⟩
 have hG0:G 0=[]:=by rw [hG];simp
 have hG1:∀ n (hn:n<l.length),G (n+1)=G n++[effF l[n].ft]:=fun n hn=>by
  rw [hG];simp only [List.take_succ_eq_append_getElem hn,List.map_append,List.map_cons,List.map_nil]
 have hGl:∀ n,n≤l.length→(G n).length=n:=fun n hn=>by
  rw [hG,List.length_map,List.length_take];omega
 have hGe:G l.length=l.map fun x=>effF x.ft:=by rw [hG];simp
 rw [← hGe];have hfc:∀ f:Foot,f.c=[Bo f.all,.slice (f.reads.map qbf),.slice (f.writes.map qbf)]:=fun _=>rfl;refine qaj l.length (fun n=>True) (fun n=>⟨[(0,.slice (l.map Txn.c)),(3,.own h.length (G n).length),(4,I n)],h++[.arr 43 3 ((G n).map Foot.c)]⟩) trivial ((nil_wk E _ 3 43 3 (by simp [go_sem])).trans (by rw [hG0];exact wkA)) ?_;intro n hn _;have hw:=qa6 hn (show _≤68719476736 by omega);have h9:=hGl n hn;simp -dsimp [go_sem,hN];refine cnd ?_ ?_<;>intro hc<;>simp at hc
 ·
  simp -dsimp [go_sem,hN,hc,Txn.c,Foot.c];refine qab (c_ref24_Foot l[n].ft) ?_;rw [hfc];simp -dsimp [go_sem,hN,hw,hc];refine ⟨by omega,?_⟩;rw [hG1 n hc,List.map_append,List.length_append,List.map_cons,List.map_nil,hfc (effF l[n].ft)];exact wkA
 ·
  have hn2:n=l.length:=by omega
  subst hn2;simp -dsimp [go_sem,hN]
end Go.Proofs.YtbimdamecieomaaGreatDoor

set_option maxRecDepth 4000
set_option maxHeartbeats 2000000
namespace Go.Proofs.YtbimdamecieomaaGreatDoor
open Go Go.Abs Go.Cw
def b24k:qac:=⟨#[107]⟩
def b24t:qac:=⟨#[116,111,117,99,104]⟩
def touch24:Proc:=⟨b24t,[⟨b24k,2⟩],[.mk 3 em 0 (.mk 3 0 b24k []) (.mk 1 1 em []) [] []]⟩
def call24 (id:Int) (k:qac):Txn:=⟨id,b24t,[⟨2,0,k⟩],⟨false,[],[k]⟩,1⟩
theorem c_law24_touch:APure Tryz.prog 35 [] (.agg touch24.c):=by
 refine qaz Tryz.func35 Tryz.ntmps35 rfl (by kernel_rfl) rfl rfl fun E h hN hh hu hb=>?_;simp -dsimp [go_sem,hN];exact ⟨rfl,rfl,rfl⟩
theorem qdn (id:Int) (k:qac):APure Tryz.prog 36 [I id,S k] (.agg (call24 id k).c):=by
 refine qaz Tryz.func36 Tryz.ntmps36 rfl (by kernel_rfl) rfl rfl fun E h hN hh hu hb=>?_;simp -dsimp [go_sem,hN];rfl
end Go.Proofs.YtbimdamecieomaaGreatDoor

set_option maxRecDepth 8000
set_option maxHeartbeats 2000000
namespace Go.Proofs.YtbimdamecieomaaGreatDoor
open Go Go.Abs Go.Cw
def bk:qac:=⟨#[107]⟩
def bn:qac:=⟨#[110]⟩
def addP:Proc:=⟨⟨#[97,100,100]⟩,[⟨bk,2⟩,⟨bn,1⟩],[.mk 3 em 0 (.mk 3 0 bk []) (.mk 4 0 em [.mk 22 0 em [.mk 3 0 bk []],.mk 3 0 bn []]) [] []]⟩
theorem ok_digit (k:Nat) (h:k<10):okB (UInt8.ofNat (48+k))=true:=by
 have:∀ k:Fin 10,okB (UInt8.ofNat (48+k.val))=true:=by decide
 exact this ⟨k,h⟩
theorem ok_digits:∀ (u:Nat),∀ b∈Lib.decDigits u,okB b=true:=by
 intro u
 induction u using Nat.strongRecOn with
 | ind u ih =>
  intro b hb;rw [Lib.decDigits] at hb;split at hb
  ·
   rename_i h;simp only [List.mem_singleton] at hb;subst hb;exact ok_digit _ h
  ·
   rename_i h;rw [List.mem_append] at hb;rcases hb with hb | hb
   · exact ih (u / 10) (by omega) b hb
   ·
    simp only [List.mem_singleton] at hb;subst hb;exact ok_digit _ (Nat.mod_lt _ (by decide))
theorem plain_itoa (n:Int) (hn:i64 n):qbm (qb6 n)=true:=by
 have hl:=Lib.itoa_length_le n hn.1 hn.2;unfold qbm;rw [Bool.and_eq_true,decide_eq_true_eq,allL_iff];refine ⟨fun b hb=>?_,?_⟩
 ·
  have hb:b∈Lib.itoa n:=by simpa [bl,qb6] using hb
  unfold Lib.itoa at hb;split at hb
  ·
   rcases List.mem_cons.1 hb with rfl | hb
   · decide
   · exact ok_digits _ b hb
  · exact ok_digits _ b hb
 ·
  show (((Lib.itoa n).toArray.size:Nat):Int)≤64;rw [List.size_toArray];omega
section
variable {tT:TypeId} {tx:Nat×Nat} {g:Nat}
end
end Go.Proofs.YtbimdamecieomaaGreatDoor

set_option maxRecDepth 8000
set_option maxHeartbeats 2000000
namespace Go.Proofs.YtbimdamecieomaaGreatDoor
open Go Go.Abs Go.Cw
def b24a:qac:=⟨#[97]⟩
def b24b:qac:=⟨#[98]⟩
def l24 (b:qac):List Txn:=[call24 1 b24a,call24 2 b]
theorem ex24a:lsOrd (l24 b24b) [1] 2=[1,0]:=by kernel_rfl
theorem ex24b:lsOrd (l24 b24b) [0] 2=[0,1]:=by kernel_rfl
theorem ex24c:lsOrd (l24 b24a) [1] 2=[0,1]:=by kernel_rfl
theorem rng24a:rngV ⟨2,0,b24a⟩:=⟨⟨by decide,by decide⟩,by decide⟩
theorem rng24b:rngV ⟨2,0,b24b⟩:=⟨⟨by decide,by decide⟩,by decide⟩
theorem batch24 {b:qac} (hb:rngV ⟨2,0,b⟩):BatchIn qb6 [touch24] (l24 b):=by
 refine ⟨plain_itoa,?_,?_⟩
 ·
  intro p hp t ht;simp only [List.mem_singleton] at hp;subst hp;simp only [touch24,List.mem_singleton] at ht;subst ht;have hz:i64 0:=⟨by decide,by decide⟩
  have h1:i64 1:=⟨by decide,by decide⟩
  have hk:rngX (.mk 3 0 b24k []):=(rngX_iff _).2 ⟨⟨hz,by decide⟩,by simp [Ex.args]⟩;have hn:rngX (.mk 1 1 em []):=(rngX_iff _).2 ⟨⟨h1,by decide⟩,by simp [Ex.args]⟩;exact (rngS_iff _).2 ⟨hk,hn,by simp [St.body],by simp [St.els]⟩
 ·
  intro t ht v hv;simp only [l24,List.mem_cons,List.not_mem_nil,or_false] at ht;rcases ht with rfl | rfl<;>simp only [call24,List.mem_cons,List.not_mem_nil,or_false] at hv<;>subst hv
  · exact rng24a
  · exact hb
section
variable {tT:TypeId} {tx:Nat×Nat} {g:Nat}
theorem c_law24_examples (h:qaa) (hg:h[g]?=some (tabO tT tx)):ACalls Tryz.prog 13 [] h fun r h'=>r=.ret (Bo true)∧h'=h:=by
 refine qbu Tryz.func13 rfl (by kernel_rfl) (by simp [Tryz.ntmps13]) ?_;intro E hN hh hu hb hb' hua;rw [Tryz.ntmps13] at hN;have hgl:g<h.length:=(List.getElem?_eq_some_iff.1 hg).1;have hg':∀ l:qaa,(h++l)[g]?=some (tabO tT tx):=fun l=>by rw [List.getElem?_append_left hgl];exact hg
 have r1:=fun H hH=>c_ls_Round (g:=g) (tT:=tT) (tx:=tx) [touch24] [] (l24 b24b) [1] H hH (batch24 rng24b) (by intro q hq;cases hq) (by simp [l24]) (by simp [l24]);have r2:=fun H hH=>c_ls_Round (g:=g) (tT:=tT) (tx:=tx) [touch24] [] (l24 b24b) [0] H hH (batch24 rng24b) (by intro q hq;cases hq) (by simp [l24]) (by simp [l24]);have r3:=fun H hH=>c_ls_Round (g:=g) (tT:=tT) (tx:=tx) [touch24] [] (l24 b24a) [1] H hH (batch24 rng24a) (by intro q hq;cases hq) (by simp [l24]) (by simp [l24]);simp only [show ∀ b,(l24 b).length=2 from fun _=>rfl,ex24a,ex24b,ex24c] at r1 r2 r3;obtain ⟨A,hA⟩:∃ A,qa5 qb6 [touch24] [] (l24 b24b)=A:=⟨_,rfl⟩
 obtain ⟨B,hB⟩:∃ B,qa5 qb6 [touch24] [] (l24 b24a)=B:=⟨_,rfl⟩
 simp only [hA,hB] at r1 r2 r3;have si:=fun l=>c_law24_sameInts l l;simp only [decide_true] at si;refine qau (qcq ?_);simp [go_sem,hN];refine qau (qai _ _ _ ?_);simp -dsimp [go_sem,hN];refine qab c_law24_touch ?_;simp -dsimp [go_sem,hN];refine qau (qai _ _ _ ?_);simp -dsimp [go_sem,hN];refine qab (qdn 1 b24a) ?_;simp -dsimp [go_sem,hN];refine qab (qdn 2 b24b) ?_;simp -dsimp [go_sem,hN,Txn.c,call24];refine qam (r1 _ hg) ?_;rintro r h' ⟨rfl,he⟩;rw [he];simp -dsimp [go_sem,hN,qb1];refine qau (qai _ _ _ ?_);simp -dsimp [go_sem,hN];refine qab (qdn 1 b24a) ?_;simp -dsimp [go_sem,hN];refine qab (qdn 2 b24b) ?_;simp -dsimp [go_sem,hN,Txn.c,call24];refine qam (r2 _ hg) ?_;rintro r h' ⟨rfl,he⟩;rw [he];simp -dsimp [go_sem,hN,qb1];refine qau (qai _ _ _ ?_);simp -dsimp [go_sem,hN];refine qab (qdn 1 b24a) ?_;simp -dsimp [go_sem,hN];refine qab (qdn 2 b24a) ?_;simp -dsimp [go_sem,hN,Txn.c,call24];refine qam (r3 _ hg) ?_;rintro r h' ⟨rfl,he⟩;rw [he];simp -dsimp [go_sem,hN,qb1];refine qau (qb5 [_,_,_,_,_] _ ?_);simp [go_sem,hN];refine acalls_pure (si [1,0]) ?_;simp [go_sem,hN];refine aops_effT (done:=[_,_,_,_,_]) rfl ?_ ?_ ?_
 · simp [go_sem,hN]
 · simp [go_sem,hN]
 simp [go_sem,hN];refine opsF_soundT (l2:=[_,_,_,_]) [_,_,_,_] [_,_,_,_,_,_] _ rfl ?_;simp [go_sem,hN];refine .inl ⟨_,fun _=>⟨trivial,si [0,1]⟩,?_⟩;simp [go_sem,hN];refine aops_effT (done:=[_,_,_,_,_,_,_,_,_,_]) rfl ?_ ?_ ?_
 · simp [go_sem,hN]
 · simp [go_sem,hN]
 simp [go_sem,hN];refine qck _ [_,_,_,_,_,_,_,_,_,_,_] _ rfl ?_;simp -dsimp [go_sem,hN];refine qag (si [0,1]) (by simp) ?_;simp -dsimp [go_sem,hN];refine qai _ _ _ ?_;simp -dsimp [go_sem,hN];exact ⟨_,.refl _,h,by simp [go_sem],by simp [go_sem],by simp,by simp [hu,go_sem],rfl,rfl⟩
end
end Go.Proofs.YtbimdamecieomaaGreatDoor
