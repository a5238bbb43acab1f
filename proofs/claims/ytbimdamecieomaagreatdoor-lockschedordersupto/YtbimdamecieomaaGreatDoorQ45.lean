/- Part 45 of a proof: W121, W40, W44, W45, W32, W33, W34, W46, W46b, W46c, W46d, W46e, W41, W42, W42b, W43, W47, W48, W59, W53, W122, W123, W126, W54, W125 -/
import Derived.Shelf.Small.Strs
import Derived.Shelf.Strconv.Itoa4
import Derived.Lib.ItoaLen
import Derived.Test.YtbimdamecieomaaGreatDoorQ14
import Derived.Test.YtbimdamecieomaaGreatDoorQ15
import Derived.Test.YtbimdamecieomaaGreatDoorQ16
import Derived.Test.YtbimdamecieomaaGreatDoorQ17
import Derived.Test.YtbimdamecieomaaGreatDoorQ19
import Derived.Test.YtbimdamecieomaaGreatDoorQ21
import Derived.Test.YtbimdamecieomaaGreatDoorQ22
import Derived.Test.YtbimdamecieomaaGreatDoorQ23
import Derived.Test.YtbimdamecieomaaGreatDoorQ25
import Derived.Test.YtbimdamecieomaaGreatDoorQ28
import Derived.Test.YtbimdamecieomaaGreatDoorQ29
import Derived.Test.YtbimdamecieomaaGreatDoorQ30
import Derived.Test.YtbimdamecieomaaGreatDoorQ31
import Derived.Test.YtbimdamecieomaaGreatDoorQ37
import Derived.Test.YtbimdamecieomaaGreatDoorQ39
import Derived.Test.YtbimdamecieomaaGreatDoorQ43
import Derived.Test.YtbimdamecieomaaGreatDoorQ44
set_option linter.all false

set_option maxRecDepth 4000
set_option maxHeartbeats 2000000
namespace Go.Proofs.YtbimdamecieomaaGreatDoor
open Go Go.Abs Go.Cw
variable {tT:TypeId} {tx:Nat×Nat} {g:Nat}
abbrev feetE (l:List Txn):List Foot:=l.map fun x=>effF x.ft
theorem feetE_eq (l:List Txn):feetE l=(ftsL l).map effF:=by simp
theorem feetE_legal (l:List Txn) (order:List Int):qcs (feetE l) order=qcs (ftsL l) order:=by rw [feetE_eq,legal_eff]
def zF:Foot:=⟨false,[],[]⟩
theorem c_ls_ReplayNo (procs:List Proc) (s:List Pr) (l:List Txn) (order:List Int) (hl:l.length≤1048576) (hno:qcs (ftsL l) order=false) :
  APure Tryz.prog 17 [.slice (procs.map Proc.c),.slice (s.map Pr.c),.slice (l.map Txn.c),.slice (order.map qb1)] (.tuple [.slice [],.slice [],I 1]):=by
 refine qcz Tryz.func17 rfl (by kernel_rfl) (by simp [Tryz.ntmps17]) rfl ?_;intro E h hN hh hu hb;rw [Tryz.ntmps17] at hN;simp [go_sem] at hb;have hleg:=c_ls_Legal (feetE l) order (by simpa using hl);rw [feetE_legal,hno] at hleg;simp only [List.map_map] at hleg;refine qau (qcq ?_);simp [go_sem,hN];refine qau (qb5 [_,_] _ ?_);simp [go_sem,hN];intro c a w sm k;refine wp_makeT sm k (el:=43) (x:=.tmp 19) (d1:=20) (n:=l.length) (sz:=3) (zr:=zF.c) rfl rfl (by omega) rfl (by simp [go_sem]) (by simp [go_sem]) (by simp [go_sem]) (by omega) (by simp [go_sem,zF,Foot.c]) (by simp [go_sem,zF,Foot.c]) (by simp [go_sem,nilz,zF,Foot.c]) (by simp [go_sem,zF,Foot.c]) (by simp [go_sem]) (by omega) fun c' a' w' s' k'=>?_;refine qbd _ [_,_,_] _ rfl ?_ c' a' w' s' k';simp [go_sem,hN];clear s' k' sm k;refine awp_seqW (e1:=⟨[(0,.slice (procs.map Proc.c)),(1,.slice (s.map Pr.c)),(2,.slice (l.map Txn.c)),(3,.slice (order.map qb1)),(11,.own h.length l.length)],h++[.arr 43 3 ((feetE l).map Foot.c)]⟩) ?_ ?_
 ·
  simp -dsimp [go_sem,hN];refine qaj l.length (fun n=>True) (fun n=>⟨[(0,.slice (procs.map Proc.c)),(1,.slice (s.map Pr.c)),(2,.slice (l.map Txn.c)),(3,.slice (order.map qb1)),(11,.own h.length l.length),(21,.slice (l.map Txn.c)),(22,I l.length),(23,I n)],h++[.uarr 43 3 ((fillN zF (fun x:Txn=>effF x.ft) l n).map Foot.c)]⟩) trivial ?_ ?_
  ·
   rw [fill_zero,List.map_replicate];exact wkA
  intro n hn _;have hw:=qa6 hn (show _≤68719476736 by omega);have hal:=fill_len (z:=zF) (f:=fun x:Txn=>effF x.ft) hn;simp -dsimp [go_sem,hN];refine cnd ?_ ?_<;>intro hc<;>simp at hc
  ·
   have hset:=congrArg (List.map Foot.c) (fill_set (z:=zF) (f:=fun x:Txn=>effF x.ft) hc);rw [List.map_set] at hset;simp -dsimp [go_sem,hN,hc,Txn.c,Foot.c];refine qab (c_ls_locks l[n].ft) ?_;simp -dsimp [go_sem,hN,hc,hal,hw,Foot.c];rw [← hset];exact (wkA (by simp [go_sem,Foot.c]))
  have hn2:n=l.length:=by omega
  subst hn2;rw [fill_all];simp -dsimp [go_sem,hN];refine (qbz E _ (i:=h.length) (t:=43) (sz:=3) (rows:=(feetE l).map Foot.c) (by simp)).trans ?_;simp;exact Wk.slots (by simp [wkS,go_sem])
 apply qai;simp -dsimp [go_sem,hN];refine qab hleg ?_;simp -dsimp [go_sem,hN]
theorem c_ls_Replay0 (procs:List Proc) (s:List Pr) (l:List Txn) (order:List Int) (h:qaa) (hg:h[g]?=some (tabO tT tx)) (hB:BatchIn qb6 procs l) (hs:rngL s) (hL:s.length+192 * l.length≤60000000000) (hl:l.length≤1048576) (ho:qcs (ftsL l) order=true) :
  ACalls Tryz.prog 17 [.slice (procs.map Proc.c),.slice (s.map Pr.c),.slice (l.map Txn.c),.slice (order.map qb1)] h fun r h'=>r=.ret (.tuple [.slice ((qa5 qb6 procs s l).1.map Pr.c),.own (h.length+2) l.length,I 0])∧h'=h++[.none,.none,.uarr 63 8 ((qa5 qb6 procs s l).2.map Eff.c)]:=by
 refine qbu Tryz.func17 rfl (by kernel_rfl) (by simp [Tryz.ntmps17]) ?_;intro E hN hh hu hb hb' hua;rw [Tryz.ntmps17] at hN;simp [go_sem] at hb;have hleg:=c_ls_Legal (feetE l) order (by simpa using hl);rw [feetE_legal,ho] at hleg;simp only [List.map_map] at hleg;have hgl:g<h.length:=(List.getElem?_eq_some_iff.1 hg).1;have hg':∀ l:qaa,(h++l)[g]?=some (tabO tT tx):=fun l=>by rw [List.getElem?_append_left hgl];exact hg
 have hol:order.length=l.length:=by have:=(legal_leg ho).2;rwa [fts_len] at this
 refine qau (qcq ?_);simp [go_sem,hN];refine qau (qb5 [_,_] _ ?_);simp [go_sem,hN];intro c a w sm k;refine wp_makeT sm k (el:=43) (x:=.tmp 19) (d1:=20) (n:=l.length) (sz:=3) (zr:=zF.c) rfl rfl (by omega) rfl (by simp [go_sem]) (by simp [go_sem]) (by simp [go_sem]) (by omega) (by simp [go_sem,zF,Foot.c]) (by simp [go_sem,zF,Foot.c]) (by simp [go_sem,nilz,zF,Foot.c]) (by simp [go_sem,zF,Foot.c]) (by simp [go_sem]) (by omega) fun c' a' w' s' k'=>?_;refine qbd _ [_,_,_] _ rfl ?_ c' a' w' s' k';simp [go_sem,hN];clear s' k' sm k;refine awp_seqW (e1:=⟨[(0,.slice (procs.map Proc.c)),(1,.slice (s.map Pr.c)),(2,.slice (l.map Txn.c)),(3,.slice (order.map qb1)),(11,.own h.length l.length)],h++[.arr 43 3 ((feetE l).map Foot.c)]⟩) ?_ ?_
 ·
  simp -dsimp [go_sem,hN];refine qaj l.length (fun n=>True) (fun n=>⟨[(0,.slice (procs.map Proc.c)),(1,.slice (s.map Pr.c)),(2,.slice (l.map Txn.c)),(3,.slice (order.map qb1)),(11,.own h.length l.length),(21,.slice (l.map Txn.c)),(22,I l.length),(23,I n)],h++[.uarr 43 3 ((fillN zF (fun x:Txn=>effF x.ft) l n).map Foot.c)]⟩) trivial ?_ ?_
  ·
   rw [fill_zero,List.map_replicate];exact wkA
  intro n hn _;have hw:=qa6 hn (show _≤68719476736 by omega);have hal:=fill_len (z:=zF) (f:=fun x:Txn=>effF x.ft) hn;simp -dsimp [go_sem,hN];refine cnd ?_ ?_<;>intro hc<;>simp at hc
  ·
   have hset:=congrArg (List.map Foot.c) (fill_set (z:=zF) (f:=fun x:Txn=>effF x.ft) hc);rw [List.map_set] at hset;simp -dsimp [go_sem,hN,hc,Txn.c,Foot.c];refine qab (c_ls_locks l[n].ft) ?_;simp -dsimp [go_sem,hN,hc,hal,hw,Foot.c];rw [← hset];exact (wkA (by simp [go_sem,Foot.c]))
  have hn2:n=l.length:=by omega
  subst hn2;rw [fill_all];simp -dsimp [go_sem,hN];refine (qbz E _ (i:=h.length) (t:=43) (sz:=3) (rows:=(feetE l).map Foot.c) (by simp)).trans ?_;simp;exact Wk.slots (by simp [wkS,go_sem])
 refine qau (qai _ _ _ ?_);simp -dsimp [go_sem,hN];refine qab hleg ?_;simp -dsimp [go_sem,hN];refine qau (qai _ _ _ ?_);simp -dsimp [go_sem,hN];refine ⟨by omega,?_⟩;refine qau (qb5 [_,_] _ ?_);simp [go_sem,hN];intro c a w sm k;refine wp_makeT sm k (el:=63) (x:=.tmp 42) (d1:=43) (n:=l.length) (sz:=8) (zr:=[I 0,I 0,.slice [],.slice [],.slice [],.slice [],S em,I 0]) rfl rfl (by omega) rfl (by simp [go_sem]) (by simp [go_sem]) (by simp [go_sem]) (by omega) (by simp [go_sem]) (by simp [go_sem]) (by simp [go_sem,nilz]) (by simp [go_sem]) (by simp [go_sem]) (by omega) fun c' a' w' s' k'=>?_;refine qbd _ [_,_,_] _ rfl ?_ c' a' w' s' k';simp [go_sem,hN];clear s' k' sm k;apply qai;simp -dsimp [go_sem,hN];refine qaj order.length (fun n=>True) (fun n=>⟨[(0,.slice (procs.map Proc.c)),(2,.slice (l.map Txn.c)),(14,.slice ((rpX qb6 procs s l order n).1.map Pr.c)),(15,.own (h.length+2) l.length),(44,.slice (order.map qb1)),(45,I order.length),(46,I n)],h++[.none,.none,.uarr 63 8 ((rpX qb6 procs s l order n).2.map Eff.c)]⟩) trivial ((norm1_wk E _ 14).trans ?_) ?_
 ·
  rw [rpX_zero];exact (Wk.mk (by simp [hh]) (by simp [go_sem,zeroE,Eff.c,em,nilz]) (by simp [hu,qar hu,go_sem]) (by simp [go_sem,AV.norm]))
 intro n hn _;have hw:=qa6 hn (show _≤68719476736 by omega);obtain ⟨x1,x2,x3⟩:=rpX_ok hB hs ho n hn;simp -dsimp [go_sem,hN];refine cnd ?_ ?_<;>intro hc<;>simp at hc
 ·
  obtain ⟨q1,q2⟩:=legal_lt ho hc;rw [fts_len] at q1;rw [rpX_succ hc q1];obtain ⟨j,hj⟩:=Int.eq_ofNat_of_zero_le q2;have hjt:order[n].toNat=j:=by rw [hj];rfl
  simp only [hjt] at q1 ⊢;obtain ⟨X,hX⟩:∃ X,rpX qb6 procs s l order n=X:=⟨_,rfl⟩
  rw [hX] at x1 x2 x3;simp only [hX];have hone:=fun H hH=>c_serial_One (g:=g) (tT:=tT) (tx:=tx) procs X.1 l[j] H hH (runIn_one hB x1 (List.getElem_mem q1)) (by omega);obtain ⟨Y,hY⟩:∃ Y,oneS qb6 procs X.1 l[j]=Y:=⟨_,rfl⟩
  simp only [hY] at hone ⊢;simp -dsimp [go_sem,hN,hc,qb1,hj,q1,Txn.c];refine qam (hone _ (hg' _)) ?_;rintro r h' ⟨rfl,he⟩;rw [he];simp -dsimp [go_sem,hN,x3,q1,hw,Eff.c];exact ⟨hc,Wk.mk (by simp [hh]) (by simp [go_sem,Eff.c]) (by simp [hu,qar hu,go_sem]) (by simp [go_sem])⟩
 ·
  have hn2:n=order.length:=by omega
  subst hn2;rw [rpX_serial hB hs ho] at x3 ⊢;simp -dsimp [go_sem,hN,x3];exact ⟨_,.refl _,h++[.none,.none,.uarr 63 8 ((qa5 qb6 procs s l).2.map Eff.c)],by simp [go_sem],by simp [go_sem],by simp,by simp [qar hu,go_sem],rfl,rfl⟩
theorem c_ls_Replay (procs:List Proc) (s:List Pr) (l:List Txn) (order:List Int) (h:qaa) (hg:h[g]?=some (tabO tT tx)) (hB:BatchIn qb6 procs l) (hs:rngL s) (hL:s.length+192 * l.length≤60000000000) (hl:l.length≤1048576) (ho:qcs (ftsL l) order=true) :
  ACalls Tryz.prog 17 [.slice (procs.map Proc.c),.slice (s.map Pr.c),.slice (l.map Txn.c),.slice (order.map qb1)] h fun r h'=>r=.ret (.tuple [.slice ((qa5 qb6 procs s l).1.map Pr.c),.slice ((qa5 qb6 procs s l).2.map Eff.c),I 0])∧h'=h:=by
 have hlen:(qa5 qb6 procs s l).2.length=l.length:=roundS_len l;have core:=c_ls_Replay0 (g:=g) (tT:=tT) (tx:=tx) procs s l order h hg hB hs hL hl ho;refine ⟨core.1,fun cx wx vx hsx hax=>?_⟩;have hu:=hsx.hUnder;refine (acalls_ret (fun E hE=>?_) core).2 cx wx vx hsx hax;refine (qbz E _ (i:=h.length+2) (t:=63) (sz:=8) (rows:=(qa5 qb6 procs s l).2.map Eff.c) (by simp)).trans ?_;simp;refine (norm_wk E _).trans ?_;exact Wk.mk (by simp [hE]) (by simpa [go_sem] using hwk.app0 _) (by simpa using hu) (by simp [go_sem,AV.norm,qa4,wkT,hlen])
end Go.Proofs.YtbimdamecieomaaGreatDoor

set_option maxRecDepth 4000
set_option maxHeartbeats 1000000
namespace Go.Proofs.YtbimdamecieomaaGreatDoor
open Go Go.Abs Go.Cw
end Go.Proofs.YtbimdamecieomaaGreatDoor

set_option maxRecDepth 4000
set_option maxHeartbeats 2000000
namespace Go.Proofs.YtbimdamecieomaaGreatDoor
open Go Go.Abs Go.Cw
end Go.Proofs.YtbimdamecieomaaGreatDoor

set_option maxRecDepth 4000
set_option maxHeartbeats 2000000
namespace Go.Proofs.YtbimdamecieomaaGreatDoor
open Go Go.Abs Go.Cw
section
attribute [local go_sem] RM.c
variable (C:Cfg)
end
end Go.Proofs.YtbimdamecieomaaGreatDoor

set_option maxRecDepth 8000
set_option maxHeartbeats 2000000
namespace Go.Proofs.YtbimdamecieomaaGreatDoor
open Go Go.Abs Go.Cw
theorem sameL_refl {α:Type} {f:α→α→Bool} (hf:∀ x,f x x=true):∀ l,qcw f l l=true
 | []=>rfl
 | x::l=>by simp [qcw,hf,sameL_refl hf l]
theorem sameE_refl (e:Eff):sameE e e=true:=by
 simp [sameE,sameL_refl (f:=eqVal) (fun x=>by simp [eqVal]),sameL_refl (f:=eqB) (fun x=>by simp [eqB]),sameL_refl (f:=eqP) (fun x=>by simp [eqP,eqVal])]
variable {tT:TypeId} {tx:Nat×Nat} {g:Nat}
end Go.Proofs.YtbimdamecieomaaGreatDoor

set_option maxRecDepth 8000
set_option maxHeartbeats 2000000
namespace Go.Proofs.YtbimdamecieomaaGreatDoor
open Go Go.Abs Go.Cw
variable {tT:TypeId} {tx:Nat×Nat} {g:Nat}
def runC (p:Proc) (args:List V) (ft:Foot):List AV:=[S p.name,.slice (p.params.map Param.c),.slice (p.body.map St.c),.slice (args.map V.c),Bo ft.all,.slice (ft.reads.map qbf),.slice (ft.writes.map qbf)]
attribute [local go_sem] runC
end Go.Proofs.YtbimdamecieomaaGreatDoor

set_option maxRecDepth 8000
set_option maxHeartbeats 2000000
namespace Go.Proofs.YtbimdamecieomaaGreatDoor
open Go Go.Abs Go.Cw
variable {tT:TypeId} {tx:Nat×Nat} {g:Nat}
attribute [local go_sem] runC
end Go.Proofs.YtbimdamecieomaaGreatDoor

set_option maxRecDepth 4000
set_option maxHeartbeats 4000000
namespace Go.Proofs.YtbimdamecieomaaGreatDoor
open Go Go.Abs Go.Cw
section
attribute [local go_sem] RM.c
variable (C:Cfg)
end
end Go.Proofs.YtbimdamecieomaaGreatDoor

set_option maxRecDepth 4000
set_option maxHeartbeats 4000000
namespace Go.Proofs.YtbimdamecieomaaGreatDoor
open Go Go.Abs Go.Cw
section
attribute [local go_sem] RM.c
variable (C:Cfg) (hC:rngC C) (hf:∀ n,i64 n→qbm (C.fmt n)=true) (hF:∀ n,i64 n→APure Tryz.prog 312 [I n] (S (C.fmt n)))
include hC hf hF
end
end Go.Proofs.YtbimdamecieomaaGreatDoor

set_option maxRecDepth 4000
set_option maxHeartbeats 400000
namespace Go.Proofs.YtbimdamecieomaaGreatDoor
open Go Go.Abs Go.Cw
section
attribute [local go_sem] RM.c
variable (C:Cfg) (hC:rngC C) (hf:∀ n,i64 n→qbm (C.fmt n)=true) (hF:∀ n,i64 n→APure Tryz.prog 312 [I n] (S (C.fmt n)))
include hC hf hF
end
end Go.Proofs.YtbimdamecieomaaGreatDoor

set_option maxRecDepth 4000
set_option maxHeartbeats 4000000
namespace Go.Proofs.YtbimdamecieomaaGreatDoor
open Go Go.Abs Go.Cw
section
attribute [local go_sem] RM.c
variable (C:Cfg) (hC:rngC C) (hf:∀ n,i64 n→qbm (C.fmt n)=true) (hF:∀ n,i64 n→APure Tryz.prog 312 [I n] (S (C.fmt n)))
include hC hf hF
end
end Go.Proofs.YtbimdamecieomaaGreatDoor

set_option maxRecDepth 4000
set_option maxHeartbeats 4000000
namespace Go.Proofs.YtbimdamecieomaaGreatDoor
open Go Go.Abs Go.Cw
section
attribute [local go_sem] RM.c
variable (C:Cfg) (hC:rngC C) (hf:∀ n,i64 n→qbm (C.fmt n)=true) (hF:∀ n,i64 n→APure Tryz.prog 312 [I n] (S (C.fmt n)))
include hC hf hF
end
end Go.Proofs.YtbimdamecieomaaGreatDoor

set_option maxRecDepth 4000
set_option maxHeartbeats 2000000
namespace Go.Proofs.YtbimdamecieomaaGreatDoor
open Go Go.Abs Go.Cw
section
theorem exz1:Ex.z.op=0:=rfl
theorem exz2:Ex.z.n=0:=rfl
theorem exz3:Ex.z.s=em:=rfl
theorem exz4:Ex.z.args=[]:=rfl
theorem stz1:St.z.op=0:=rfl
theorem stz2:St.z.name=em:=rfl
theorem stz3:St.z.max=0:=rfl
theorem stz4:St.z.a=Ex.z:=rfl
theorem stz5:St.z.b=Ex.z:=rfl
theorem stz6:St.z.body=[]:=rfl
theorem stz7:St.z.els=[]:=rfl
attribute [local go_sem] Vt.c Vt.ofS Vt.ofE exz1 exz2 exz3 exz4 stz1 stz2 stz3 stz4 stz5 stz6 stz7
end
section
attribute [local go_sem] Vt.c
end
end Go.Proofs.YtbimdamecieomaaGreatDoor

set_option maxRecDepth 4000
set_option maxHeartbeats 2000000
namespace Go.Proofs.YtbimdamecieomaaGreatDoor
open Go Go.Abs Go.Cw
def pRow (q:qac×Int):List AV:=[S q.1,I q.2]
section
attribute [local go_sem] pRow
end
end Go.Proofs.YtbimdamecieomaaGreatDoor

set_option maxRecDepth 4000
set_option maxHeartbeats 4000000
namespace Go.Proofs.YtbimdamecieomaaGreatDoor
open Go Go.Abs Go.Cw
section
attribute [local go_sem] pRow
end
end Go.Proofs.YtbimdamecieomaaGreatDoor

set_option maxRecDepth 4000
set_option maxHeartbeats 2000000
namespace Go.Proofs.YtbimdamecieomaaGreatDoor
open Go Go.Abs Go.Cw
section
attribute [local go_sem] Cnt.c
end
end Go.Proofs.YtbimdamecieomaaGreatDoor

set_option maxRecDepth 4000
set_option maxHeartbeats 4000000
namespace Go.Proofs.YtbimdamecieomaaGreatDoor
open Go Go.Abs Go.Cw
attribute [local go_sem] mC
variable {C:Cfg} {tT:TypeId} {tx:Nat×Nat} {g m v o io ir ip:Nat} {K:MQ→qaa} {n0:Nat}
end Go.Proofs.YtbimdamecieomaaGreatDoor

set_option maxRecDepth 4000
set_option maxHeartbeats 4000000
namespace Go.Proofs.YtbimdamecieomaaGreatDoor
open Go Go.Abs Go.Cw
section
attribute [local go_sem] RM.c
variable {tT:TypeId} {tx:Nat×Nat} {g:Nat}
end
end Go.Proofs.YtbimdamecieomaaGreatDoor

set_option maxRecDepth 4000
set_option maxHeartbeats 2000000
namespace Go.Proofs.YtbimdamecieomaaGreatDoor
open Go Go.Abs Go.Cw
end Go.Proofs.YtbimdamecieomaaGreatDoor

set_option maxRecDepth 4000
set_option maxHeartbeats 2000000
namespace Go.Proofs.YtbimdamecieomaaGreatDoor
open Go Go.Abs Go.Cw
end Go.Proofs.YtbimdamecieomaaGreatDoor

set_option maxRecDepth 4000
set_option maxHeartbeats 2000000
namespace Go.Proofs.YtbimdamecieomaaGreatDoor
open Go Go.Abs Go.Cw
end Go.Proofs.YtbimdamecieomaaGreatDoor

set_option maxRecDepth 4000
set_option maxHeartbeats 2000000
namespace Go.Proofs.YtbimdamecieomaaGreatDoor
open Go Go.Abs Go.Cw
end Go.Proofs.YtbimdamecieomaaGreatDoor

set_option maxRecDepth 4000
set_option maxHeartbeats 2000000
namespace Go.Proofs.YtbimdamecieomaaGreatDoor
open Go Go.Abs Go.Cw
variable {tT:TypeId} {tx:Nat×Nat} {g:Nat}
theorem c_law24_Swaps (fs:List Foot) (order:List Int) (z:Int) (h:qaa) (hg:h[g]?=some (tabO tT tx)) (hl:fs.length≤1048576) (hol:order.length≤1048576) (hz:0≤z∧z≤255) (hex:∀ H:qaa,H[g]?=some (tabO tT tx)→ACalls Tryz.prog 13 [] H fun r h'=>r=.ret (Bo true)∧h'=H) :
  ACalls Tryz.prog 5 [.slice (fs.map Foot.c),.slice (order.map qb1),.val (.int .u8 z)] h fun r h'=>r=.ret (Bo true)∧h'=h:=by
 refine qbu Tryz.func5 rfl (by kernel_rfl) (by simp [Tryz.ntmps5]) ?_;intro E hN hh hu hb hb' hua;rw [Tryz.ntmps5] at hN;have hgl:g<h.length:=(List.getElem?_eq_some_iff.1 hg).1;have hg':∀ l:qaa,(h++l)[g]?=some (tabO tT tx):=fun l=>by rw [List.getElem?_append_left hgl];exact hg
 have kup:=c_ls_Legal fs ((List.range fs.length).map Int.ofNat) hl;rw [leg_up] at kup;simp only [List.map_map] at kup;have kor:=c_ls_Legal fs order hl;refine qau (qcq ?_);simp [go_sem,hN];refine qau (qcq ?_);simp [go_sem,hN];refine awp_seqW (e1:=⟨[(0,.slice (fs.map Foot.c)),(1,.slice (order.map qb1)),(2,.val (.int .u8 z)),(7,.own h.length fs.length)],h++[.arr 3 1 (((List.range fs.length).map Int.ofNat).map qb1)]⟩) ?_ ?_
 ·
  simp -dsimp [go_sem,hN];refine qaj fs.length (fun n=>True) (fun n=>⟨[(0,.slice (fs.map Foot.c)),(1,.slice (order.map qb1)),(2,.val (.int .u8 z)),(7,.own h.length n),(8,I n)],h++[.arr 3 1 (((List.range n).map Int.ofNat).map qb1)]⟩) trivial ((nil_wk E _ 7 3 1 (by simp [go_sem])).trans wkA) ?_;intro n hn _;have hw:=qa6 hn (show _≤68719476736 by omega);simp -dsimp [go_sem,hN];refine cnd ?_ ?_<;>intro hc<;>simp at hc
  ·
   simp -dsimp [go_sem,hN,hw];exact ⟨by omega,hc,Wk.mk (by simp [hh]) (by simp [go_sem,List.range_succ,qb1]) (by simp [hu,qar hu,go_sem]) (by simp [go_sem])⟩
  ·
   have hn2:n=fs.length:=by omega
   subst hn2;simp -dsimp [go_sem,hN];exact Wk.slots (by simp [wkS,go_sem])
 refine qau (qai _ _ _ ?_);simp -dsimp [go_sem,hN];refine qab kup ?_;simp -dsimp [go_sem,hN];refine qau (qai _ _ _ ?_);simp -dsimp [go_sem,hN];refine qab kor ?_;rcases hlg:qcs fs order with _ | _
 ·
  simp -dsimp [go_sem,hN];refine qam (hex _ (hg' _)) ?_;rintro r h' ⟨rfl,he⟩;rw [he];simp -dsimp [go_sem,hN];exact ⟨_,.refl _,h,by simp [go_sem],by simp [go_sem],by simp,by simp [hu,go_sem],rfl,rfl⟩
 have hlen:=(legal_leg hlg).2;by_cases h2:order.length<2
 ·
  have h2':(order.length:Int)<2:=by omega
  simp -dsimp [go_sem,hN,h2'];refine qam (hex _ (hg' _)) ?_;rintro r h' ⟨rfl,he⟩;rw [he];simp -dsimp [go_sem,hN];exact ⟨_,.refl _,h,by simp [go_sem],by simp [go_sem],by simp,by simp [hu,go_sem],rfl,rfl⟩
 have h2':¬ (order.length:Int)<2:=by omega
 simp -dsimp [go_sem,hN,h2'];refine cnd ?_ ?_<;>intro hx<;>simp at hx
 · omega
 simp -dsimp [go_sem,hN];obtain ⟨m,hm⟩:∃ m,order.length=m+2:=⟨order.length - 2,by omega⟩
 have hw1:IntKind.i64.wrap ((order.length:Int) - 1)=(m:Int)+1:=by
  rw [show (order.length:Int) - 1=(m:Int)+1 by omega];exact wrapI (by omega) (by omega)
 obtain ⟨i,hi,hil⟩:∃ i:Nat,z.tmod ((m:Int)+1)=(i:Int)∧i≤m:=by
  have h1:=Int.tmod_lt_of_pos z (show (0:Int)<(m:Int)+1 by omega);have h3:=Int.tmod_nonneg ((m:Int)+1) hz.1;exact ⟨(z.tmod ((m:Int)+1)).toNat,by omega,by omega⟩
 have hwz:IntKind.i64.wrap z=z:=wrapI (by omega) (by omega);refine qau (qai _ _ _ ?_);simp -dsimp [go_sem,hN,hw1,hwz,hi];refine ⟨by omega,?_⟩;have hi0:i<order.length:=by omega
 have hi1:i+1<order.length:=by omega
 have hw2:IntKind.i64.wrap ((i:Int)+1)=(i:Int)+1:=wrapI (by omega) (by omega);obtain ⟨p1,p2⟩:=legal_lt hlg hi0;obtain ⟨q1,q2⟩:=legal_lt hlg hi1;have hsw:=legal_swap hlg hi1;have hnd:=(qdm.1 hlg).1.2.2;simp only [List.nil_append] at hnd;obtain ⟨p,hp⟩:=Int.eq_ofNat_of_zero_le p2;obtain ⟨q,hq⟩:=Int.eq_ofNat_of_zero_le q2;rw [hp,Int.toNat_natCast] at p1;rw [hq,Int.toNat_natCast] at q1;have hpq:¬ p=q:=fun e=>by
  have:=(List.getElem_inj hnd (i:=i) (j:=i+1) (h₀:=by simpa using hi0) (h₁:=by simpa using hi1)).1 (by simp [hp,hq,e]);omega
 rw [qd1 hi0,qd1 hi1,hp,hq,Int.toNat_natCast,Int.toNat_natCast] at hsw;have hcn:qc4 fs p q=qci fs[p] fs[q]:=by simp [qc4,p1,q1]
 rw [hcn] at hsw;refine qau (qai _ _ _ ?_);simp -dsimp [go_sem,hN];refine qan 10 mixed (by kernel_rfl) (by kernel_rfl) ?_;simp -dsimp [go_sem,hN,hi0,hi1,hw2,hp,hq,qb1];refine ⟨by omega,?_⟩;have p3:¬ fs.length≤p:=by omega
 have q3:¬ fs.length≤q:=by omega
 refine qau (qai _ _ _ ?_);simp -dsimp [go_sem,hN,p1,q1,p3,q3,hpq];refine cnd (fun hx=>?_) (fun hx=>?_)
 ·
  simp only [Bool.or_eq_true,decide_eq_true_eq] at hx;omega
 simp -dsimp [go_sem,hN];refine qau (qb5 [_] _ ?_);simp [go_sem,hN];intro c a w sm k;refine wp_appU sm k (T:=27) (el:=3) (sz:=1) (xa:=.const (Value.slice none 0 0)) (xb:=.tmp 82) (news:=order.map qb1) rfl (by simp [dstOk,hN]) rfl (by simp [go_sem]) (by simp [go_sem]) (by simp [go_sem]) (by omega) (by simp [go_sem]) (by simp [go_sem]) (by simp [go_sem]) (by simp [go_sem]) (by simp [go_sem]) (by simp;omega) fun c' a' w' s' k'=>?_;refine qbd _ [_,_] _ rfl ?_ c' a' w' s' k';simp [go_sem,hN];clear s' k' sm k;refine qau (qai _ _ _ ?_);simp -dsimp [go_sem,hN,hi0];refine qau (qai _ _ _ ?_);simp -dsimp [go_sem,hN,hi1,hw2];refine ⟨by omega,?_⟩;have hrow:((order.map qb1).set i [I (q:Int)]).set (i+1) [I (p:Int)]=(swapO order i).map qb1:=by
  unfold swapO;rw [qd1 hi0,qd1 hi1,hp,hq,List.map_set,List.map_set];rfl
 rw [hrow];have kl:=c_ls_Legal fs (swapO order i) hl;rw [hsw] at kl;refine AWp.wk (qbz E _ (i:=h.length+1) (t:=3) (sz:=1) (rows:=(swapO order i).map qb1) (by simp)) ?_;simp;apply qai;simp -dsimp [go_sem,hN];have hsl:(swapO order i).length=order.length:=by simp [swapO]
 refine qan 11 mixed (by kernel_rfl) (by kernel_rfl) ?_;simp -dsimp [go_sem,hN,p1,q1,Foot.c,hsl];refine tdcall kl (by simp) ?_;simp -dsimp [go_sem,hN,p1,q1,Foot.c];refine qab (c_fp_Conflicts fs[p] fs[q]) ?_;simp -dsimp [go_sem,hN];refine tgcall_true (by simp) ((hex _ (hg' _)).mono ?_);rintro r h' ⟨rfl,he⟩;rw [he];simp -dsimp [go_sem,hN];exact ⟨_,.refl _,h,by simp [go_sem],by simp [go_sem],by simp,by simp [hu,go_sem],rfl,rfl⟩
end Go.Proofs.YtbimdamecieomaaGreatDoor

set_option maxRecDepth 4000
set_option maxHeartbeats 2000000
namespace Go.Proofs.YtbimdamecieomaaGreatDoor
open Go Go.Abs Go.Cw
variable {tT:TypeId} {tx:Nat×Nat} {g:Nat}
theorem c_serial_with (procs:List Proc) (h:qaa) :
  ACalls Tryz.prog 37 [.slice (procs.map Proc.c)] h fun r h'=>r=.ret (.agg [.fn (.func 69) [] [.ptr h.length 0]])∧h'=h++[.cells [.slice (procs.map Proc.c)]]:=by
 refine qa0 Tryz.func37 Tryz.ntmps37 rfl (by kernel_rfl) rfl fun E hN hh hu hb hb' hua=>?_;simp -dsimp [go_sem,hN];exact ⟨_,.refl _,h++[.cells [.slice (procs.map Proc.c)]],by simp [go_sem],hwk.app (l:=[_,_]) (l':=[_]) ⟨ObjWk.refl _,trivial⟩ h,by simp,by simp [qar hu,go_sem],rfl,rfl⟩
theorem c_serial_with1 (procs:List Proc) (s:List Pr) (t:Txn) (h:qaa) (b:Nat) (hb0:h[b]?=some (.cells [.slice (procs.map Proc.c)])) (hg:h[g]?=some (tabO tT tx)) (hI:∀ p,findP procs t=some p→RunIn qb6 p t.args s) (hL:s.length≤60000000000) :
  ACalls Tryz.prog 69 [.slice (s.map Pr.c),.agg t.c,.ptr b 0] h fun r h'=>r=.ret (.tuple [.slice ((oneS qb6 procs s t).1.map Pr.c),.agg (oneS qb6 procs s t).2.c])∧h'=h:=by
 refine qa0 Tryz.func69 Tryz.ntmps69 rfl (by kernel_rfl) rfl fun E hN hh hu hb hb' hua=>?_;have hgl:g<h.length:=(List.getElem?_eq_some_iff.1 hg).1;have hg':∀ l:qaa,(h++l)[g]?=some (tabO tT tx):=fun l=>by rw [List.getElem?_append_left hgl];exact hg
 have hbl:b<h.length:=(List.getElem?_eq_some_iff.1 hb0).1;have hb1:∀ l:qaa,(h++l)[b]?=some (.cells [.slice (procs.map Proc.c)]):=fun l=>by rw [List.getElem?_append_left hbl];exact hb0
 have hone:=fun H hH=>c_serial_One (g:=g) (tT:=tT) (tx:=tx) procs s t H hH hI hL;obtain ⟨O,hO⟩:∃ O,oneS qb6 procs s t=O:=⟨_,rfl⟩
 simp only [hO] at hone ⊢;simp -dsimp [go_sem,hN,hb1,Txn.c];refine qam (hone _ (hg' _)) ?_;rintro r h' ⟨rfl,rfl⟩;simp -dsimp [go_sem,hN,Eff.c];exact ⟨_,.refl _,h,by simp [go_sem],hwk.app0 _,Nat.le_refl _,hu,rfl,rfl⟩
theorem c_engine_round (procs:List Proc) (s:List Pr) (l:List Txn) (h:qaa) (b:Nat) (hb0:h[b]?=some (.cells [.slice (procs.map Proc.c)])) (hg:h[g]?=some (tabO tT tx)) (hB:BatchIn qb6 procs l) (hs:rngL s) (hL:s.length+64 * l.length≤60000000000) :
  ACalls Tryz.prog 38 [.agg [.fn (.func 69) [] [.ptr b 0]],.slice (s.map Pr.c),.slice (l.map Txn.c)] h fun r h'=>r=.ret (.tuple [.slice ((qa5 qb6 procs s l).1.map Pr.c),.slice ((qa5 qb6 procs s l).2.map Eff.c)])∧h'=h:=by
 refine qa0 Tryz.func38 Tryz.ntmps38 rfl (by kernel_rfl) rfl fun E hN hh hu hb hb' hua=>?_;have hgl:g<h.length:=(List.getElem?_eq_some_iff.1 hg).1;have hg':∀ l:qaa,(h++l)[g]?=some (tabO tT tx):=fun l=>by rw [List.getElem?_append_left hgl];exact hg
 have hbl:b<h.length:=(List.getElem?_eq_some_iff.1 hb0).1;have hb1:∀ l:qaa,(h++l)[b]?=some (.cells [.slice (procs.map Proc.c)]):=fun l=>by rw [List.getElem?_append_left hbl];exact hb0
 simp [go_sem] at hb;simp -dsimp [go_sem,hN];refine qaj l.length (fun n=>True) (fun n=>⟨[(1,.slice ((qa5 qb6 procs s (l.take n)).1.map Pr.c)),(3,P0 h.length),(8,.own (h.length+1) n),(12,.slice (l.map Txn.c)),(13,I l.length),(14,I n)],h++[.cells [.fn (.func 69) [] [.ptr b 0]],.arr 63 8 ((qa5 qb6 procs s (l.take n)).2.map Eff.c)]⟩) trivial ((nil_wk E _ 8 63 8 (by simp [go_sem])).trans ?_) ?_
 ·
  simp [qa5];exact (Wk.mk (by simp [hh]) (by simp [go_sem]) (by simp [hu,qar hu,go_sem];omega) (by simp [go_sem]))
 intro n hn _;have hw:=qa6 hn (show _≤68719476736 by omega);obtain ⟨hrs,hrl,hrc⟩:=round_stepState (fmt:=qb6) (procs:=procs) hs hB n hn;simp -dsimp [go_sem,hN];refine cnd ?_ ?_<;>intro hc<;>simp at hc
 ·
  have hnx:=round_next (fmt:=qb6) (procs:=procs) (s:=s) hc;have hone:=fun H hH hH2=>c_serial_with1 (g:=g) (tT:=tT) (tx:=tx) procs (qa5 qb6 procs s (l.take n)).1 l[n] H b hH hH2 (runIn_one hB hrs (List.getElem_mem hc)) (by omega);obtain ⟨X,hX⟩:∃ X,qa5 qb6 procs s (l.take n)=X:=⟨_,rfl⟩
  rw [hX] at hnx hrs hrl hrc;simp only [hX] at hone ⊢;obtain ⟨O,hO⟩:∃ O,oneS qb6 procs X.1 l[n]=O:=⟨_,rfl⟩
  rw [hO] at hnx;simp only [hO] at hone;simp -dsimp [go_sem,hN,hc,Txn.c];refine qam (hone _ (hb1 _) (hg' _)) ?_;rintro r h' ⟨rfl,rfl⟩;simp -dsimp [go_sem,hN,hw,hrc,Eff.c];refine ⟨by omega,hc,?_⟩;rw [hnx];exact (Wk.mk (by simp [hh]) (by simp [go_sem,Eff.c]) (by simp [hu,qar hu,go_sem];omega) (by simp [go_sem]))
 ·
  simp -dsimp [go_sem,hN];rw [if_pos hrc,List.take_of_length_le (by omega)];exact ⟨_,.refl _,h,by simp [go_sem],hwk.app0 _,Nat.le_refl _,hu,rfl,rfl⟩
theorem c_serial_Round (procs:List Proc) (s:List Pr) (l:List Txn) (h:qaa) (hg:h[g]?=some (tabO tT tx)) (hB:BatchIn qb6 procs l) (hs:rngL s) (hL:s.length+64 * l.length≤60000000000) :
  ACalls Tryz.prog 14 [.slice (procs.map Proc.c),.slice (s.map Pr.c),.slice (l.map Txn.c)] h fun r h'=>r=.ret (.tuple [.slice ((qa5 qb6 procs s l).1.map Pr.c),.slice ((qa5 qb6 procs s l).2.map Eff.c)])∧h'=h:=by
 refine qa0 Tryz.func14 Tryz.ntmps14 rfl (by kernel_rfl) rfl fun E hN hh hu hb hb' hua=>?_;have hgl:g<h.length:=(List.getElem?_eq_some_iff.1 hg).1;have hg':∀ l:qaa,(h++l)[g]?=some (tabO tT tx):=fun l=>by rw [List.getElem?_append_left hgl];exact hg
 obtain ⟨X,hX⟩:∃ X,qa5 qb6 procs s l=X:=⟨_,rfl⟩
 have hr:=fun H b h1 h2=>c_engine_round (g:=g) (tT:=tT) (tx:=tx) procs s l H b h1 h2 hB hs hL;simp only [hX] at hr ⊢;simp -dsimp [go_sem,hN];refine qam (c_serial_with procs h) ?_;rintro r h' ⟨rfl,rfl⟩;simp -dsimp [go_sem,hN];refine qam (hr _ h.length (by simp) (hg' _)) ?_;rintro r h' ⟨rfl,rfl⟩;simp -dsimp [go_sem,hN];refine qab (c_Clone_P X.1) ?_;simp -dsimp [go_sem,hN];exact ⟨_,.refl _,h,by simp [go_sem],hwk.app0 _,Nat.le_refl _,hu,rfl,rfl⟩
end Go.Proofs.YtbimdamecieomaaGreatDoor

set_option maxRecDepth 4000
set_option maxHeartbeats 2000000
namespace Go.Proofs.YtbimdamecieomaaGreatDoor
open Go Go.Abs Go.Cw
theorem c_same24 (l:List Pr):APure Tryz.prog 10 [.slice (l.map Pr.c),.slice (l.map Pr.c)] (Bo true):=by
 have:=c_ref06_Same l l
 rwa [sameL_refl (f:=eqP) (fun x=>by simp [eqP,eqVal])] at this
theorem c_effs24 (l:List Eff):APure Tryz.prog 11 [.slice (l.map Eff.c),.slice (l.map Eff.c)] (Bo true):=by
 have:=c_law24_sameEffects l l
 rwa [sameL_refl (f:=sameE) sameE_refl] at this
section
variable {tT:TypeId} {tx:Nat×Nat} {g:Nat}
theorem c_law24_Serial (procs:List Proc) (s:List Pr) (l:List Txn) (choices:List Int) (h:qaa) (hg:h[g]?=some (tabO tT tx)) (hB:BatchIn qb6 procs l) (hs:rngL s) (hL:s.length+192 * l.length≤60000000000) (hl:l.length≤1048576) :
  ACalls Tryz.prog 4 [.agg [.slice (procs.map Proc.c),.slice (s.map Pr.c),.slice (l.map Txn.c)],.slice (choices.map qb1)] h fun r h'=>r=.ret (Bo true)∧h'=h:=by
 refine qa0 Tryz.func4 Tryz.ntmps4 rfl (by kernel_rfl) rfl fun E hN hh hu hb hb' hua=>?_;have hgl:g<h.length:=(List.getElem?_eq_some_iff.1 hg).1;have hg':∀ l:qaa,(h++l)[g]?=some (tabO tT tx):=fun l=>by rw [List.getElem?_append_left hgl];exact hg
 simp [go_sem] at hb;have r1:=fun H hH=>c_ls_Round (g:=g) (tT:=tT) (tx:=tx) procs s l choices H hH hB hs hL hl;have r2:=fun H hH=>c_serial_Round (g:=g) (tT:=tT) (tx:=tx) procs s l H hH hB hs (by omega);have ho:(lsOrd l choices l.length).length=l.length:=by
  rw [List.length_map];exact (lsX_ok (fmt:=qb6) (procs:=procs) (s:=s) (choices:=choices) hB hs l.length (Nat.le_refl _)).2.2.2
 obtain ⟨A,hA⟩:∃ A,qa5 qb6 procs s l=A:=⟨_,rfl⟩
 obtain ⟨O,hO⟩:∃ O,lsOrd l choices l.length=O:=⟨_,rfl⟩
 rw [hO] at ho;simp only [hA,hO] at r1 r2;simp -dsimp [go_sem,hN];refine qam (r1 _ (hg' _)) ?_;rintro r h' ⟨rfl,he⟩;rw [he];simp -dsimp [go_sem,hN];refine qam (r2 _ (hg' _)) ?_;rintro r h' ⟨rfl,he⟩;rw [he];simp -dsimp [go_sem,hN];refine qab (c_same24 A.1) ?_;simp -dsimp [go_sem,hN];refine qag (c_effs24 A.2) (by simp) ?_;simp -dsimp [go_sem,hN,ho];refine tgcall_true (by simp) ((c_law24_examples (tT:=tT) (tx:=tx) (g:=g) _ (hg' _)).mono ?_);rintro r h' ⟨rfl,he⟩;rw [he];simp -dsimp [go_sem,hN];exact ⟨_,.refl _,h,by simp [go_sem],by simp [go_sem],by simp,by simp [hu,go_sem],rfl,rfl⟩
theorem c_law24_Orders (procs:List Proc) (s:List Pr) (l:List Txn) (choices order:List Int) (h:qaa) (hg:h[g]?=some (tabO tT tx)) (hB:BatchIn qb6 procs l) (hs:rngL s) (hL:s.length+192 * l.length≤60000000000) (hl:l.length≤1048576) :
  ACalls Tryz.prog 7 [.agg [.slice (procs.map Proc.c),.slice (s.map Pr.c),.slice (l.map Txn.c)],.slice (choices.map qb1),.slice (order.map qb1)] h fun r h'=>r=.ret (Bo true)∧h'=h:=by
 refine qa0 Tryz.func7 Tryz.ntmps7 rfl (by kernel_rfl) rfl fun E hN hh hu hb hb' hua=>?_;have hgl:g<h.length:=(List.getElem?_eq_some_iff.1 hg).1;have hg':∀ l:qaa,(h++l)[g]?=some (tabO tT tx):=fun l=>by rw [List.getElem?_append_left hgl];exact hg
 simp [go_sem] at hb;have hlk:qcs (ftsL l) (lsOrd l choices l.length)=true:=by
  have:=lk_legal (ftsL l) choices
  rwa [fts_len] at this
 have r1:=fun H hH=>c_ls_Round (g:=g) (tT:=tT) (tx:=tx) procs s l choices H hH hB hs hL hl;have r2:=fun H hH=>c_serial_Round (g:=g) (tT:=tT) (tx:=tx) procs s l H hH hB hs (by omega);have r3:=fun H hH=>c_ls_Replay (g:=g) (tT:=tT) (tx:=tx) procs s l (lsOrd l choices l.length) H hH hB hs hL hl hlk;have r4:=fun H hH ho=>c_ls_Replay (g:=g) (tT:=tT) (tx:=tx) procs s l order H hH hB hs hL hl ho;have k1:=c_ls_Legal (feetE l) (lsOrd l choices l.length) (by simpa using hl);have k2:=c_ls_Legal (feetE l) order (by simpa using hl);rw [feetE_legal] at k1 k2;rw [hlk] at k1;rw [List.map_map] at k1 k2;obtain ⟨A,hA⟩:∃ A,qa5 qb6 procs s l=A:=⟨_,rfl⟩
 obtain ⟨O,hO⟩:∃ O,lsOrd l choices l.length=O:=⟨_,rfl⟩
 simp only [hA,hO] at r1 r2 r3 r4 k1;simp -dsimp [go_sem,hN];refine qam (r1 _ (hg' _)) ?_;rintro r h' ⟨rfl,he⟩;rw [he];simp -dsimp [go_sem,hN];refine qab (c_law24_foots l) ?_;simp -dsimp [go_sem,hN];refine qab k1 ?_;simp -dsimp [go_sem,hN];refine qam (r2 _ (hg' _)) ?_;rintro r h' ⟨rfl,he⟩;rw [he];simp -dsimp [go_sem,hN];refine qam (r3 _ (hg' _)) ?_;rintro r h' ⟨rfl,he⟩;rw [he];simp -dsimp [go_sem,hN];refine qag (c_same24 A.1) (by simp) ?_;simp -dsimp [go_sem,hN];refine qag (c_effs24 A.2) (by simp) ?_;simp -dsimp [go_sem,hN];rcases hno:qcs (ftsL l) order with _ | _
 ·
  rw [hno] at k2;refine qab (c_ls_ReplayNo procs s l order hl hno) ?_;simp -dsimp [go_sem,hN];refine qab (c_law24_foots l) ?_;simp -dsimp [go_sem,hN];refine qab k2 ?_;simp -dsimp [go_sem,hN];refine tgcall_true (by simp) ((c_law24_examples (tT:=tT) (tx:=tx) (g:=g) _ (hg' _)).mono ?_);rintro r h' ⟨rfl,he⟩;rw [he];simp -dsimp [go_sem,hN];exact ⟨_,.refl _,h,by simp [go_sem],by simp [go_sem],by simp,by simp [hu,go_sem],rfl,rfl⟩
 ·
  rw [hno] at k2;refine qam (r4 _ (hg' _) hno) ?_;rintro r h' ⟨rfl,he⟩;rw [he];simp -dsimp [go_sem,hN];refine qab (c_law24_foots l) ?_;simp -dsimp [go_sem,hN];refine qab k2 ?_;simp -dsimp [go_sem,hN];refine qag (c_same24 A.1) (by simp) ?_;simp -dsimp [go_sem,hN];refine qag (c_effs24 A.2) (by simp) ?_;simp -dsimp [go_sem,hN];refine tgcall_true (by simp) ((c_law24_examples (tT:=tT) (tx:=tx) (g:=g) _ (hg' _)).mono ?_);rintro r h' ⟨rfl,he⟩;rw [he];simp -dsimp [go_sem,hN];exact ⟨_,.refl _,h,by simp [go_sem],by simp [go_sem],by simp,by simp [hu,go_sem],rfl,rfl⟩
end
end Go.Proofs.YtbimdamecieomaaGreatDoor
