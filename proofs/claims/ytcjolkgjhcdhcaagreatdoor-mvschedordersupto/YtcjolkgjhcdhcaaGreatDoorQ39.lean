/- Part 39 of a proof: W72, W40, W44, W45, W32, W33, W34, W46, W46b, W46c, W46d, W46e, W41, W42, W42b, W43, W47, W48, W59, W53, W66a, W71 -/
import Derived.Shelf.Small.Strs
import Derived.Shelf.Strconv.Itoa4
import Derived.Lib.ItoaLen
import Derived.Test.YtcjolkgjhcdhcaaGreatDoorQ13
import Derived.Test.YtcjolkgjhcdhcaaGreatDoorQ14
import Derived.Test.YtcjolkgjhcdhcaaGreatDoorQ15
import Derived.Test.YtcjolkgjhcdhcaaGreatDoorQ17
import Derived.Test.YtcjolkgjhcdhcaaGreatDoorQ19
import Derived.Test.YtcjolkgjhcdhcaaGreatDoorQ20
import Derived.Test.YtcjolkgjhcdhcaaGreatDoorQ21
import Derived.Test.YtcjolkgjhcdhcaaGreatDoorQ22
import Derived.Test.YtcjolkgjhcdhcaaGreatDoorQ24
import Derived.Test.YtcjolkgjhcdhcaaGreatDoorQ25
import Derived.Test.YtcjolkgjhcdhcaaGreatDoorQ27
import Derived.Test.YtcjolkgjhcdhcaaGreatDoorQ28
import Derived.Test.YtcjolkgjhcdhcaaGreatDoorQ29
import Derived.Test.YtcjolkgjhcdhcaaGreatDoorQ31
import Derived.Test.YtcjolkgjhcdhcaaGreatDoorQ32
import Derived.Test.YtcjolkgjhcdhcaaGreatDoorQ37
import Derived.Test.YtcjolkgjhcdhcaaGreatDoorQ38
set_option linter.all false

set_option maxRecDepth 4000
set_option maxHeartbeats 2000000
namespace Go.Proofs.YtcjolkgjhcdhcaaGreatDoor
open Go Go.Abs Go.Cw
theorem c_mv_Early (fs:List Foot) (order:List Int) (hl:fs.length≤1000):APure Tryz.prog 24 [.slice (fs.map Foot.c),.slice (order.map iRow)] (I (earlyP fs order)):=by
 refine qad Tryz.func24 rfl (by kernel_rfl) (by simp [Tryz.ntmps24]) rfl ?_
 intro E h hN hh hu hb
 rw [Tryz.ntmps24] at hN
 simp [go_sem] at hb
 obtain ⟨r,hr⟩:∃ r,earlyP fs order=r:=⟨_,rfl⟩
 rw [hr]
 refine qbs (awp_ops ?_)
 simp [go_sem,hN]
 refine qbs (awp_opsT [_,_] _ ?_)
 simp [go_sem,hN]
 intro c a w sm k
 refine wp_makeT sm k (el:=3) (x:=.tmp 13) (d1:=14) (n:=fs.length) (sz:=1) (zr:=[I 0]) rfl rfl (by omega) rfl (by simp [go_sem]) (by simp [go_sem]) (by simp [go_sem]) (by omega) (by simp [go_sem]) (by simp [go_sem]) (by simp [go_sem,nilz]) (by simp [go_sem]) (by simp [go_sem]) (by omega) fun c' a' w' s' k'=>?_
 refine qco _ [_,_,_] _ rfl ?_ c' a' w' s' k'
 simp [go_sem,hN]
 apply qab
 simp -dsimp [go_sem,hN]
 refine qah fs.length (fun n=>True) (fun n=>⟨[(0,.slice (fs.map Foot.c)),(1,.slice (order.map iRow)),(4,I 0),(5,.own h.length fs.length),(16,I fs.length),(17,I n)],h++[.uarr 3 1 ((mN fs.length n).map iRow)]⟩) trivial ?_ ?_
 ·
  rw [mN_0,List.map_replicate]
  exact (Wk.mk (by simp [hh]) (by simp [go_sem,iRow]) (by simp [hu,qaa hu,go_sem]) (by simp [go_sem]))
 intro n hn _
 have hw:=qax hn (show _≤68719476736 by omega)
 have hal:=mN_len hn
 simp -dsimp [go_sem,hN]
 refine cnd ?_ ?_<;>intro hc<;>simp at hc
 ·
  have hset:=mN_set hc
  simp -dsimp [go_sem,hN,hc,hal,hw,← hset,iRow]
  exact (Wk.mk (by simp [hh]) (by simp [go_sem]) (by simp [hu,qaa hu,go_sem]) (by simp [go_sem]))
 ·
  have hn2:n=fs.length:=by omega
  subst hn2
  rw [mN_end]
  unfold earlyP at hr
  simp -dsimp [go_sem,hN]
  refine qa7 (α:=List Int) order.length (fun n m=>m.length=fs.length∧atF fs.length (order.drop n) n m=atF fs.length order 0 (List.replicate fs.length (-1))) (fun n m=>⟨[(0,.slice (fs.map Foot.c)),(1,.slice (order.map iRow)),(4,I 0),(5,.own h.length fs.length),(24,.slice (order.map iRow)),(25,I order.length),(26,I n)],h++[.uarr 3 1 (m.map iRow)]⟩) (List.replicate fs.length (-1)) ⟨by simp,by simp⟩ ?_ ?_
  · exact (Wk.mk (by simp [hh]) (by simp [go_sem]) (by simp [hu,qaa hu,go_sem]) (by simp [go_sem]))
  rintro n m hn ⟨hm,hI⟩
  have hw:=qax hn (show _≤68719476736 by omega)
  simp -dsimp [go_sem,hN]
  refine cnd ?_ ?_<;>intro hc<;>simp at hc
  ·
   rw [qaj hc,atF] at hI
   obtain ⟨k,hk⟩:∃ k,order[n]=k:=⟨_,rfl⟩
   rw [hk] at hI
   by_cases h1:k<0
   ·
    rw [if_pos (.inl h1)] at hI
    rw [← hI] at hr
    subst hr
    simp -dsimp [go_sem,hN,hc,iRow,hk,h1]
   obtain ⟨j,rfl⟩:=Int.eq_ofNat_of_zero_le (show 0≤k by omega)
   rw [Int.toNat_natCast] at hI
   by_cases h2:(fs.length:Int)≤(j:Int)
   ·
    rw [if_pos (.inr (.inl h2))] at hI
    rw [← hI] at hr
    subst hr
    simp -dsimp [go_sem,hN,hc,iRow,hk,h1,h2]
   have hj:j<fs.length:=by omega
   have hjm:j<m.length:=by omega
   have hg:m.getD j (-1)=m[j]:=by rw [List.getD_eq_getElem?_getD,List.getElem?_eq_getElem hjm];rfl
   by_cases h3:0≤m[j]
   ·
    rw [if_pos (.inr (.inr (by rw [hg];exact h3)))] at hI
    rw [← hI] at hr
    subst hr
    simp -dsimp [go_sem,hN,hc,iRow,hk,h1,h2,hj,hjm,hm,h3]
   rw [if_neg (by rw [hg];simp only [not_or];exact ⟨h1,h2,h3⟩)] at hI
   simp -dsimp [go_sem,hN,hc,iRow,hk,h1,h2,hj,hjm,hm,h3,hw]
   exact ⟨m.set j (n:Int),⟨by simp [hm],hI⟩,Wk.mk (by simp [hh]) (by simp [go_sem,iRow]) (by simp [hu,qaa hu,go_sem]) (by simp [go_sem])⟩
  ·
   rw [List.drop_eq_nil_of_le (by omega),atF] at hI
   rw [← hI] at hr
   by_cases h1:order.length=fs.length
   ·
    simp only [ne_eq,h1,not_true_eq_false,if_false] at hr
    have hC:=fun j i (hj:j<fs.length) (hi:i<fs.length)=>show qc6 fs i j=qcx fs[i] fs[j] by
     unfold qc6
     rw [List.getElem?_eq_getElem hj,List.getElem?_eq_getElem hi]
    simp -dsimp [go_sem,hN,h1]
    refine qah fs.length (fun n=>True) (fun j=>⟨[(0,.slice (fs.map Foot.c)),(5,.own h.length fs.length),(9,I (earlyUp m (qc6 fs) j)),(57,I fs.length),(58,I j)],h++[.uarr 3 1 (m.map iRow)]⟩) trivial ?_ ?_
    ·
     rw [earlyUp_0]
     exact (Wk.mk (by simp [hh]) (by simp [go_sem]) (by simp [hu,qaa hu,go_sem]) (by simp [go_sem]))
    intro j hj _
    have hw:=qax hj (show _≤68719476736 by omega)
    have hes:=earlyUp_succ m (qc6 fs) j
    have hel:=earlyUp_le m (qc6 fs) fs.length j hj
    have hel2:j * fs.length≤1000 * 1000:=Nat.mul_le_mul (by omega) (by omega)
    simp only [hes]
    obtain ⟨b,hb'⟩:∃ b,earlyUp m (qc6 fs) j=b:=⟨_,rfl⟩
    rw [hb'] at hel
    simp only [hb']
    simp -dsimp [go_sem,hN]
    refine cnd ?_ ?_<;>intro hc<;>simp at hc
    ·
     simp -dsimp [go_sem,hN]
     refine qah j (fun n=>True) (fun i=>⟨[(0,.slice (fs.map Foot.c)),(5,.own h.length fs.length),(9,I (b+cI m (qc6 fs) j i:Nat)),(10,I j),(57,I fs.length),(58,I j),(61,I j),(62,I i)],h++[.uarr 3 1 (m.map iRow)]⟩) trivial ?_ ?_
     ·
      rw [cI_0]
      exact (Wk.mk (by simp [hh]) (by simp [go_sem]) (by simp [hu,qaa hu,go_sem]) (by simp [go_sem]))
     intro i hi _
     have hw2:=qax hi (show _≤68719476736 by omega)
     have hcs:=cI_succ m (qc6 fs) j i
     have hcl:=cI_le m (qc6 fs) j i
     simp only [hcs]
     obtain ⟨d,hd'⟩:∃ d,cI m (qc6 fs) j i=d:=⟨_,rfl⟩
     rw [hd'] at hcl
     simp only [hd']
     have hwb:IntKind.i64.wrap ((b:Int)+(d:Int)+1)=(b:Int)+(d:Int)+1:=wrapI (by omega) (by omega)
     simp -dsimp [go_sem,hN]
     refine cnd ?_ ?_<;>intro hd<;>simp at hd
     ·
      have hil:i<fs.length:=by omega
      have hjm:j<m.length:=by omega
      have him:i<m.length:=by omega
      rw [hC j i hc hil]
      have hg1:m.getD j (-1)=m[j]:=by rw [List.getD_eq_getElem?_getD,List.getElem?_eq_getElem hjm];rfl
      have hg2:m.getD i (-1)=m[i]:=by rw [List.getD_eq_getElem?_getD,List.getElem?_eq_getElem him];rfl
      rw [hg1,hg2]
      simp -dsimp [go_sem,hN,hc,hil,hjm,him,hm,iRow]
      refine qan 19 mixed (by kernel_rfl) (by kernel_rfl) ?_
      simp -dsimp [go_sem,hN,hc,hil,hjm,him,hm,iRow,Foot.c]
      refine qcr (c_mv_effective fs[i]) (by simp) ?_
      simp -dsimp [go_sem,hN,hc,hil,Foot.c]
      refine qai (c_mv_effective fs[j]) (by simp) ?_
      simp -dsimp [go_sem,hN,hc,hil,Foot.c]
      refine qai (c_fp_Conflicts (qc8 fs[i]) (qc8 fs[j])) (by simp) ?_
      rw [conflS_eff]
      simp -dsimp [go_sem,hN]
      refine cnd (fun h1=>?_) (fun h1=>?_)
      ·
       rw [if_pos (by simpa using h1)]
       simp -dsimp [go_sem,hN,hwb,hw2]
       exact ⟨hd,Wk.mk (by simp [hh]) (by simp [go_sem]) (by simp [hu,qaa hu,go_sem]) (by simp [go_sem,Int.add_assoc])⟩
      ·
       rw [if_neg (by simpa using h1)]
       simp -dsimp [go_sem,hN,hw2]
       exact ⟨hd,(Wk.mk (by simp [hh]) (by simp [go_sem]) (by simp [hu,qaa hu,go_sem]) (by simp [go_sem]))⟩
     ·
      have e:i=j:=by omega
      subst e
      simp -dsimp [go_sem,hN,hw]
      rw [hd']
      exact ⟨hc,(Wk.mk (by simp [hh]) (by simp [go_sem]) (by simp [hu,qaa hu,go_sem]) (by simp [go_sem]))⟩
    ·
     have hj2:j=fs.length:=by omega
     subst hj2
     simp -dsimp [go_sem,hN]
     rw [← hb',hr]
   ·
    simp only [ne_eq,h1,not_false_eq_true,if_true] at hr
    subst hr
    have h1':¬ ((order.length:Int)=(fs.length:Int)):=by omega
    simp -dsimp [go_sem,hN,h1']
end Go.Proofs.YtcjolkgjhcdhcaaGreatDoor

set_option maxRecDepth 4000
set_option maxHeartbeats 1000000
namespace Go.Proofs.YtcjolkgjhcdhcaaGreatDoor
open Go Go.Abs Go.Cw
end Go.Proofs.YtcjolkgjhcdhcaaGreatDoor

set_option maxRecDepth 4000
set_option maxHeartbeats 2000000
namespace Go.Proofs.YtcjolkgjhcdhcaaGreatDoor
open Go Go.Abs Go.Cw
end Go.Proofs.YtcjolkgjhcdhcaaGreatDoor

set_option maxRecDepth 4000
set_option maxHeartbeats 2000000
namespace Go.Proofs.YtcjolkgjhcdhcaaGreatDoor
open Go Go.Abs Go.Cw
section
attribute [local go_sem] RM.c
variable (C:Cfg)
end
end Go.Proofs.YtcjolkgjhcdhcaaGreatDoor

set_option maxRecDepth 8000
set_option maxHeartbeats 2000000
namespace Go.Proofs.YtcjolkgjhcdhcaaGreatDoor
open Go Go.Abs Go.Cw
theorem sameL_refl {α:Type} {f:α→α→Bool} (hf:∀ x,f x x=true):∀ l,qcg f l l=true
 | []=>rfl
 | x::l=>by simp [qcg,hf,sameL_refl hf l]
theorem sameE_refl (e:Eff):sameE e e=true:=by
 simp [sameE,sameL_refl (f:=eqVal) (fun x=>by simp [eqVal]),sameL_refl (f:=eqB) (fun x=>by simp [eqB]),sameL_refl (f:=eqP) (fun x=>by simp [eqP,eqVal])]
variable {tT:TypeId} {tx:Nat×Nat} {g:Nat}
end Go.Proofs.YtcjolkgjhcdhcaaGreatDoor

set_option maxRecDepth 8000
set_option maxHeartbeats 2000000
namespace Go.Proofs.YtcjolkgjhcdhcaaGreatDoor
open Go Go.Abs Go.Cw
variable {tT:TypeId} {tx:Nat×Nat} {g:Nat}
def runC (p:Proc) (args:List V) (ft:Foot):List AV:=[S p.name,.slice (p.params.map Param.c),.slice (p.body.map St.c),.slice (args.map V.c),Bo ft.all,.slice (ft.reads.map qa9),.slice (ft.writes.map qa9)]
attribute [local go_sem] runC
end Go.Proofs.YtcjolkgjhcdhcaaGreatDoor

set_option maxRecDepth 8000
set_option maxHeartbeats 2000000
namespace Go.Proofs.YtcjolkgjhcdhcaaGreatDoor
open Go Go.Abs Go.Cw
variable {tT:TypeId} {tx:Nat×Nat} {g:Nat}
attribute [local go_sem] runC
end Go.Proofs.YtcjolkgjhcdhcaaGreatDoor

set_option maxRecDepth 4000
set_option maxHeartbeats 4000000
namespace Go.Proofs.YtcjolkgjhcdhcaaGreatDoor
open Go Go.Abs Go.Cw
section
attribute [local go_sem] RM.c
variable (C:Cfg)
end
end Go.Proofs.YtcjolkgjhcdhcaaGreatDoor

set_option maxRecDepth 4000
set_option maxHeartbeats 4000000
namespace Go.Proofs.YtcjolkgjhcdhcaaGreatDoor
open Go Go.Abs Go.Cw
section
attribute [local go_sem] RM.c
variable (C:Cfg) (hC:rngC C) (hf:∀ n,i64 n→qbf (C.fmt n)=true) (hF:∀ n,i64 n→APure Tryz.prog 279 [I n] (S (C.fmt n)))
include hC hf hF
end
end Go.Proofs.YtcjolkgjhcdhcaaGreatDoor

set_option maxRecDepth 4000
set_option maxHeartbeats 400000
namespace Go.Proofs.YtcjolkgjhcdhcaaGreatDoor
open Go Go.Abs Go.Cw
section
attribute [local go_sem] RM.c
variable (C:Cfg) (hC:rngC C) (hf:∀ n,i64 n→qbf (C.fmt n)=true) (hF:∀ n,i64 n→APure Tryz.prog 279 [I n] (S (C.fmt n)))
include hC hf hF
end
end Go.Proofs.YtcjolkgjhcdhcaaGreatDoor

set_option maxRecDepth 4000
set_option maxHeartbeats 4000000
namespace Go.Proofs.YtcjolkgjhcdhcaaGreatDoor
open Go Go.Abs Go.Cw
section
attribute [local go_sem] RM.c
variable (C:Cfg) (hC:rngC C) (hf:∀ n,i64 n→qbf (C.fmt n)=true) (hF:∀ n,i64 n→APure Tryz.prog 279 [I n] (S (C.fmt n)))
include hC hf hF
end
end Go.Proofs.YtcjolkgjhcdhcaaGreatDoor

set_option maxRecDepth 4000
set_option maxHeartbeats 4000000
namespace Go.Proofs.YtcjolkgjhcdhcaaGreatDoor
open Go Go.Abs Go.Cw
section
attribute [local go_sem] RM.c
variable (C:Cfg) (hC:rngC C) (hf:∀ n,i64 n→qbf (C.fmt n)=true) (hF:∀ n,i64 n→APure Tryz.prog 279 [I n] (S (C.fmt n)))
include hC hf hF
end
end Go.Proofs.YtcjolkgjhcdhcaaGreatDoor

set_option maxRecDepth 4000
set_option maxHeartbeats 2000000
namespace Go.Proofs.YtcjolkgjhcdhcaaGreatDoor
open Go Go.Abs Go.Cw
section
theorem exz1:Ex.z.op=0:=rfl
theorem exz2:Ex.z.n=0:=rfl
theorem exz3:Ex.z.s=em:=rfl
theorem exz4:Ex.z.args=[]:=rfl
theorem stz1:St.z.op=0:=rfl
theorem stz2:St.z.name=em:=rfl
theorem stz3:St.z.max=0:=rfl
theorem stz4:St.z.a=Ex.z:=rfl
theorem stz5:St.z.b=Ex.z:=rfl
theorem stz6:St.z.body=[]:=rfl
theorem stz7:St.z.els=[]:=rfl
attribute [local go_sem] Vt.c Vt.ofS Vt.ofE exz1 exz2 exz3 exz4 stz1 stz2 stz3 stz4 stz5 stz6 stz7
end
section
attribute [local go_sem] Vt.c
end
end Go.Proofs.YtcjolkgjhcdhcaaGreatDoor

set_option maxRecDepth 4000
set_option maxHeartbeats 2000000
namespace Go.Proofs.YtcjolkgjhcdhcaaGreatDoor
open Go Go.Abs Go.Cw
def pRow (q:qag×Int):List AV:=[S q.1,I q.2]
section
attribute [local go_sem] pRow
end
end Go.Proofs.YtcjolkgjhcdhcaaGreatDoor

set_option maxRecDepth 4000
set_option maxHeartbeats 4000000
namespace Go.Proofs.YtcjolkgjhcdhcaaGreatDoor
open Go Go.Abs Go.Cw
section
attribute [local go_sem] pRow
end
end Go.Proofs.YtcjolkgjhcdhcaaGreatDoor

set_option maxRecDepth 4000
set_option maxHeartbeats 2000000
namespace Go.Proofs.YtcjolkgjhcdhcaaGreatDoor
open Go Go.Abs Go.Cw
section
attribute [local go_sem] Cnt.c
end
end Go.Proofs.YtcjolkgjhcdhcaaGreatDoor

set_option maxRecDepth 4000
set_option maxHeartbeats 4000000
namespace Go.Proofs.YtcjolkgjhcdhcaaGreatDoor
open Go Go.Abs Go.Cw
attribute [local go_sem] mC
variable {C:Cfg} {tT:TypeId} {tx:Nat×Nat} {g m v o io ir ip:Nat} {K:MQ→qae} {n0:Nat}
end Go.Proofs.YtcjolkgjhcdhcaaGreatDoor

set_option maxRecDepth 4000
set_option maxHeartbeats 4000000
namespace Go.Proofs.YtcjolkgjhcdhcaaGreatDoor
open Go Go.Abs Go.Cw
section
attribute [local go_sem] RM.c
variable {tT:TypeId} {tx:Nat×Nat} {g:Nat}
end
end Go.Proofs.YtcjolkgjhcdhcaaGreatDoor

set_option maxRecDepth 4000
set_option maxHeartbeats 2000000
namespace Go.Proofs.YtcjolkgjhcdhcaaGreatDoor
open Go Go.Abs Go.Cw
end Go.Proofs.YtcjolkgjhcdhcaaGreatDoor

set_option maxRecDepth 4000
set_option maxHeartbeats 2000000
namespace Go.Proofs.YtcjolkgjhcdhcaaGreatDoor
open Go Go.Abs Go.Cw
end Go.Proofs.YtcjolkgjhcdhcaaGreatDoor

set_option maxRecDepth 4000
set_option maxHeartbeats 2000000
namespace Go.Proofs.YtcjolkgjhcdhcaaGreatDoor
open Go Go.Abs Go.Cw
theorem c_ref04_Ascending (l:List qag):APure Tryz.prog 77 [.slice (l.map qa9)] (Bo (ascK none l)):=by
 refine qad Tryz.func77 rfl (by kernel_rfl) (by simp [Tryz.ntmps77]) rfl ?_
 intro E h hN hh hu hb
 rw [Tryz.ntmps77] at hN
 refine qab _ _ _ ?_
 simp [go_sem] at hb
 simp -dsimp [go_sem,hN]
 refine qah l.length (fun n=>ascK (qbk l n) (l.drop n)=ascK none l) (fun n=>⟨[(0,.slice (l.map qa9)),(3,I n)],h⟩) (by simp [qbk]) (Wk.mk (by simp [hh]) (by simp [go_sem]) (by simp [hu,qaa hu,go_sem]) (by simp [go_sem])) ?_
 intro n hn hI
 have hw:=qax hn hb.1
 simp -dsimp [go_sem,hN]
 refine cnd ?_ ?_<;>intro hc<;>simp at hc
 ·
  rw [qaj hc,ascK] at hI
  simp -dsimp [go_sem,hN,hc]
  refine qan 19 mixed (by kernel_rfl) (by kernel_rfl) ?_
  simp -dsimp [go_sem,hN,hc]
  refine qcr (c_ref04_Valid _) (by simp) ?_
  cases n with
  | zero =>
   simp -dsimp [go_sem,hN]
   refine cnd ?_ ?_<;>intro hg<;>try simp at hg
   ·
    simp -dsimp [go_sem,hN]
    grind [qbk,after]
   ·
    simp -dsimp [go_sem,hN,hw]
    exact ⟨hc,by simpa [hg,qbk,hc,after] using hI,(Wk.mk (by simp [hh]) (by simp [go_sem]) (by simp [hu,qaa hu,go_sem]) (by simp [go_sem]))⟩
  | succ m =>
   have hm:m<l.length:=by omega
   have hw2:=wrapN (Nat.le_of_lt hm) hb.1
   simp at hw
   simp -dsimp [go_sem,hN,hw2,hm,hc]
   refine ⟨fun hk=>⟨hk,by omega⟩,cnd (fun hg=>?_) (fun hg=>?_)⟩<;>simp at hg
   ·
    simp -dsimp [go_sem,hN]
    rw [← hI]
    rcases hg with h1 | h1<;>simp [qbk,hm,after,h1]
   ·
    simp -dsimp [go_sem,hN,hw]
    simp [hg,qbk,hm,after] at hI
    exact ⟨hc,by simpa [qbk,hc] using hI,(Wk.mk (by simp [hh]) (by simp [go_sem]) (by simp [hu,qaa hu,go_sem]) (by simp [go_sem]))⟩
 ·
  rw [List.drop_eq_nil_of_le (by omega),ascK] at hI
  simp -dsimp [go_sem,hN,← hI]
theorem c_ref19_Valid (f:Foot):APure Tryz.prog 47 [.agg f.c] (Bo (qbw f.all f.reads f.writes)):=by
 refine qad Tryz.func47 rfl (by kernel_rfl) (by simp [Tryz.ntmps47]) rfl ?_
 intro E h hN hh hu hb
 rw [Tryz.ntmps47] at hN
 refine qab _ _ _ ?_
 simp -dsimp [go_sem,hN,Foot.c]
 refine cnd ?_ ?_<;>intro h0<;>try simp at h0
 all_goals simp -dsimp [go_sem,hN,qbw,h0]
 refine qai (c_ref04_Ascending f.reads) (by simp) ?_
 simp -dsimp [go_sem,hN]
 refine qai (c_ref04_Ascending f.writes) (by simp) ?_
 simp -dsimp [go_sem,hN,qbw,h0]
 grind
end Go.Proofs.YtcjolkgjhcdhcaaGreatDoor

set_option maxRecDepth 4000
set_option maxHeartbeats 2000000
namespace Go.Proofs.YtcjolkgjhcdhcaaGreatDoor
open Go Go.Abs Go.Cw
theorem c_ref04_Has (l:List qag) (k:qag):APure Tryz.prog 56 [.slice (l.map qa9),S k] (Bo (hasK l k)):=by
 refine qad Tryz.func56 rfl (by kernel_rfl) (by simp [Tryz.ntmps56]) rfl ?_
 intro E h hN hh hu hb
 rw [Tryz.ntmps56] at hN
 refine qab _ _ _ ?_
 simp [go_sem] at hb
 simp -dsimp [go_sem,hN]
 refine qah l.length (fun n=>hasK (l.drop n) k=hasK l k) (fun n=>⟨[(0,.slice (l.map qa9)),(1,S k),(5,I n)],h⟩) (by simp) (Wk.mk (by simp [hh]) (by simp [go_sem]) (by simp [hu,qaa hu,go_sem]) (by simp [go_sem])) ?_
 intro n hn hI
 have hw:=qax hn hb.1.1
 simp -dsimp [go_sem,hN]
 refine cnd ?_ ?_<;>intro hc<;>simp at hc
 ·
  rw [qaj hc,hasK,anyL] at hI
  simp -dsimp [go_sem,hN,hc]
  refine cnd ?_ ?_<;>intro hg<;>simp at hg
  ·
   simp -dsimp [go_sem,hN]
   simp [← hI,hg]
  ·
   simp -dsimp [go_sem,hN,hw]
   exact ⟨hc,by simpa [hg,hasK] using hI,(Wk.mk (by simp [hh]) (by simp [go_sem]) (by simp [hu,qaa hu,go_sem]) (by simp [go_sem]))⟩
 ·
  rw [List.drop_eq_nil_of_le (by omega),hasK,anyL] at hI
  simp -dsimp [go_sem,hN,← hI]
theorem c_ref19_meet (a b:List qag):APure Tryz.prog 48 [.slice (a.map qa9),.slice (b.map qa9)] (Bo (meetS a b)):=by
 refine qad Tryz.func48 rfl (by kernel_rfl) (by simp [Tryz.ntmps48]) rfl ?_
 intro E h hN hh hu hb
 rw [Tryz.ntmps48] at hN
 refine qab _ _ _ ?_
 simp [go_sem] at hb
 simp -dsimp [go_sem,hN]
 refine qah a.length (fun n=>((a.drop n).any fun k=>hasK b k)=meetS a b) (fun n=>⟨[(0,.slice (a.map qa9)),(1,.slice (b.map qa9)),(5,I n)],h⟩) (by simp [meetS]) (Wk.mk (by simp [hh]) (by simp [go_sem]) (by simp [hu,qaa hu,go_sem]) (by simp [go_sem])) ?_
 intro n hn hI
 have hw:=qax hn hb.1.1
 simp -dsimp [go_sem,hN]
 refine cnd ?_ ?_<;>intro hc<;>simp at hc
 ·
  rw [qaj hc,List.any_cons] at hI
  simp -dsimp [go_sem,hN,hc]
  refine qac (c_ref04_Has b a[n]) ?_
  simp -dsimp [go_sem,hN]
  refine cnd (fun h1=>?_) (fun h1=>?_)
  ·
   simp -dsimp [go_sem,hN]
   rw [← hI,h1]
   simp
  ·
   simp -dsimp [go_sem,hN,hw]
   exact ⟨hc,by simpa [h1] using hI,(Wk.mk (by simp [hh]) (by simp [go_sem]) (by simp [hu,qaa hu,go_sem]) (by simp [go_sem]))⟩
 ·
  rw [List.drop_eq_nil_of_le (by omega),List.any_nil] at hI
  simp -dsimp [go_sem,hN,← hI]
theorem qcq (a b:Foot):APure Tryz.prog 26 [.agg a.c,.agg b.c] (Bo (qcx a b)):=by
 refine qad Tryz.func26 rfl (by kernel_rfl) (by simp [Tryz.ntmps26]) rfl ?_
 intro E h hN hh hu hb
 rw [Tryz.ntmps26] at hN
 refine qab _ _ _ ?_
 simp -dsimp [go_sem,hN,Foot.c]
 refine qac (c_ref19_Valid a) ?_
 simp -dsimp [go_sem,hN]
 refine qai (c_ref19_Valid b) (by simp) ?_
 simp -dsimp [go_sem,hN]
 refine cnd ?_ ?_<;>intro h0<;>simp at h0
 ·
  simp -dsimp [go_sem,hN]
  unfold qcx
  rw [if_pos (by grind)]
 have hC:qcx a b=(meetS a.writes b.writes||(meetS a.writes b.reads||meetS a.reads b.writes)):=by
  unfold qcx
  rw [if_neg (by grind)]
 simp -dsimp [go_sem,hN]
 refine qac (c_ref19_meet a.writes b.writes) ?_
 simp -dsimp [go_sem,hN]
 refine qai (c_ref19_meet a.writes b.reads) (by simp) ?_
 simp -dsimp [go_sem,hN]
 refine qai (c_ref19_meet a.reads b.writes) (by simp) ?_
 simp -dsimp [go_sem,hN,hC]
 grind
theorem c_ref23_Ints (l l':List Nat):APure Tryz.prog 14 [.slice (l.map nR),.slice (l'.map nR)] (Bo (decide (l=l'))):=by
 refine qad Tryz.func14 rfl (by kernel_rfl) (by simp [Tryz.ntmps14]) rfl ?_
 intro E h hN hh hu hb
 rw [Tryz.ntmps14] at hN
 refine qab _ _ _ ?_
 simp [go_sem] at hb
 simp -dsimp [go_sem,hN]
 refine cnd ?_ ?_<;>intro h0<;>simp at h0
 ·
  simp -dsimp [go_sem,hN]
  intro e
  subst e
  omega
 have h0:l.length=l'.length:=by omega
 simp -dsimp [go_sem,hN]
 refine qah l.length (fun n=>decide (l.drop n=l'.drop n)=decide (l=l')) (fun n=>⟨[(0,.slice (l.map nR)),(1,.slice (l'.map nR)),(5,I n)],h⟩) (by simp) (Wk.mk (by simp [hh]) (by simp [go_sem]) (by simp [hu,qaa hu,go_sem]) (by simp [go_sem])) ?_
 intro n hn hI
 have hw:=qax hn hb.1.1
 simp -dsimp [go_sem,hN]
 refine cnd ?_ ?_<;>intro hc<;>simp at hc
 ·
  have hc':n<l'.length:=by omega
  rw [qaj hc,qaj hc'] at hI
  simp -dsimp [go_sem,hN,hc,hc']
  refine qan 8 mixed (by kernel_rfl) (by kernel_rfl) ?_
  simp -dsimp [go_sem,hN,hc,hc',nR]
  refine cnd ?_ ?_<;>intro hg<;>simp at hg
  ·
   simp -dsimp [go_sem,hN]
   intro e
   subst e
   exact hg rfl
  ·
   have e:l[n]=l'[n]:=by omega
   simp -dsimp [go_sem,hN,hw]
   simp only [e,List.cons.injEq,true_and] at hI
   exact ⟨hc,by simpa using hI,(Wk.mk (by simp [hh]) (by simp [go_sem]) (by simp [hu,qaa hu,go_sem]) (by simp [go_sem]))⟩
 ·
  rw [List.drop_eq_nil_of_le (by omega),List.drop_eq_nil_of_le (by omega)] at hI
  simp -dsimp [go_sem,hN,← hI]
theorem c_ref26_norm (f:Foot):APure Tryz.prog 55 [.agg f.c] (.agg (qc8 f).c):=by
 refine qad Tryz.func55 rfl (by kernel_rfl) (by simp [Tryz.ntmps55]) rfl ?_
 intro E h hN hh hu hb
 rw [Tryz.ntmps55] at hN
 refine qab _ _ _ ?_
 simp -dsimp [go_sem,hN,Foot.c]
 refine qac (c_ref19_Valid f) ?_
 simp -dsimp [go_sem,hN]
 refine cnd ?_ ?_<;>intro h0<;>try simp at h0
 · simp -dsimp [go_sem,hN,qc8,h0,Foot.c]
 · simp -dsimp [go_sem,hN,qc8,h0,Foot.c]
theorem c_ref26_Depends (a b:Foot):APure Tryz.prog 33 [.agg a.c,.agg b.c] (Bo (depS (qc8 a) (qc8 b))):=by
 refine qad Tryz.func33 rfl (by kernel_rfl) (by simp [Tryz.ntmps33]) rfl ?_
 intro E h hN hh hu hb
 rw [Tryz.ntmps33] at hN
 refine qab _ _ _ ?_
 simp [go_sem,Foot.c] at hb
 have hR:=depR_eq a b
 unfold depR at hR
 have hna:=c_ref26_norm a
 have hnb:=c_ref26_norm b
 have hbw:(qc8 a).writes.length≤68719476736:=by
  unfold qc8
  split
  · omega
  · simp
 rw [← hR]
 obtain ⟨A,hA⟩:∃ A,qc8 a=A:=⟨_,rfl⟩
 obtain ⟨B,hB⟩:∃ B,qc8 b=B:=⟨_,rfl⟩
 rw [hA] at hna hbw
 rw [hB] at hnb
 rw [hA,hB]
 obtain ⟨R,hRR⟩:∃ R,(B.all||(A.all&&decide (0<B.reads.length))||A.writes.any fun k=>hasK B.reads k)=R:=⟨_,rfl⟩
 rw [hRR]
 simp -dsimp [go_sem,hN,Foot.c]
 refine qan 3 mixed (by kernel_rfl) (by kernel_rfl) ?_
 simp -dsimp [go_sem,hN,Foot.c]
 refine qcr hna (by simp) ?_
 simp -dsimp [go_sem,hN,Foot.c]
 refine qac hnb ?_
 simp -dsimp [go_sem,hN,Foot.c]
 by_cases h1:B.all=true
 ·
  rw [h1] at hRR
  simp only [Bool.true_or] at hRR
  subst hRR
  simp -dsimp [go_sem,hN,h1]
 have h1':B.all=false:=by simpa using h1
 by_cases h2:A.all=true∧0<B.reads.length
 ·
  have h3:B.reads≠[]:=fun e=>by rw [e] at h2;simp at h2
  rw [h1',h2.1,decide_eq_true h2.2] at hRR
  simp only [Bool.true_and,Bool.false_or,Bool.true_or] at hRR
  subst hRR
  simp -dsimp [go_sem,hN,h1',h2.1,h2.2,h3]
 ·
  have hz:(A.all&&decide (0<B.reads.length))=false:=by
   rcases hAa:A.all with _ | _
   · rfl
   ·
    simp only [hAa,true_and] at h2
    simpa using h2
  rw [h1',hz,Bool.false_or,Bool.false_or] at hRR
  simp -dsimp [go_sem,hN,h1',hz]
  refine qah A.writes.length (fun n=>((A.writes.drop n).any fun k=>hasK B.reads k)=(A.writes.any fun k=>hasK B.reads k)) (fun n=>⟨[(2,P0 h.length),(3,P0 (h.length+1)),(5,I n)],h++[.cells A.c,.cells B.c]⟩) (by simp) ?_ ?_
  · exact Wk.mk (by simp [hh]) (by simp [go_sem,Foot.c,h1']) (by simp [hu,qaa hu,go_sem]) (by simp [go_sem])
  intro n hn hI
  rw [hRR] at hI
  have hw:=qax hn hbw
  simp -dsimp [go_sem,hN,Foot.c]
  refine cnd ?_ ?_<;>intro hc<;>simp at hc
  ·
   rw [qaj hc,List.any_cons] at hI
   simp -dsimp [go_sem,hN,hc]
   refine qan 7 mixed (by kernel_rfl) (by kernel_rfl) ?_
   simp -dsimp [go_sem,hN,hc,Foot.c]
   refine qac (c_ref04_Has B.reads A.writes[n]) ?_
   simp -dsimp [go_sem,hN]
   refine cnd (fun h4=>?_) (fun h4=>?_)
   ·
    simp -dsimp [go_sem,hN]
    rw [← hI,h4,Bool.true_or]
   ·
    simp -dsimp [go_sem,hN,hw]
    exact ⟨hc,by rw [hRR];simpa [h4] using hI,Wk.mk (by simp [hh]) (by simp [go_sem,Foot.c]) (by simp [hu,qaa hu,go_sem]) (by simp [go_sem])⟩
  ·
   rw [List.drop_eq_nil_of_le (by omega),List.any_nil] at hI
   simp -dsimp [go_sem,hN,← hI]
theorem c_ref26_Feet (l:List Txn):APure Tryz.prog 23 [.slice (l.map Txn.c)] (.slice ((feetL l).map Foot.c)):=by
 refine qad Tryz.func23 rfl (by kernel_rfl) (by simp [Tryz.ntmps23]) rfl ?_
 intro E h hN hh hu hb
 rw [Tryz.ntmps23] at hN
 refine qab _ _ _ ?_
 simp [go_sem] at hb
 simp -dsimp [go_sem,hN]
 refine qah l.length (fun n=>True) (fun n=>⟨[(0,.slice (l.map Txn.c)),(3,.own h.length n),(4,I n)],h++[.arr 58 3 ((feetR l).take n)]⟩) trivial ((nil_wk E _ 3 58 3 (by simp [go_sem])).trans ?_) ?_
 ·
  simp
  exact (Wk.mk (by simp [hh]) (by simp [go_sem]) (by simp [hu,qaa hu,go_sem]) (by simp [go_sem]))
 intro n hn _
 have hw:=qax hn (show _≤68719476736 by omega)
 have hal:=feetR_tlen hn
 simp -dsimp [go_sem,hN]
 refine cnd ?_ ?_<;>intro hc<;>simp at hc
 ·
  simp -dsimp [go_sem,hN,hc,hw,hal,Txn.c]
  rw [feetR_take hc]
  exact ⟨by omega,Wk.mk (by simp [hh]) (by simp [go_sem,Foot.c]) (by simp [hu,qaa hu,go_sem]) (by simp [go_sem])⟩
 ·
  have hn2:n=l.length:=by omega
  subst hn2
  rw [feetR_all]
  simp -dsimp [go_sem,hN,qdg]
theorem sameL_lenM {α:Type} {f:α→α→Bool}:∀ (a b:List α),qcg f a b=true→a.length=b.length
 | [],[],_=>rfl
 | x::a,y::b,h=>by
  rw [qcg,Bool.and_eq_true] at h
  simp [sameL_lenM a b h.2]
 | [],_::_,h=>by simp [qcg] at h
 | _::_,[],h=>by simp [qcg] at h
theorem c_law26_same (a b:List Eff):APure Tryz.prog 21 [.slice (a.map Eff.c),.slice (b.map Eff.c)] (Bo (qcg sameE a b)):=by
 refine qad Tryz.func21 rfl (by kernel_rfl) (by simp [Tryz.ntmps21]) rfl ?_
 intro E h hN hh hu hb
 rw [Tryz.ntmps21] at hN
 refine qab _ _ _ ?_
 simp [go_sem] at hb
 simp -dsimp [go_sem,hN]
 refine cnd ?_ ?_<;>intro h0<;>simp at h0
 ·
  have h1:qcg sameE a b=false:=by
   rcases Bool.eq_false_or_eq_true (qcg sameE a b) with g | g
   · exact (h0 (by exact_mod_cast sameL_lenM a b g)).elim
   · exact g
  simp -dsimp [go_sem,hN,h1]
 have h0:a.length=b.length:=by omega
 simp -dsimp [go_sem,hN]
 refine qah a.length (fun n=>qcg sameE (a.drop n) (b.drop n)=qcg sameE a b) (fun n=>⟨[(0,.slice (a.map Eff.c)),(1,.slice (b.map Eff.c)),(5,I n)],h⟩) (by simp) (Wk.mk (by simp [hh]) (by simp [go_sem]) (by simp [hu,qaa hu,go_sem]) (by simp [go_sem])) ?_
 intro n hn hI
 have hw:=qax hn (show _≤68719476736 by omega)
 simp -dsimp [go_sem,hN]
 refine cnd ?_ ?_<;>intro hc<;>simp at hc
 ·
  have hc2:n<b.length:=by omega
  rw [qaj hc,qaj hc2,qcg] at hI
  simp -dsimp [go_sem,hN,hc,hc2]
  refine qan 8 mixed (by kernel_rfl) (by kernel_rfl) ?_
  simp -dsimp [go_sem,hN,hc,hc2,Eff.c]
  refine qac (c_ref15_Same a[n] b[n]) ?_
  simp -dsimp [go_sem,hN]
  refine cnd ?_ ?_<;>intro h1<;>simp at h1
  ·
   rw [h1] at hI
   simp -dsimp [go_sem,hN,← hI]
  ·
   rw [h1] at hI
   simp -dsimp [go_sem,hN,hw]
   exact ⟨hc,by simpa using hI,(Wk.mk (by simp [hh]) (by simp [go_sem]) (by simp [hu,qaa hu,go_sem]) (by simp [go_sem]))⟩
 ·
  rw [List.drop_eq_nil_of_le (show a.length≤n by omega),List.drop_eq_nil_of_le (show b.length≤n by omega),qcg] at hI
  simp -dsimp [go_sem,hN,← hI]
end Go.Proofs.YtcjolkgjhcdhcaaGreatDoor
