/- Part 38 of a proof: W96, W100, W101, W66b, W71a, W102, W49 -/
import Derived.Test.YtbimdamecieomaaGreatDoorQ16
import Derived.Test.YtbimdamecieomaaGreatDoorQ19
import Derived.Test.YtbimdamecieomaaGreatDoorQ22
import Derived.Test.YtbimdamecieomaaGreatDoorQ26
import Derived.Test.YtbimdamecieomaaGreatDoorQ28
import Derived.Test.YtbimdamecieomaaGreatDoorQ29
import Derived.Test.YtbimdamecieomaaGreatDoorQ36
import Derived.Test.YtbimdamecieomaaGreatDoorQ37
set_option linter.all false

set_option maxRecDepth 4000
set_option maxHeartbeats 2000000
namespace Go.Proofs.YtbimdamecieomaaGreatDoor
open Go Go.Abs Go.Cw
theorem c_lt_before {H:qaa} (k:Nat) (acc:List Int) (q:List LReq) (t:Int) (hk:H[k]?=some (.uarr 3 1 (acc.map qb1))) (hl:acc.length+q.length<68719476736) :
  ACalls Tryz.prog 103 [.own k acc.length,.slice (q.map LReq.c),I t] H fun r H'=>r=.ret (.own k (acc++befQ t q).length)∧H'=H.set k (.uarr 3 1 ((acc++befQ t q).map qb1)):=by
 refine qbu Tryz.func103 rfl (by kernel_rfl) (by simp [Tryz.ntmps103]) ?_;intro E hN hh hu hb hb' hua;rw [Tryz.ntmps103] at hN;simp [go_sem] at hb;have hkl:=(List.getElem?_eq_some_iff.1 hk).1;refine qai _ _ _ ?_;simp -dsimp [go_sem,hN];refine qab (c_lt_index q t) ?_;have fin:∀ L,hUnder (H.set k (.uarr 3 1 (List.map qb1 L))).length (H.set k (.uarr 3 1 (List.map qb1 L)))=true:=fun L=>by
  rw [qbq];intro ob hob;obtain ⟨i,hi⟩:=List.getElem?_of_mem hob;by_cases e:i=k
  ·
   subst e;rw [List.getElem?_set_self hkl] at hi;cases hi;rfl
  ·
   rw [List.getElem?_set_ne (Ne.symm e)] at hi;have:=qbq.1 hu ob (List.mem_of_getElem? hi);simpa using this
 rcases befQ_at t q with ⟨h1,h2⟩ | ⟨m,hm,h1,h2⟩
 ·
  rw [h2,List.append_nil];rw [show qcp (isT t) q = -1 from h1];have hset:H.set k (.uarr 3 1 (acc.map qb1))=H:=by
   apply List.ext_getElem?;intro i;by_cases e:i=k
   · subst e;rw [List.getElem?_set_self hkl,hk]
   · rw [List.getElem?_set_ne (Ne.symm e)]
  rw [hset];simp -dsimp [go_sem,hN];refine qaj 0 (fun _=>True) (fun n=>⟨[(0,.own k acc.length),(13,I 0),(14,I n)],H⟩) trivial (Wk.slots (by simp [wkS,go_sem])) ?_;intro n hn _;have:n=0:=by omega
  subst this;simp -dsimp [go_sem,hN];refine ⟨_,.refl _,H,?_,hwk.refl _,Nat.le_refl _,hu,?_,rfl⟩
  · rw [hk];simpa [AV.under] using hkl
  · rw [hk]
 ·
  rw [h2];rw [show qcp (isT t) q=(m:Int) from h1];have hmx:(if 0<m then (m:Int) else 0)=(m:Int):=by split<;>omega
  simp -dsimp [go_sem,hN,hmx];obtain ⟨F,hF⟩:∃ F:Nat→List Int,F=fun n=>acc++((q.take n).filter fun x=>x.w||q[m].w).map (·.t):=⟨_,rfl⟩
  have hFm:∀ n,n≤m→(F n).length≤acc.length+n:=fun n hn=>by
   rw [hF];simp only [List.length_append,List.length_map];have:=List.length_filter_le (fun x=>x.w||q[m].w) (q.take n);rw [List.length_take] at this;omega
  have hF1:∀ n (hn:n<q.length),F (n+1)=F n++if q[n].w||q[m].w then [q[n].t] else []:=fun n hn=>by
   rw [hF];simp only [List.take_succ_eq_append_getElem hn,List.filter_append,List.map_append,List.append_assoc];congr 2;rcases h:q[n].w||q[m].w with _ | _<;>simp [h]
  have hset:H.set k (.uarr 3 1 (List.map qb1 (F 0)))=H:=by
   apply List.ext_getElem?;intro i;by_cases e:i=k
   · subst e;rw [List.getElem?_set_self hkl,hk,hF];simp
   · rw [List.getElem?_set_ne (Ne.symm e)]
  have hF0:(F 0).length=acc.length:=by rw [hF];simp
  refine qaj m (fun _=>True) (fun n=>⟨[(0,.own k (F n).length),(1,.slice (q.map LReq.c)),(7,I m),(13,I m),(14,I n)],H.set k (.uarr 3 1 ((F n).map qb1))⟩) trivial (by rw [hset,hF0];exact Wk.slots (by simp [wkS,go_sem,hmx])) ?_;intro n hn _;have hw:=qa6 hn (by omega);have hset2:∀ A B,(H.set k A).set k B=H.set k B:=fun A B=>by simp
  simp -dsimp [go_sem,hN];refine cnd ?_ ?_<;>intro hc<;>simp at hc
  ·
   have hnq:n<q.length:=by omega
   have h9:=hFm n hn;simp -dsimp [go_sem,hN,hnq,hm,LReq.c];refine cnd ?_ ?_<;>intro hg<;>try simp at hg
   ·
    simp -dsimp [go_sem,hN,hw,hnq,hkl,LReq.c];have hF2:F (n+1)=F n++[q[n].t]:=by rw [hF1 n hnq,if_pos (by simpa using hg)]
    refine ⟨by omega,hc,?_⟩;rw [hF2,List.map_append,List.length_append];exact Wk.slots (by simp [wkS,go_sem])
   ·
    simp -dsimp [go_sem,hN,hw];have hF2:F (n+1)=F n:=by rw [hF1 n hnq,if_neg (by simpa using hg),List.append_nil]
    refine ⟨hc,?_⟩;rw [hF2];exact Wk.slots (by simp [wkS,go_sem])
  ·
   have:n=m:=by omega
   subst this;simp -dsimp [go_sem,hN];have hFn:F n=acc++((q.take n).filter fun x=>x.w||q[n].w).map (·.t):=by rw [hF]
   have hlast:=fin (F n);refine ⟨_,.refl _,H.set k (.uarr 3 1 (List.map qb1 (F n))),?_,?_,?_,hlast,?_,?_⟩
   all_goals first
    | exact hwk.refl _
    | (simp [hkl,AV.under,hFn])
end Go.Proofs.YtbimdamecieomaaGreatDoor

set_option maxRecDepth 4000
set_option maxHeartbeats 2000000
namespace Go.Proofs.YtbimdamecieomaaGreatDoor
open Go Go.Abs Go.Cw
theorem c_lt_without1 (x:LReq) (h:qaa) (i:Nat) (t:Int) (hi:h[i]?=some (.cells [I t])):ACalls Tryz.prog 102 [.agg x.c,.ptr i 0] h fun r h'=>r=.ret (Bo (decide (x.t=t)))∧h'=h:=by
 refine qa0 Tryz.func102 Tryz.ntmps102 rfl (by kernel_rfl) rfl fun E hN hh hu hb hb' hua=>?_;have hi':i<h.length:=(List.getElem?_eq_some_iff.1 hi).1;have a1:∀ l,(h++l)[i]?=some (.cells [I t]):=fun l=>by rw [List.getElem?_append_left hi'];exact hi
 simp -dsimp [go_sem,hN,a1,hu,LReq.c];exact ⟨_,.refl _,h,by simp [go_sem],by simp [go_sem],by simp,by simp [hu,go_sem],rfl,rfl⟩
theorem c_lt_without1E (x:LReq) (t:Int):APure Tryz.prog 102 [.agg x.c,.eptr [I t]] (Bo (decide (x.t=t))):=by
 refine qaz Tryz.func102 Tryz.ntmps102 rfl (by kernel_rfl) rfl rfl fun E h hN hh hu hb=>?_;simp -dsimp [go_sem,hN,LReq.c]
theorem qbt {N i:Nat} {H:qaa} {ob:AObj} (h:hUnder N H=true) (ho:ob.under N=true):hUnder N (H.set i ob)=true:=by
 rw [qbq];intro o hob;rcases List.mem_or_eq_of_mem_set hob with h1 | h1
 · exact qbq.1 h o h1
 · rw [h1];exact ho
theorem set_self {H:qaa} {i:Nat} {ob:AObj} (h:H[i]?=some ob):H.set i ob=H:=by
 apply List.ext_getElem?;intro k;by_cases e:k=i
 · subst e;rw [List.getElem?_set_self (List.getElem?_eq_some_iff.1 h).1,h]
 · rw [List.getElem?_set_ne (Ne.symm e)]
def delT (t:Int) (l:List LReq):List LReq:=l.filter fun x=>!isT t x
theorem c_lt_DeleteFunc {H:qaa} {i ci:Nat} (l:List LReq) (t:Int) (hi:H[i]?=some (.uarr 95 2 (l.map LReq.c))) (hci:H[ci]?=some (.cells [I t])) (hl:l.length<68719476736) :
  ACalls Tryz.prog 101 [.own i l.length,.fn (.func 102) [] [.ptr ci 0]] H fun r H'=>r=.ret (.slice ((delT t l).map LReq.c))∧∃ X,H'=H.set i (.arr 95 2 X):=by
 refine qbu Tryz.func101 rfl (by kernel_rfl) (by simp [Tryz.ntmps101]) ?_;intro E hN hh hu hb hb' hua;rw [Tryz.ntmps101] at hN;have hil:=(List.getElem?_eq_some_iff.1 hi).1;have hcl:=(List.getElem?_eq_some_iff.1 hci).1;have hne:i≠ci:=fun e=>by rw [e,hci] at hi;cases hi
 refine qau (qcq ?_);simp [go_sem,hN];refine qau (qb5 [_,_] _ ?_);simp [go_sem,hN];intro c a w s k;refine wp_borV s k (f:=.func 75) (args:=#[.tmp 8,.tmp 9]) rfl (by simp [dstOk,hN]) rfl (by simp [go_sem]) (fid:=75) (by simp [go_sem])
  (fun y=>match y with | .tmp 8=>.slice (l.map LReq.c) | _=>.fn (.func 102) [] [.eptr [I t]]) ?_ (x:=I (qcp (isT t) l)) (fun h=>c_IndexFunc_R l _ _ (isT t) h (by simp [qa4,AV.norm]) fun x=>c_lt_without1E x t h) rfl ?_
 ·
  intro y hy v hr;simp only [List.mem_cons,List.not_mem_nil,or_false] at hy;rcases hy with rfl | rfl
  · exact view_uarr (n:=l.length) s.hs hi (by simp) (by simpa [go_sem] using hr)
  · exact view_fn1 (fun u hu=>view_ptr s.hs hci (by simp [AV.isData];rfl) hu) (by simpa [go_sem] using hr)
 intro a' w' s' k';refine qbd _ [_,_,_] _ rfl ?_ _ a' w' s' k';simp [go_sem,hN];have hfe:delT t l=l.filter fun x=>!isT t x:=rfl;clear s' k' s k;rcases idxR_find (isT t) l with ⟨h1,h2⟩ | ⟨m,hm,h1,h2⟩
 ·
  rw [h1];refine AWp.wk (qbz E _ (i:=i) hi) ?_;apply qai;have hi2:(H.set i (.arr 95 2 (l.map LReq.c)))[i]?=some (.arr 95 2 (l.map LReq.c)):=List.getElem?_set_self hil;simp -dsimp [go_sem,hN,hi2];have hd:delT t l=l:=List.filter_eq_self.2 fun x hx=>by
   have:=List.find?_eq_none.1 h2 x hx;simpa using this
  exact ⟨_,.refl _,H.set i (.arr 95 2 (l.map LReq.c)),rfl,hwk.refl _,by simp,by rw [List.length_set];exact qbt hu rfl,by rw [hd],_,rfl⟩
 ·
  rw [h1];have hw1':IntKind.i64.wrap ((m:Int)+1)=((m+1:Nat):Int):=by rw [qa6 (Nat.le_of_lt hm) (by omega)];omega
  refine awp_seqW (e1:=⟨[(0,.own i l.length),(1,.fn (.func 102) [] [.ptr ci 0]),(5,I m)],H⟩) ?_ ?_
  ·
   simp -dsimp [go_sem,hN];exact Wk.slots (by simp [wkS,go_sem])
  refine awp_seqI (ι:=List LReq) (fun A=>A.length=l.length∧A.take (delT t l).length=delT t l) (fun A=>⟨[(0,.own i l.length),(5,I (delT t l).length)],H.set i (.uarr 95 2 (A.map LReq.c))⟩) ?_ ?_
  rotate_left
  ·
   rintro A ⟨a1,a2⟩;have hi3:(H.set i (.uarr 95 2 (A.map LReq.c)))[i]?=some (.uarr 95 2 (A.map LReq.c)):=List.getElem?_set_self hil;refine qau (qb5 [_,_] _ ?_);simp [go_sem,hN];intro c a w s k;refine wp_clear s k (T:=53) (el:=95) (x:=.tmp 36) (y:=.tmp 37) (d1:=38) (n:=l.length) (j:=(delT t l).length) (i:=i) (sz:=2) (zr:=[I 0,Bo false]) (rows:=A.map LReq.c) rfl rfl rfl (by omega) rfl rfl rfl (by simp [go_sem]) (by simp [go_sem]) (by simp [go_sem]) (by omega) (by simp [go_sem]) (by simp [go_sem];exact ⟨rfl,rfl⟩) (by simp [go_sem]) (by simp [go_sem]) (by simp [go_sem]) hi3 (by simp [a1]) (by rw [← a2,List.length_take];omega) ?_;intro a' w' s' k';refine qbd _ [_,_,_,_] _ rfl ?_ c a' w' s' k';simp [go_sem,hN];clear s' k' s k;have hjl:(delT t l).length≤l.length:=List.length_filter_le _ _;obtain ⟨R,hR⟩:∃ R,List.take (delT t l).length (List.map LReq.c A)++List.replicate (l.length - (delT t l).length) [I 0,Bo false]=R:=⟨_,rfl⟩
   have hRl:R.length=l.length:=by rw [← hR];simp [a1];omega
   have hRt:R.take (delT t l).length=(delT t l).map LReq.c:=by rw [← hR,List.take_append_of_le_length (by simp [a1];omega),List.take_take,Nat.min_self,← List.map_take,a2]
   rw [hR];refine AWp.wk (qbz E _ (i:=i) (t:=95) (sz:=2) (rows:=R) (by simpa using List.getElem?_set_self hil)) ?_;have hi5:(H.set i (.arr 95 2 R))[i]?=some (.arr 95 2 R):=List.getElem?_set_self hil;apply qai;simp only [List.set_set];simp -dsimp [go_sem,hN,hi5,hRl,hRt,hjl];refine ⟨fun r hr=>?_,?_⟩
   ·
    rw [← hR] at hr;rcases List.mem_append.1 hr with h9 | h9
    ·
     obtain ⟨x,_,rfl⟩:=List.mem_map.1 (List.mem_of_mem_take h9);rfl
    · rw [List.eq_of_mem_replicate h9];rfl
   exact ⟨_,.refl _,H.set i (.arr 95 2 R),rfl,hwk.refl _,by simp,by rw [List.length_set];exact qbt hu rfl,rfl,_,rfl⟩
  simp -dsimp [go_sem,hN];rw [hw1'];have hd1:delT t (l.take (m+1))=l.take m:=by
   unfold delT;rw [List.take_succ_eq_append_getElem hm,List.filter_append];have e1:(l.take m).filter (fun x=>!isT t x)=l.take m:=List.filter_eq_self.2 fun x hx=>by
    rw [← takeWhile_idx (isT t) l 0 m (by rw [Nat.zero_add];exact h1)] at hx;exact List.all_eq_true.1 List.all_takeWhile x hx
   have e2:isT t l[m]=true:=List.find?_some h2;rw [e1];simp [e2]
  refine qbh (α:=List LReq) (l.length - (m+1)) (fun n A=>A.length=l.length∧A.take (delT t (l.take (m+1+n))).length=delT t (l.take (m+1+n))∧A.drop (m+1+n)=l.drop (m+1+n)∧(delT t (l.take (m+1+n))).length≤m+n)
   (fun n A=>⟨[(0,.own i l.length),(1,.fn (.func 102) [] [.ptr ci 0]),(5,I ((delT t (l.take (m+1+n))).length)),(6,I ((m+1+n:Nat)))],H.set i (.uarr 95 2 (A.map LReq.c))⟩) l ?_ ?_ ?_
  ·
   rw [Nat.add_zero,hd1];have:(l.take m).length=m:=by rw [List.length_take];omega
   exact ⟨rfl,by rw [this],rfl,by omega⟩
  ·
   rw [set_self hi,Nat.add_zero,hd1];have:(l.take m).length=m:=by rw [List.length_take];omega
   rw [this];exact Wk.slots (by simp [wkS,go_sem])
  rintro n A hn ⟨a1,a2,a3,a4⟩;obtain ⟨k,hk⟩:∃ k,m+1+n=k:=⟨_,rfl⟩
  obtain ⟨j,hj⟩:∃ j,(delT t (l.take k)).length=j:=⟨_,rfl⟩
  rw [show m+1+(n+1)=k+1 by omega];rw [hk] at a2 a3 a4 ⊢;rw [hj] at a2 a4 ⊢;have hi3:(H.set i (.uarr 95 2 (A.map LReq.c)))[i]?=some (.uarr 95 2 (A.map LReq.c)):=List.getElem?_set_self hil;have hi4:∀ Z,(H.set i (.uarr 95 2 (A.map LReq.c))++Z)[i]?=some (.uarr 95 2 (A.map LReq.c)):=fun Z=>by rw [List.getElem?_append_left (by simpa using hil)];exact hi3
  have hc4:∀ Z,(H.set i (.uarr 95 2 (A.map LReq.c))++Z)[ci]?=some (.cells [I t]):=fun Z=>by rw [List.getElem?_append_left (by simpa using hcl),List.getElem?_set_ne hne];exact hci
  have hw:=qa6 (n:=k) (L:=l.length) (by omega) (by omega);have hwj:=qa6 (n:=j) (L:=l.length) (by omega) (by omega);have hkl:k≤l.length:=by omega
  simp -dsimp [go_sem,hN,hi3,a1];refine cnd ?_ ?_<;>intro hc<;>simp at hc
  ·
   have hAk:∀ h,A[k]'h=l[k]:=fun h=>by
    have:(A.drop k)[0]?=(l.drop k)[0]?:=by rw [a3]
    rw [List.getElem?_drop,List.getElem?_drop,Nat.add_zero,List.getElem?_eq_getElem h,List.getElem?_eq_getElem hc] at this;exact Option.some.inj this
   have hd2:delT t (l.take (k+1))=delT t (l.take k)++if isT t l[k] then [] else [l[k]]:=by
    unfold delT;rw [List.take_succ_eq_append_getElem hc,List.filter_append];congr 1;rcases h:isT t l[k] with _ | _<;>simp [h]
   have hdk:A.drop (k+1)=l.drop (k+1):=by
    have:=congrArg (List.drop 1) a3
    rwa [List.drop_drop,List.drop_drop] at this
   have hjk:j<l.length:=by omega
   simp -dsimp [go_sem,hN,hi3,hi4,a1,hc,hAk,LReq.c];refine qam (c_lt_without1 l[k] _ ci t (hc4 _)) ?_;rintro r h' ⟨rfl,rfl⟩;simp -dsimp [go_sem,hN];refine cnd ?_ ?_<;>intro hg<;>simp at hg
   ·
    simp -dsimp [go_sem,hN,hi3,hi4,a1,hjk,hw,hwj,LReq.c];have hd3:delT t (l.take (k+1))=delT t (l.take k)++[l[k]]:=by rw [hd2];simp [hg]
    have hl3:(delT t (l.take (k+1))).length=j+1:=by rw [hd3];simp [hj]
    refine ⟨by omega,A.set j l[k],⟨by simp [a1],?_,?_,by omega⟩,?_⟩
    · rw [hl3,hd3,← a2,List.take_succ_eq_append_getElem (by rw [List.length_set];omega),List.getElem_set_self,List.take_set_of_le (Nat.le_refl _)]
    · rw [List.drop_set,if_pos (by omega)];exact hdk
    ·
     rw [hl3,List.set_append_left _ _ (by simpa using hil),List.set_set,List.map_set];exact Wk.mk (by simp [hh]) (hwk.app0 _) (by rw [List.length_set];exact qbt hu rfl) (by simp [go_sem,LReq.c,hil,hcl])
   ·
    simp -dsimp [go_sem,hN,hw];have hd3:delT t (l.take (k+1))=delT t (l.take k):=by rw [hd2];simp [hg]
    refine ⟨by omega,A,⟨a1,by rw [hd3,hj];exact a2,hdk,by rw [hd3];omega⟩,?_⟩;rw [hd3,hj];exact Wk.mk (by simp [hh]) (hwk.app0 _) (by rw [List.length_set];exact qbt hu rfl) (by simp [go_sem,LReq.c,hil,hcl])
  ·
   have hke:k=l.length:=by omega
   simp -dsimp [go_sem,hN];refine ⟨A,⟨a1,?_⟩,?_⟩
   ·
    rw [hke,List.take_length] at a2 hj;rw [hj];exact a2
   ·
    rw [hke,List.take_length] at hj;rw [hj];exact Wk.slots (by simp [wkS,go_sem])
end Go.Proofs.YtbimdamecieomaaGreatDoor

set_option maxRecDepth 4000
set_option maxHeartbeats 2000000
namespace Go.Proofs.YtbimdamecieomaaGreatDoor
open Go Go.Abs Go.Cw
theorem c_lt_without (q:List LReq) (t:Int) (hl:q.length<68719476736):APure Tryz.prog 53 [.slice (q.map LReq.c),I t] (.slice ((dropQ t q).map LReq.c)):=by
 refine qaz Tryz.func53 Tryz.ntmps53 rfl (by kernel_rfl) rfl rfl fun E h hN hh hu hb=>?_;simp [go_sem] at hb;simp -dsimp [go_sem,hN];refine qam (c_lt_copied q _) ?_;rintro r h' ⟨rfl,rfl⟩;simp -dsimp [go_sem,hN];refine qam (c_lt_DeleteFunc (H:=h++[.cells [I t],.uarr 95 2 (q.map LReq.c)]) (i:=h.length+1) (ci:=h.length) q t (by simp) (by simp) hl) ?_;rintro r h' ⟨rfl,X,rfl⟩;have e1:(h++[AObj.cells [I t],.uarr 95 2 (q.map LReq.c)]).set (h.length+1) (.arr 95 2 X)=h++[AObj.cells [I t],.arr 95 2 X]:=by simp
 rw [e1];simp -dsimp [go_sem,hN];rfl
theorem relQ_snoc (t:Int) (q:LQ):∀ l,relQ t (l++[q])=relQ t l++if (dropQ t q.reqs).length=0 then [] else [⟨q.key,dropQ t q.reqs⟩]
 | []=>by
  rw [List.nil_append,relQ,relQ,relQ];rcases dropQ t q.reqs with _ | ⟨x,l⟩<;>simp
 | x::l=>by
  have ih:=relQ_snoc t q l;rw [List.cons_append,relQ,ih,relQ];rcases dropQ t x.reqs with _ | ⟨y,m⟩<;>simp
theorem relQ_len (t:Int):∀ l,(relQ t l).length≤l.length
 | []=>Nat.le_refl _
 | x::l=>by
  have ih:=relQ_len t l;rw [relQ];split<;>simp<;>omega
theorem c_lt_Release (T:LT) (t:Int) (hv:validT T=true) (hix:0≤qcp (isT t) T.glob) (hl:T.glob.length<68719476736) (hq:T.qs.length<68719476736) (hr:∀ x∈T.qs,x.reqs.length<68719476736) :
  APure Tryz.prog 25 [.agg T.c,I t] (.tuple [.agg (relT t T).c,I 0]):=by
 refine qaz Tryz.func25 Tryz.ntmps25 rfl (by kernel_rfl) rfl rfl fun E h hN hh hu hb=>?_;simp [go_sem,LT.c] at hb;simp -dsimp [go_sem,hN,LT.c];refine qab (c_lt_Valid T) ?_;simp -dsimp [go_sem,hN,hv];refine qab (c_lt_index T.glob t) ?_;have hix2:¬ qcp (isT t) T.glob<0:=by omega
 simp -dsimp [go_sem,hN,hix2];refine qab (c_lt_without T.glob t hl) ?_;simp -dsimp [go_sem,hN];obtain ⟨F,hF⟩:∃ F:Nat→List LQ,F=fun n=>relQ t (T.qs.take n):=⟨_,rfl⟩
 have hF0:F 0=[]:=by rw [hF];simp [relQ]
 have hF1:∀ n (hn:n<T.qs.length),F (n+1)=F n++if (dropQ t T.qs[n].reqs).length=0 then [] else [⟨T.qs[n].key,dropQ t T.qs[n].reqs⟩]:=fun n hn=>by
  rw [hF];simp only [List.take_succ_eq_append_getElem hn,relQ_snoc]
 have hFl:∀ n,(F n).length≤n:=fun n=>by
  rw [hF];refine Nat.le_trans (relQ_len t _) ?_;rw [List.length_take];omega
 have hFe:F T.qs.length=relQ t T.qs:=by rw [hF];simp
 refine qaj T.qs.length (fun _=>True) (fun n=>⟨[(1,I t),(4,P0 (h.length+1)),(6,P0 (h.length+2)),(28,.slice (T.qs.map LQ.c)),(29,I T.qs.length),(30,I n)],h++[.cells [.slice (T.glob.map LReq.c),.slice (T.qs.map LQ.c)],.cells [.nils,.nils],.cells [.slice ((dropQ t T.glob).map LReq.c),.own (h.length+3) (F n).length],.arr 107 2 ((F n).map LQ.c)]⟩) trivial
  ((nilc_wk E _ (p:=h.length+2) (j:=1) (t:=107) (sz:=2) (xs:=[.slice ((dropQ t T.glob).map LReq.c),.nils]) (by simp) (by simp)).trans (by rw [hF0];exact wkA)) ?_
 intro n hn _;have hw:=qa6 hn (by omega);simp -dsimp [go_sem,hN];refine cnd ?_ ?_<;>intro hc<;>simp at hc
 ·
  simp -dsimp [go_sem,hN,hc,LQ.c];refine qab (c_lt_without T.qs[n].reqs t (hr _ (List.getElem_mem hc))) ?_;simp -dsimp [go_sem,hN];have h9:=hFl n;refine cnd ?_ ?_<;>intro hg<;>simp at hg
  ·
   have hF2:F (n+1)=F n++[⟨T.qs[n].key,dropQ t T.qs[n].reqs⟩]:=by rw [hF1 n hc,if_neg (by omega)]
   simp -dsimp [go_sem,hN,hw,LQ.c];refine ⟨by omega,hc,?_⟩;rw [hF2,List.map_append,List.length_append,List.map_cons,List.map_nil,show LQ.c ⟨T.qs[n].key,dropQ t T.qs[n].reqs⟩=[S T.qs[n].key,.slice ((dropQ t T.qs[n].reqs).map LReq.c)] from rfl];exact (wkA (by simp [go_sem,LQ.c]))
  ·
   have hF2:F (n+1)=F n:=by rw [hF1 n hc];simp [hg]
   simp -dsimp [go_sem,hN,hw];refine ⟨hc,?_⟩;rw [hF2];exact (wkA (by simp [go_sem,LQ.c]))
 ·
  have hne:n=T.qs.length:=by omega
  subst hne;simp -dsimp [go_sem,hN];simp [hFe,relT,LT.c]
end Go.Proofs.YtbimdamecieomaaGreatDoor

set_option maxRecDepth 4000
set_option maxHeartbeats 2000000
namespace Go.Proofs.YtbimdamecieomaaGreatDoor
open Go Go.Abs Go.Cw
theorem c_ref04_Ascending (l:List qac):APure Tryz.prog 108 [.slice (l.map qbf)] (Bo (ascK none l)):=by
 refine qaz Tryz.func108 Tryz.ntmps108 rfl (by kernel_rfl) rfl rfl fun E h hN hh hu hb=>?_;simp [go_sem] at hb;simp -dsimp [go_sem,hN];refine qaj l.length (fun n=>ascK (qbc l n) (l.drop n)=ascK none l) (fun n=>⟨[(0,.slice (l.map qbf)),(3,I n)],h⟩) (by simp [qbc]) wkA ?_;intro n hn hI;have hw:=qa6 hn hb.1;simp -dsimp [go_sem,hN];refine cnd ?_ ?_<;>intro hc<;>simp at hc
 ·
  rw [qah hc,ascK] at hI;simp -dsimp [go_sem,hN,hc];refine qan 19 mixed (by kernel_rfl) (by kernel_rfl) ?_;simp -dsimp [go_sem,hN,hc];refine tdcall (c_ref04_Valid _) (by simp) ?_;cases n with
  | zero =>
   simp -dsimp [go_sem,hN];refine cnd ?_ ?_<;>intro hg<;>try simp at hg
   ·
    simp -dsimp [go_sem,hN];grind [qbc,after]
   ·
    simp -dsimp [go_sem,hN,hw];exact ⟨hc,by simpa [hg,qbc,hc,after] using hI,wkA⟩
  | succ m =>
   have hm:m<l.length:=by omega
   have hw2:=wrapN (Nat.le_of_lt hm) hb.1;simp at hw;simp -dsimp [go_sem,hN,hw2,hm,hc];refine ⟨fun hk=>⟨hk,by omega⟩,cnd (fun hg=>?_) (fun hg=>?_)⟩<;>simp at hg
   ·
    simp -dsimp [go_sem,hN];rw [← hI];rcases hg with h1 | h1<;>simp [qbc,hm,after,h1]
   ·
    simp -dsimp [go_sem,hN,hw];simp [hg,qbc,hm,after] at hI;exact ⟨hc,by simpa [qbc,hc] using hI,wkA⟩
 ·
  rw [List.drop_eq_nil_of_le (by omega),ascK] at hI;simp -dsimp [go_sem,hN,← hI]
theorem c_ref19_Valid (f:Foot):APure Tryz.prog 56 [.agg f.c] (Bo (qbi f.all f.reads f.writes)):=by
 refine qaz Tryz.func56 Tryz.ntmps56 rfl (by kernel_rfl) rfl rfl fun E h hN hh hu hb=>?_;simp -dsimp [go_sem,hN,Foot.c];refine cnd ?_ ?_<;>intro h0<;>try simp at h0
 all_goals simp -dsimp [go_sem,hN,qbi,h0]
 refine qag (c_ref04_Ascending f.reads) (by simp) ?_;simp -dsimp [go_sem,hN];refine qag (c_ref04_Ascending f.writes) (by simp) ?_;simp -dsimp [go_sem,hN,qbi,h0];grind
end Go.Proofs.YtbimdamecieomaaGreatDoor

set_option maxRecDepth 4000
set_option maxHeartbeats 2000000
namespace Go.Proofs.YtbimdamecieomaaGreatDoor
open Go Go.Abs Go.Cw
end Go.Proofs.YtbimdamecieomaaGreatDoor

set_option maxRecDepth 4000
set_option maxHeartbeats 2000000
namespace Go.Proofs.YtbimdamecieomaaGreatDoor
open Go Go.Abs Go.Cw
theorem c_ls_locks (f:Foot):APure Tryz.prog 22 [.agg f.c] (.agg (effF f).c):=by
 refine qaz Tryz.func22 Tryz.ntmps22 rfl (by kernel_rfl) rfl rfl fun E h hN hh hu hb=>?_;simp -dsimp [go_sem,hN,Foot.c];refine qab (c_fp_Valid f) ?_;simp -dsimp [go_sem,hN];refine cnd ?_ ?_<;>intro h0<;>try simp at h0
 · simp -dsimp [go_sem,hN,effF,h0,Foot.c]
 · simp -dsimp [go_sem,hN,effF,h0,Foot.c]
theorem c_ref24_Foot (f:Foot):APure Tryz.prog 29 [.agg f.c] (.agg (effF f).c):=by
 refine qaz Tryz.func29 Tryz.ntmps29 rfl (by kernel_rfl) rfl rfl fun E h hN hh hu hb=>?_;simp -dsimp [go_sem,hN,Foot.c];refine qab (c_ref19_Valid f) ?_;simp -dsimp [go_sem,hN];refine cnd ?_ ?_<;>intro h0<;>try simp at h0
 · simp -dsimp [go_sem,hN,effF,h0,Foot.c]
 · simp -dsimp [go_sem,hN,effF,h0,Foot.c]
theorem c_ls_choose (choices:List Int) (step n:Nat) (hn:0<n):APure Tryz.prog 27 [.slice (choices.map qb1),I step,I n] (I (choiceS choices step n)):=by
 refine qaz Tryz.func27 Tryz.ntmps27 rfl (by kernel_rfl) rfl rfl fun E h hN hh hu hb=>?_;simp [go_sem] at hb;have hC:=choice_iff (choices:=choices) (step:=step) (n:=n);by_cases hs:step<choices.length
 ·
  rw [dif_pos hs] at hC;have hz:¬ (choices.length:Int)≤(step:Int):=by omega
  simp -dsimp [go_sem,hN,hs,hz,qb1];refine cnd ?_ ?_<;>intro h0<;>simp at h0
  ·
   rw [if_pos (by omega)] at hC;simp -dsimp [go_sem,hN,hC]
  ·
   rw [if_neg (by omega)] at hC;obtain ⟨c,hc⟩:=Int.eq_ofNat_of_zero_le (show 0≤choices[step] by omega);have hm:choices[step].tmod (n:Int)=((choices[step].toNat % n:Nat):Int):=by
    rw [hc,Int.toNat_natCast];exact (Int.ofNat_tmod c n).symm
   simp -dsimp [go_sem,hN,hs,qb1,hm,hC];omega
 ·
  rw [dif_neg hs] at hC;have hz:(choices.length:Int)≤(step:Int):=by omega
  simp -dsimp [go_sem,hN,hz,hC]
end Go.Proofs.YtbimdamecieomaaGreatDoor

set_option maxRecDepth 4000
set_option maxHeartbeats 2000000
namespace Go.Proofs.YtbimdamecieomaaGreatDoor
open Go Go.Abs Go.Cw
theorem c_Clone_P (l:List Pr):APure Tryz.prog 39 [.slice (l.map Pr.c)] (.slice (l.map Pr.c)):=by
 refine qcz Tryz.func39 rfl (by kernel_rfl) (by simp [Tryz.ntmps39]) rfl ?_;intro E h hN hh hu hb;rw [Tryz.ntmps39] at hN;simp [go_sem] at hb;refine qau (qcq ?_);simp [go_sem,hN];refine qau (qau (qb5 [_] _ ?_));simp [go_sem,hN];intro c a w s k;refine wp_eqnil s (el:=73) (sz:=4) (x:=.tmp 3) (rows:=l.map Pr.c) (d1:=4) rfl rfl (by omega) rfl (by simp [go_sem]) (by simp [go_sem]) (by simp [go_sem]) fun b a' hbn s'=>?_;refine qbd _ [_,_] _ rfl ?_ c a' w s' k;simp [go_sem,hN];cases b with
 | true =>
  have hl:l=[]:=by simpa using hbn rfl
  subst hl;apply qai;simp -dsimp [go_sem,hN]
 | false =>
  refine awp_cond (x:=.tmp 4) (b:=false) (by simp [go_sem]) (fun h=>by cases h) (fun _=>awp_skip ?_);simp only [then_normal];refine qau (qb5 [] _ ?_);simp [go_sem,hN];intro c a w s k;refine wp_lit0 s k (el:=73) (sz:=4) (d1:=5) rfl rfl (by omega) rfl (by simp [go_sem]) (by simp [go_sem]) (by simp [go_sem]) (by omega) fun c' a' w' s' k'=>?_;refine qbd _ [_] _ rfl ?_ c' a' w' s' k';simp [go_sem,hN];refine ⟨hb.1,?_⟩;apply qai;simp -dsimp [go_sem,hN]
theorem c_state_order (p q:Pr):APure Tryz.prog 99 [.agg p.c,.agg q.c] (I (cmpS p.key q.key)):=by
 refine qaz Tryz.func99 Tryz.ntmps99 rfl (by kernel_rfl) rfl rfl fun E h hN hh hu hb=>?_;simp -dsimp [go_sem,hN];refine qab (c_strings_Compare p.key q.key) ?_;simp -dsimp [go_sem,hN]
theorem c_state_Apply1 (p:Pr) (h:qaa) (o i:Nat) (l:List Pr) (hp:h[o]?=some (.cells [.own i l.length])) (hi:h[i]?=some (.arr 73 4 (l.map Pr.c))) (hl:l.length+1≤68719476736) :
  ACalls Tryz.prog 95 [.agg p.c,.ptr o 0] h fun r h'=>r=.ret (.tuple [])∧h'=(h.set i (.arr 73 4 ((l++[p]).map Pr.c))).set o (.cells [.own i (l++[p]).length]):=by
 refine qa0 Tryz.func95 Tryz.ntmps95 rfl (by kernel_rfl) rfl fun E hN hh hu hb hb' hua=>?_;simp [go_sem] at hb;have hp':o<h.length:=(List.getElem?_eq_some_iff.1 hp).1;have hi':i<h.length:=(List.getElem?_eq_some_iff.1 hi).1;have hpi:o≠i:=by rintro rfl;rw [hp] at hi;cases hi
 have a1:∀ l:qaa,(h++l)[o]?=h[o]?:=fun l=>List.getElem?_append_left hp';have a2:∀ l:qaa,(h++l)[i]?=h[i]?:=fun l=>List.getElem?_append_left hi';have a3:∀ (l:qaa) (y:AObj),(h++l).set o y=h.set o y++l:=fun l y=>List.set_append_left _ _ hp';have a4:∀ (l:qaa) (y:AObj),(h++l).set i y=h.set i y++l:=fun l y=>List.set_append_left _ _ hi';have a5:∀ (l:qaa) (q y:AObj),(h.set i q++l).set o y=(h.set i q).set o y++l:=fun l q y=>List.set_append_left _ _ (by simpa using hp');have a6:∀ (l:qaa) (q:AObj),(h.set i q++l)[o]?=h[o]?:=fun l q=>by rw [List.getElem?_append_left (by simpa using hp'),List.getElem?_set_ne (Ne.symm hpi)]
 have hus:∀ (r:List (List AV)) (n:Nat),hUnder h.length ((h.set i (.arr 73 4 r)).set o (.cells [.own i n]))=true:=fun r n=>qbt (qbt hu (by simp [AObj.under])) (by simp [AObj.under,qav,AV.under,hi']);simp -dsimp [go_sem,hN,a1,a2,a3,a4,a5,a6,hp,hi];refine ⟨by omega,?_⟩;exact ⟨_,.refl _,_,rfl,hwk.app0 _,by simp,by simpa using hus _ _,rfl,by simp⟩
def mgH (h:qaa) (l:List Pr):qaa:=h++[.cells [.own (h.length+3) l.length],.cells [.fn (.func 95) [] [.ptr h.length 0]],.cells [.fn (.func 96) [] [.ptr (h.length+1) 0]],.arr 73 4 (l.map Pr.c)]
theorem mgH_under {h:qaa} (hu:hUnder h.length h=true) (l:List Pr):hUnder (mgH h l).length (mgH h l)=true:=by
 unfold mgH;rw [qax,qa1 (by simp) hu];simp [go_sem]
theorem mgH_underL {h:qaa} (hu:hUnder h.length h=true) {l:List Pr} (l':List Pr) {L:qaa} (hL:hUnder (mgH h l++L).length (mgH h l++L)=true):hUnder (mgH h l'++L).length (mgH h l'++L)=true:=by
 rw [qax,Bool.and_eq_true] at hL ⊢;refine ⟨?_,?_⟩
 · exact qa1 (by simp) (mgH_under hu l')
 ·
  have e:(mgH h l'++L).length=(mgH h l++L).length:=by simp [mgH]
  rw [e];exact hL.2
theorem mgH_len (h:qaa) (l:List Pr):(mgH h l).length=h.length+4:=by simp [mgH]
theorem mg_keep (h:qaa) (l:List Pr) (p:Pr) (L:qaa) (hl:l.length+1≤68719476736):ACalls Tryz.prog 95 [.agg p.c,.ptr h.length 0] (mgH h l++L) fun r h'=>r=.ret (.tuple [])∧h'=mgH h (l++[p])++L:=by
 have:=c_state_Apply1 p (mgH h l++L) h.length (h.length+3) l (by simp [mgH]) (by simp [mgH]) hl;simpa [mgH] using this
def putA (l:List Pr) (p:Pr):List Pr:=if p.v.k=0 then l else l++[p]
theorem mg_write (h:qaa) (hu0:hUnder h.length h=true) (l:List Pr) (p:Pr) (L:qaa) (hl:l.length+1≤68719476736):ACalls Tryz.prog 96 [.agg p.c,.ptr (h.length+1) 0] (mgH h l++L) fun r h'=>r=.ret (.tuple [])∧h'=mgH h (putA l p)++L:=by
 refine qa0 Tryz.func96 Tryz.ntmps96 rfl (by kernel_rfl) rfl fun E hN hh hu hb hb' hua=>?_;have e1:∀ X:qaa,(mgH h l++X)[h.length+1]?=some (.cells [.fn (.func 95) [] [.ptr h.length 0]]):=fun X=>by simp [mgH]
 have e2:∀ (l:List Pr),(mgH h l).length=h.length+4:=fun l=>mgH_len h l;simp -dsimp [go_sem,hN,e1,e2,List.append_assoc];refine qab (c_state_absent p) ?_;simp -dsimp [go_sem,hN];refine cnd ?_ ?_<;>intro h0<;>simp at h0
 ·
  simp -dsimp [go_sem,hN,e1,e2,List.append_assoc];have hk:=mg_keep h l p (L++[.cells p.c]) hl;refine qam (by simpa [go_sem] using hk) ?_;rintro r h' ⟨rfl,rfl⟩;simp -dsimp [go_sem,hN];rw [putA,if_neg h0];exact ⟨_,.refl _,mgH h (l++[p])++L,rfl,by rw [← List.append_assoc];exact hwk.app0 _,by simp [mgH];omega,mgH_underL hu0 _ hu,rfl,rfl⟩
 ·
  simp -dsimp [go_sem,hN];rw [putA,if_pos h0];exact ⟨_,.refl _,mgH h l++L,rfl,by rw [← List.append_assoc];exact hwk.app0 _,by simp,hu,rfl,rfl⟩
theorem mg_both (h:qaa) (hu0:hUnder h.length h=true) (l:List Pr) (q p:Pr) (L:qaa) (hl:l.length+1≤68719476736):ACalls Tryz.prog 100 [.agg q.c,.agg p.c,.ptr (h.length+2) 0] (mgH h l++L) fun r h'=>r=.ret (.tuple [])∧h'=mgH h (putA l p)++L:=by
 refine qa0 Tryz.func100 Tryz.ntmps100 rfl (by kernel_rfl) rfl fun E hN hh hu hb hb' hua=>?_;have e1:∀ X:qaa,(mgH h l++X)[h.length+2]?=some (.cells [.fn (.func 96) [] [.ptr (h.length+1) 0]]):=fun X=>by simp [mgH]
 have e2:∀ (l:List Pr),(mgH h l).length=h.length+4:=fun l=>mgH_len h l;simp -dsimp [go_sem,hN,e1,e2,List.append_assoc];have hk:=mg_write h hu0 l p (L++[.cells q.c,.cells p.c]) hl;refine qam (by simpa [go_sem] using hk) ?_;rintro r h' ⟨rfl,rfl⟩;simp -dsimp [go_sem,hN];exact ⟨_,.refl _,mgH h (putA l p)++L,rfl,by rw [← List.append_assoc];exact hwk.app0 _,by simp [mgH];omega,mgH_underL hu0 _ hu,rfl,rfl⟩
theorem mergeP_put (acc:List Pr) (q:Pr) (l:List Pr):acc++putW q l=putA acc q++l:=by
 unfold putW putA;split<;>simp
theorem putA_len (l:List Pr) (p:Pr):(putA l p).length≤l.length+1:=by
 unfold putA;split<;>simp
theorem c_state_merge (h:qaa) (hu0:hUnder h.length h=true) (a b:List Pr) (hB:a.length+b.length≤68719476735) :
  ACalls Tryz.prog 98 [.slice (a.map Pr.c),.slice (b.map Pr.c),.fn (.func 99) [] [],.fn (.func 95) [] [.ptr h.length 0],.fn (.func 96) [] [.ptr (h.length+1) 0],.fn (.func 100) [] [.ptr (h.length+2) 0]] (mgH h []) fun r h'=>r=.ret (.tuple [])∧h'=mgH h (mergeP a b):=by
 refine qa0 Tryz.func98 Tryz.ntmps98 rfl (by kernel_rfl) rfl fun E hN hh hu hb hb' hua=>?_;simp [go_sem] at hb;have e2:∀ (l:List Pr),(mgH h l).length=h.length+4:=fun l=>mgH_len h l;simp -dsimp [go_sem,hN];refine awp_loopM (α:=Nat×Nat×List Pr) (fun x=>x.1≤a.length∧x.2.1≤b.length∧x.2.2.length≤x.1+x.2.1∧x.2.2++mergeP (a.drop x.1) (b.drop x.2.1)=mergeP a b)
  (fun x=>⟨[(0,.slice (a.map Pr.c)),(1,.slice (b.map Pr.c)),(2,.fn (.func 99) [] []),(3,.fn (.func 95) [] [.ptr h.length 0]),(4,.fn (.func 96) [] [.ptr (h.length+1) 0]),(5,.fn (.func 100) [] [.ptr (h.length+2) 0]),(12,I x.1),(13,I x.2.1)],mgH h x.2.2⟩) (fun x=>a.length+b.length - x.1 - x.2.1) (0,0,[]) (by simp) ?_ ?_
 · exact Wk.mk (by simp [hh,mgH]) (by simp [go_sem]) (mgH_under hu0 []) (by simp [go_sem,e2])
 rintro ⟨i,k,acc⟩ ⟨hi,hk,hal,hI⟩;dsimp only at hi hk hal hI ⊢;simp -dsimp [go_sem,hN];refine cnd ?_ ?_<;>intro hc<;>simp at hc
 ·
  simp -dsimp [go_sem,hN];refine cnd ?_ ?_<;>intro h1<;>simp at h1
  ·
   have hk2:k<b.length:=by omega
   have hw:IntKind.i64.wrap ((k:Int)+1)=((k+1:Nat):Int):=by rw [wrapI (by omega) (by omega)];omega
   rw [List.drop_eq_nil_of_le (show a.length≤i by omega),qah hk2,mergeP,mergeP_put] at hI;simp -dsimp [go_sem,hN,hk2];refine qam (by simpa [go_sem] using mg_write h hu0 acc b[k] [] (by omega)) ?_;rintro r h' ⟨rfl,rfl⟩;simp -dsimp [go_sem,hN,hw];have hpl:=putA_len acc b[k];exact ⟨i,k+1,putA acc b[k],⟨hi,by omega,by omega,by rw [List.drop_eq_nil_of_le (show a.length≤i by omega)];exact hI⟩,by omega,Wk.mk (by simp [hh,mgH]) (by simp [go_sem]) (mgH_under hu0 _) (by simp [go_sem,e2])⟩
  ·
   have hi2:i<a.length:=by omega
   have hw:IntKind.i64.wrap ((i:Int)+1)=((i+1:Nat):Int):=by rw [wrapI (by omega) (by omega)];omega
   simp -dsimp [go_sem,hN];refine cnd ?_ ?_<;>intro h2<;>simp at h2
   ·
    rw [List.drop_eq_nil_of_le (show b.length≤k by omega),qah hi2,mergeP] at hI;simp -dsimp [go_sem,hN,hi2];refine qam (by simpa [go_sem] using mg_keep h acc a[i] [] (by omega)) ?_;rintro r h' ⟨rfl,rfl⟩;simp -dsimp [go_sem,hN,hw];exact ⟨i+1,k,acc++[a[i]],⟨by omega,hk,by simp;omega,by rw [List.drop_eq_nil_of_le (show b.length≤k by omega)];simpa using hI⟩,by omega,Wk.mk (by simp [hh,mgH]) (by simp [go_sem]) (mgH_under hu0 _) (by simp [go_sem,e2])⟩
   ·
    have hk2:k<b.length:=by omega
    have hw2:IntKind.i64.wrap ((k:Int)+1)=((k+1:Nat):Int):=by rw [wrapI (by omega) (by omega)];omega
    have hcm:=cmpS_lt a[i].key b[k].key;have hcm2:=cmpS_lt b[k].key a[i].key;rw [qah hi2,qah hk2,mergeP] at hI;simp -dsimp [go_sem,hN,hi2,hk2];refine qan 9 mixed (by kernel_rfl) (by kernel_rfl) ?_;simp -dsimp [go_sem,hN,hi2,hk2];refine qab (c_state_order a[i] b[k]) ?_;simp -dsimp [go_sem,hN];refine cnd ?_ ?_<;>intro h3<;>simp at h3
    ·
     rw [if_pos (hcm.1.1 h3)] at hI;simp -dsimp [go_sem,hN,hi2,hk2];refine qam (by simpa [go_sem] using mg_keep h acc a[i] [] (by omega)) ?_;rintro r h' ⟨rfl,rfl⟩;simp -dsimp [go_sem,hN,hw];exact ⟨i+1,k,acc++[a[i]],⟨by omega,hk,by simp;omega,by rw [qah hk2];simpa using hI⟩,by omega,Wk.mk (by simp [hh,mgH]) (by simp [go_sem]) (mgH_under hu0 _) (by simp [go_sem,e2])⟩
    rw [if_neg (fun g=>absurd (hcm.1.2 g) (by omega))] at hI;simp -dsimp [go_sem,hN];refine cnd ?_ ?_<;>intro h4<;>simp at h4
    ·
     have h5:sLt b[k].key a[i].key=true:=by
      rcases Bool.eq_false_or_eq_true (sLt b[k].key a[i].key) with g | g
      · exact g
      ·
       have:=sLt_eq (a:=a[i].key) (b:=b[k].key) (fun x=>absurd (hcm.1.2 x) (by omega)) (by rw [g];simp);have:=hcm.2.2 this;omega
     rw [if_pos h5,mergeP_put] at hI;simp -dsimp [go_sem,hN,hi2,hk2];refine qam (by simpa [go_sem] using mg_write h hu0 acc b[k] [] (by omega)) ?_;rintro r h' ⟨rfl,rfl⟩;simp -dsimp [go_sem,hN,hw2];have hpl:=putA_len acc b[k];exact ⟨i,k+1,putA acc b[k],⟨hi,by omega,by omega,by rw [qah hi2];exact hI⟩,by omega,Wk.mk (by simp [hh,mgH]) (by simp [go_sem]) (mgH_under hu0 _) (by simp [go_sem,e2])⟩
    ·
     have he:a[i].key=b[k].key:=hcm.2.1 (by omega);rw [if_neg (by rw [he,qc2];simp),mergeP_put] at hI;simp -dsimp [go_sem,hN,hi2,hk2];refine qan 9 mixed (by kernel_rfl) (by kernel_rfl) ?_;simp -dsimp [go_sem,hN,hi2,hk2];refine qam (by simpa [go_sem] using mg_both h hu0 acc a[i] b[k] [] (by omega)) ?_;rintro r h' ⟨rfl,rfl⟩;simp -dsimp [go_sem,hN,hw,hw2];have hpl:=putA_len acc b[k];exact ⟨i+1,k+1,putA acc b[k],⟨by omega,by omega,by omega,hI⟩,by omega,Wk.mk (by simp [hh,mgH]) (by simp [go_sem]) (mgH_under hu0 _) (by simp [go_sem,e2])⟩
 ·
  rw [List.drop_eq_nil_of_le (show a.length≤i by omega),List.drop_eq_nil_of_le (show b.length≤k by omega),mergeP,List.append_nil] at hI;subst hI;simp -dsimp [go_sem,hN];exact ⟨_,.refl _,mgH h (mergeP a b),rfl,hwk.refl _,by simp [e2],mgH_under hu0 _,rfl,rfl⟩
theorem writesOk_sorted (w:List Pr):sortedP none w=qc1 w:=by rw [sortedP_eq];rfl
theorem c_state_Apply (l w:List Pr) (hB:l.length+w.length<68719476736):APure Tryz.prog 52 [.slice (l.map Pr.c),.slice (w.map Pr.c)]
  (if qa3 l&&qc1 w then .tuple [.slice ((applyP l w).map Pr.c),I 0] else .tuple [.slice [],I 1]):=by
 refine qcz Tryz.func52 rfl (by kernel_rfl) (by simp [Tryz.ntmps52]) (by split<;>rfl) ?_;intro E h hN hh hu hb;rw [Tryz.ntmps52] at hN;refine qai _ _ _ ?_;simp [go_sem] at hb;have hs:=c_state_sorted w;rw [writesOk_sorted] at hs;simp -dsimp [go_sem,hN];refine qab (c_state_Valid l) ?_;simp -dsimp [go_sem,hN];refine qag hs (by simp) ?_;simp -dsimp [go_sem,hN];refine cnd ?_ ?_<;>intro h0<;>simp at h0
 ·
  simp -dsimp [go_sem,hN];grind
 rw [h0.1,h0.2];have hm:mergeP l w=applyP l w:=mergeP_eq ((qcb l).1 h0.1).2.2 ((qcv w).1 h0.2).2.2;simp -dsimp [go_sem,hN];have hk:=c_state_merge h hu l w (by omega);rw [hm] at hk;have hw2:∀ E:Ent,Wk E ⟨[],h++[.cells [.nils],.cells [.fn (.func 95) [] [.ptr h.length 0]],.cells [.fn (.func 96) [] [.ptr (h.length+1) 0]]]⟩ ⟨[],mgH h []⟩:=fun E=>by
  have:=nilc_wk E ⟨[],h++[.cells [.nils],.cells [.fn (.func 95) [] [.ptr h.length 0]],.cells [.fn (.func 96) [] [.ptr (h.length+1) 0]]]⟩ (p:=h.length) (j:=0) (t:=73) (sz:=4) (xs:=[.nils]) (by simp) rfl;simpa [mgH] using this
 refine qam (acalls_wk hw2 hk) ?_;rintro r h' ⟨rfl,rfl⟩;simp -dsimp [go_sem,hN,mgH]
end Go.Proofs.YtbimdamecieomaaGreatDoor
