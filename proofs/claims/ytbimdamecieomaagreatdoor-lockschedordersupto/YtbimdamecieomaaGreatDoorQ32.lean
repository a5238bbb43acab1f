/- Part 32 of a proof: W91, W92, W93 -/
import Derived.Test.YtbimdamecieomaaGreatDoorQ14
import Derived.Test.YtbimdamecieomaaGreatDoorQ16
import Derived.Test.YtbimdamecieomaaGreatDoorQ17
import Derived.Test.YtbimdamecieomaaGreatDoorQ21
import Derived.Test.YtbimdamecieomaaGreatDoorQ22
import Derived.Test.YtbimdamecieomaaGreatDoorQ28
import Derived.Test.YtbimdamecieomaaGreatDoorQ31
set_option linter.all false

set_option maxRecDepth 4000
set_option maxHeartbeats 2000000
namespace Go.Proofs.YtbimdamecieomaaGreatDoor
open Go Go.Abs Go.Cw
@[simp] theorem LReq_len (r:LReq):r.c.length=2:=rfl
@[simp] theorem LReq_take (r:LReq):r.c.take 2=r.c:=rfl
@[simp] theorem LReq_norm (h:qaa) (r:LReq):qa4 h r.c=r.c:=rfl
@[simp] theorem LQ_len (r:LQ):r.c.length=2:=rfl
@[simp] theorem LQ_take (r:LQ):r.c.take 2=r.c:=rfl
@[simp] theorem LQ_norm (h:qaa) (r:LQ):qa4 h r.c=r.c:=rfl
@[simp] theorem LT_norm (h:qaa) (r:LT):qa4 h r.c=r.c:=rfl
theorem c_lt_ascending (l:List LReq):APure Tryz.prog 73 [.slice (l.map LReq.c)] (Bo (ascQ none l)):=by
 refine qaz Tryz.func73 Tryz.ntmps73 rfl (by kernel_rfl) rfl rfl fun E h hN hh hu hb=>?_;simp [go_sem] at hb;simp -dsimp [go_sem,hN];refine qaj l.length (fun n=>ascQ ((qbc l n).map (·.t)) (l.drop n)=ascQ none l) (fun n=>⟨[(0,.slice (l.map LReq.c)),(5,.slice (l.map LReq.c)),(6,I l.length),(7,I n)],h⟩) (by simp [qbc]) wkA ?_
 intro n hn hI;have hw:=qa6 hn hb.1;simp -dsimp [go_sem,hN];refine cnd ?_ ?_<;>intro hc<;>try simp at hc
 ·
  rw [qah hc,ascQ] at hI;simp -dsimp [go_sem,hN,hc,LReq.c];refine qan 15 mixed (by kernel_rfl) (by kernel_rfl) ?_;cases n with
  | zero =>
   simp -dsimp [go_sem,hN];refine cnd ?_ ?_<;>intro hg<;>try simp at hg
   ·
    simp -dsimp [go_sem,hN];rw [← hI];simp [qbc,hg]
   ·
    have h0:decide (l[0].t<0)=false:=by simpa using hg
    simp -dsimp [go_sem,hN,hw];exact ⟨hc,by simpa [h0,qbc,hc] using hI,wkA⟩
  | succ m =>
   have hm:m<l.length:=by omega
   have hw2:=wrapN (Nat.le_of_lt hm) hb.1;simp at hw;simp -dsimp [go_sem,hN,hw2,hm,LReq.c];refine cnd ?_ ?_<;>intro hg<;>try simp at hg
   ·
    simp -dsimp [go_sem,hN];rw [← hI];grind [qbc]
   ·
    have h0:decide (l[m+1].t<0)=false:=by simpa using hg.1
    simp -dsimp [go_sem,hN,hw];simp [h0,hg,qbc,hm] at hI;exact ⟨hc,by simpa [qbc,hc] using hI,wkA⟩
 ·
  rw [List.drop_eq_nil_of_le (by omega),ascQ] at hI;simp -dsimp [go_sem,hN,← hI]
theorem c_lt_index1 (x:LReq) (h:qaa) (i:Nat) (t:Int) (hi:h[i]?=some (.cells [I t])):ACalls Tryz.prog 76 [.agg x.c,.ptr i 0] h fun r h'=>r=.ret (Bo (decide (x.t=t)))∧h'=h:=by
 refine qa0 Tryz.func76 Tryz.ntmps76 rfl (by kernel_rfl) rfl fun E hN hh hu hb hb' hua=>?_;have hi':i<h.length:=(List.getElem?_eq_some_iff.1 hi).1;have a1:∀ l,(h++l)[i]?=some (.cells [I t]):=fun l=>by rw [List.getElem?_append_left hi'];exact hi
 simp -dsimp [go_sem,hN,a1,hu,LReq.c];exact ⟨_,.refl _,h,by simp [go_sem],by simp [go_sem],by simp,by simp [hu,go_sem],rfl,rfl⟩
theorem c_IndexFunc_R (l:List LReq) (f:FuncId) (caps:List AV) (q:LReq→Bool) (h:qaa) (hcn:qa4 h caps=caps) (hp:∀ x:LReq,ACalls Tryz.prog f ([.agg x.c]++caps) h fun r h'=>r=.ret (Bo (q x))∧h'=h) :
  ACalls Tryz.prog 75 [.slice (l.map LReq.c),.fn (.func f) [] caps] h fun r h'=>r=.ret (I (qcp q l))∧h'=h:=by
 refine qa0 Tryz.func75 Tryz.ntmps75 rfl (by kernel_rfl) rfl fun E hN hh hu hb hb' hua=>?_;simp [go_sem] at hb;simp -dsimp [go_sem,hN];refine qaj l.length (fun n=>qbj q n (l.drop n)=qcp q l) (fun n=>⟨[(0,.slice (l.map LReq.c)),(1,.fn (.func f) [] caps),(7,I l.length),(8,I n)],h⟩) (by simp [qcp]) (Wk.mk (by simp [hh]) (by simp) (by simp [hu]) (by simp [go_sem];simpa [go_sem] using hua)) ?_;intro n hn hI;have hw:=qa6 hn hb.1;simp -dsimp [go_sem,hN];refine cnd ?_ ?_<;>intro hc<;>simp at hc
 ·
  rw [qah hc,qbj] at hI;simp -dsimp [go_sem,hN,hc,hcn];refine qam (hp l[n]) ?_;rintro r h' ⟨rfl,rfl⟩;simp -dsimp [go_sem,hN];refine cnd ?_ ?_<;>intro hg<;>try simp at hg
  ·
   simp -dsimp [go_sem,hN];rw [if_pos hg] at hI;rw [hI];exact ⟨_,.refl _,h',by simp [go_sem],by simp [go_sem],by simp,by simp [hu,go_sem],rfl,rfl⟩
  ·
   simp -dsimp [go_sem,hN,hw];exact ⟨hc,by simpa [hg] using hI,Wk.mk (by simp [hh]) (by simp) (by simp [hu]) (by simp [go_sem];simpa [go_sem] using hua)⟩
 ·
  rw [List.drop_eq_nil_of_le (by omega),qbj] at hI;simp -dsimp [go_sem,hN,← hI];exact ⟨_,.refl _,h,by simp [go_sem],by simp [go_sem],by simp,by simp [hu,go_sem],rfl,rfl⟩
abbrev isT (t:Int):LReq→Bool:=fun x=>decide (x.t=t)
theorem c_lt_index (l:List LReq) (t:Int):APure Tryz.prog 46 [.slice (l.map LReq.c),I t] (I (qcp (isT t) l)):=by
 refine qaz Tryz.func46 Tryz.ntmps46 rfl (by kernel_rfl) rfl rfl fun E h hN hh hu hb=>?_;simp -dsimp [go_sem,hN];refine qam (c_IndexFunc_R l _ _ (isT t) _ (by simp [qa4,AV.norm]) (fun x=>c_lt_index1 x _ _ t (by simp))) ?_;rintro r h' ⟨rfl,rfl⟩;simp -dsimp [go_sem,hN]
theorem inG_at {g:List LReq} {t:Int}:(qcp (isT t) g = -1∧inG g t=false)∨∃ (m:Nat) (hm:m<g.length),qcp (isT t) g=(m:Int)∧inG g t = !g[m].w:=by
 rcases idxR_find (isT t) g with ⟨h1,h2⟩ | ⟨m,hm,h1,h2⟩
 · exact .inl ⟨h1,by unfold inG;rw [h2]⟩
 · exact .inr ⟨m,hm,h1,by unfold inG;rw [h2]⟩
theorem c_lt_Valid (t:LT):APure Tryz.prog 45 [.agg t.c] (Bo (validT t)):=by
 refine qaz Tryz.func45 Tryz.ntmps45 rfl (by kernel_rfl) rfl rfl fun E h hN hh hu hb=>?_;simp [go_sem,LT.c] at hb;obtain ⟨R,hR⟩:∃ R,validT t=R:=⟨_,rfl⟩
 rw [hR];unfold validT at hR;simp -dsimp [go_sem,hN,LT.c];refine qab (c_lt_ascending t.glob) ?_;simp -dsimp [go_sem,hN];refine cnd ?_ ?_<;>intro ha<;>simp at ha
 ·
  rw [ha] at hR;simp at hR;subst hR;simp -dsimp [go_sem,hN]
 ·
  rw [ha,Bool.true_and] at hR;subst hR;simp -dsimp [go_sem,hN];refine qaj t.qs.length (fun n=>qsOk t.glob ((qbc t.qs n).map (·.key)) (t.qs.drop n)=qsOk t.glob none t.qs) (fun n=>⟨[(1,P0 h.length),(13,.slice (t.qs.map LQ.c)),(14,I t.qs.length),(15,I n)],h++[.cells [.slice (t.glob.map LReq.c),.slice (t.qs.map LQ.c)]]⟩) (by simp [qbc]) wkA ?_
  intro n hn hI;have hw:=qa6 hn (show _≤68719476736 by omega);simp -dsimp [go_sem,hN];refine cnd ?_ ?_<;>intro hc<;>simp at hc
  ·
   rw [qah hc,qsOk] at hI;simp -dsimp [go_sem,hN,hc,LQ.c];refine qan 17 mixed (by kernel_rfl) (by kernel_rfl) ?_;simp -dsimp [go_sem,hN];refine tdcall (qdo _) (by simp) ?_;have hrest:qdz t.qs[n].key=true→after ((qbc t.qs n).map (·.key)) t.qs[n].key=true→t.qs[n].reqs≠[]→ascQ none t.qs[n].reqs=true →
     ((t.qs[n].reqs.all fun r=>inG t.glob r.t)&&qsOk t.glob (some t.qs[n].key) (t.qs.drop (n+1)))=qsOk t.glob none t.qs:=fun h1 h2 h3 h4=>by
    have h5:t.qs[n].reqs.isEmpty=false:=by cases hq:t.qs[n].reqs with | nil=>exact (h3 hq).elim | cons=>rfl
    rw [h1,h2,h4,h5] at hI;simpa using hI
   have hno:(qdz t.qs[n].key=false∨after ((qbc t.qs n).map (·.key)) t.qs[n].key=false∨t.qs[n].reqs=[]∨ascQ none t.qs[n].reqs=false)→qsOk t.glob none t.qs=false:=fun h1=>by
    rw [← hI];rcases h1 with h1 | h1 | h1 | h1<;>simp [h1]
   have hlen:t.qs[n].reqs.length≤68719476736:=by
    have:=(bdLL_iff.1 hb.2.2) _ (List.mem_map.2 ⟨_,List.getElem_mem hc,rfl⟩);have h9:t.qs[n].key.size≤68719476736∧t.qs[n].reqs.length≤68719476736∧bdLL (t.qs[n].reqs.map LReq.c):=by simpa [LQ.c,bdL,AV.bd] using this
    exact h9.2.1
   cases n with
   | zero =>
    simp -dsimp [go_sem,hN];refine qag (c_lt_ascending _) (by simp) ?_;simp -dsimp [go_sem,hN];refine cnd ?_ ?_<;>intro hg<;>simp at hg
    ·
     simp -dsimp [go_sem,hN];exact hno (by grind [qbc,after])
    ·
     have hI2:=hrest (by grind) (by simp [qbc,after]) (by grind) (by grind);clear hrest hno;simp -dsimp [go_sem,hN];refine qaj t.qs[0].reqs.length (fun k=>((t.qs[0].reqs.drop k).all fun r=>inG t.glob r.t)=t.qs[0].reqs.all fun r=>inG t.glob r.t) (fun k=>⟨[(1,P0 h.length),(13,.slice (t.qs.map LQ.c)),(14,I t.qs.length),(15,I (0:Nat)),(53,.slice (t.qs[0].reqs.map LReq.c)),(54,I t.qs[0].reqs.length),(55,I k)],h++[.cells [.slice (t.glob.map LReq.c),.slice (t.qs.map LQ.c)]]⟩) (by simp) wkA ?_;intro k hk hJ;have hwk:=qa6 hk hlen;simp -dsimp [go_sem,hN];refine cnd ?_ ?_<;>intro hd<;>simp at hd
     ·
      rw [qah hd,List.all_cons] at hJ;simp -dsimp [go_sem,hN,hd,LReq.c];refine qab (c_lt_index t.glob _) ?_;rcases inG_at (g:=t.glob) (t:=t.qs[0].reqs[k].t) with ⟨h1,h2⟩ | ⟨j,hj,h1,h2⟩
      ·
       rw [h1];rw [h2,Bool.false_and] at hJ;simp -dsimp [go_sem,hN];rw [← hI2,← hJ,Bool.false_and]
      ·
       rw [h1];simp -dsimp [go_sem,hN,hj,LReq.c];refine cnd ?_ ?_<;>intro hg2<;>simp at hg2
       ·
        have hg3:t.glob[j].w=true:=hg2.elim (fun h9=>by omega) id;rw [h2,hg3] at hJ;simp -dsimp [go_sem,hN];rw [← hI2,← hJ];simp
       ·
        simp -dsimp [go_sem,hN,hwk];exact ⟨hd,by simpa [h2,hg2] using hJ,wkA⟩
     ·
      rw [List.drop_eq_nil_of_le (by omega),List.all_nil] at hJ;rw [← hJ,Bool.true_and] at hI2;simp -dsimp [go_sem,hN,hw];exact ⟨hc,by simpa [qbc,hc] using hI2,wkA⟩
   | succ m =>
    have hm:m<t.qs.length:=by omega
    have hw2:=wrapN (Nat.le_of_lt hm) hb.2.1;have hpv:(qbc t.qs (m+1)).map (·.key)=some t.qs[m].key:=by simp [qbc,hm]
    rw [hpv] at hno hrest;simp only [after] at hno hrest;rw [sLt_tri] at hno hrest;simp at hw;simp -dsimp [go_sem,hN,hw2,hm,LQ.c];refine qag (c_lt_ascending _) (by simp) ?_;simp -dsimp [go_sem,hN,hw2,hm,LQ.c];refine cnd ?_ ?_<;>intro hg<;>simp at hg
    ·
     simp -dsimp [go_sem,hN];exact hno (by grind [after])
    ·
     have hI2:=hrest (by grind) (by grind [after]) (by grind) (by grind);clear hrest hno;simp -dsimp [go_sem,hN];refine qaj t.qs[m+1].reqs.length (fun k=>((t.qs[m+1].reqs.drop k).all fun r=>inG t.glob r.t)=t.qs[m+1].reqs.all fun r=>inG t.glob r.t) (fun k=>⟨[(1,P0 h.length),(13,.slice (t.qs.map LQ.c)),(14,I t.qs.length),(15,I (m+1:Nat)),(53,.slice (t.qs[m+1].reqs.map LReq.c)),(54,I t.qs[m+1].reqs.length),(55,I k)],h++[.cells [.slice (t.glob.map LReq.c),.slice (t.qs.map LQ.c)]]⟩) (by simp) wkA ?_;intro k hk hJ;have hwk:=qa6 hk hlen;simp -dsimp [go_sem,hN];refine cnd ?_ ?_<;>intro hd<;>simp at hd
     ·
      rw [qah hd,List.all_cons] at hJ;simp -dsimp [go_sem,hN,hd,LReq.c];refine qab (c_lt_index t.glob _) ?_;rcases inG_at (g:=t.glob) (t:=t.qs[m+1].reqs[k].t) with ⟨h1,h2⟩ | ⟨j,hj,h1,h2⟩
      ·
       rw [h1];rw [h2,Bool.false_and] at hJ;simp -dsimp [go_sem,hN];rw [← hI2,← hJ,Bool.false_and]
      ·
       rw [h1];simp -dsimp [go_sem,hN,hj,LReq.c];refine cnd ?_ ?_<;>intro hg2<;>simp at hg2
       ·
        have hg3:t.glob[j].w=true:=hg2.elim (fun h9=>by omega) id;rw [h2,hg3] at hJ;simp -dsimp [go_sem,hN];rw [← hI2,← hJ];simp
       ·
        simp -dsimp [go_sem,hN,hwk];exact ⟨hd,by simpa [h2,hg2] using hJ,wkA⟩
     ·
      rw [List.drop_eq_nil_of_le (by omega),List.all_nil] at hJ;rw [← hJ,Bool.true_and] at hI2;simp -dsimp [go_sem,hN,hw];exact ⟨hc,by simpa [qbc,hc] using hI2,wkA⟩
  ·
   rw [List.drop_eq_nil_of_le (by omega),qsOk] at hI;simp -dsimp [go_sem,hN,← hI]
end Go.Proofs.YtbimdamecieomaaGreatDoor

set_option maxRecDepth 4000
set_option maxHeartbeats 2000000
namespace Go.Proofs.YtbimdamecieomaaGreatDoor
open Go Go.Abs Go.Cw
theorem c_lt_copied (l:List LReq) (h:qaa):ACalls Tryz.prog 77 [.slice (l.map LReq.c)] h fun r h'=>r=.ret (.own h.length l.length)∧h'=h++[.uarr 95 2 (l.map LReq.c)]:=by
 refine qbu Tryz.func77 rfl (by kernel_rfl) (by simp [Tryz.ntmps77]) ?_;intro E hN hh hu hb hb' hua;rw [Tryz.ntmps77] at hN;simp [go_sem] at hb;have hw:=qa6 (Nat.le_refl l.length) (show l.length≤68719476736 by omega);refine qau (qcq ?_);simp [go_sem,hN];refine qau (qb5 [_,_,_,_,_] _ ?_);simp [go_sem,hN,hw];intro c a w sm k;refine wp_makeC sm k (el:=95) (x:=.tmp 5) (y:=.tmp 8) (d1:=9) (n:=l.length) (m:=l.length+1) (sz:=2) (zr:=[I 0,Bo false]) rfl rfl (by omega) rfl (by simp [go_sem]) (by simp [go_sem]) (by simp [go_sem]) (by omega) (by simp [go_sem]) (by simp [go_sem]) (by simp [go_sem,nilz]) (by simp [go_sem]) (by simp [go_sem]) (by simp [go_sem]) (by omega) (by omega) (by omega) fun c' a' w' s' k'=>?_;refine qbd _ [_,_,_,_,_,_] _ rfl ?_ c' a' w' s' k';simp [go_sem,hN];refine qau (qb5 [_,_] _ ?_);simp [go_sem,hN];intro c a w sm k;refine wp_copyA sm k (el:=95) (sz:=2) (i:=h.length) (n:=l.length) (d1:=12) (x:=.tmp 10) (y:=.tmp 11) (rows:=List.replicate l.length [I 0,Bo false]) (rows2:=l.map LReq.c) rfl rfl (by omega) rfl (by simp [go_sem]) (by simp [go_sem]) (by simp [go_sem]) (by omega) (by simp [go_sem]) (by simp [go_sem]) (by simp [go_sem]) (by simp) (by simp) (by simp) (by intro r hr;simp only [List.mem_map] at hr;obtain ⟨e,_,rfl⟩:=hr;rfl) fun a' w' s' k'=>?_;refine qbd _ [_,_,_] _ rfl ?_ _ a' w' s' k';simp [go_sem,hN];apply qai;simp -dsimp [go_sem,hN];exact ⟨_,.refl _,h++[.uarr 95 2 (l.map LReq.c)],by simp [go_sem],by simp [hwk.refl],by simp,by simp [hu,qar hu,go_sem],by simp,rfl⟩
def rowsQ:Nat→List LQ→List (List AV)
 | _,[]=>[]
 | k,q::l=>[S q.key,.own k q.reqs.length]::rowsQ (k+2) l
def objsQ (tR:TypeId):List LQ→qaa
 | []=>[]
 | q::l=>.none::.uarr tR 2 (q.reqs.map LReq.c)::objsQ tR l
theorem rowsQ_snoc (q:LQ):∀ (k:Nat) (l:List LQ),rowsQ k (l++[q])=rowsQ k l++[[S q.key,.own (k+2 * l.length) q.reqs.length]]
 | k,[]=>by simp [rowsQ]
 | k,x::l=>by simp only [List.cons_append,rowsQ,rowsQ_snoc q (k+2) l,List.length_cons];rw [show k+2+2 * l.length=k+2 * (l.length+1) by omega]
theorem objsQ_snoc (tR:TypeId) (q:LQ):∀ (l:List LQ),objsQ tR (l++[q])=objsQ tR l++[.none,.uarr tR 2 (q.reqs.map LReq.c)]
 | []=>by simp [objsQ]
 | x::l=>by simp [objsQ,objsQ_snoc tR q l]
@[simp] theorem rowsQ_len:∀ (k:Nat) (l:List LQ),(rowsQ k l).length=l.length
 | _,[]=>rfl
 | k,_::l=>by simp [rowsQ,rowsQ_len (k+2) l]
@[simp] theorem objsQ_len (tR:TypeId):∀ (l:List LQ),(objsQ tR l).length=2 * l.length
 | []=>rfl
 | _::l=>by simp [objsQ,objsQ_len tR l];omega
theorem objsQ_under (tR:TypeId) (n:Nat):∀ (l:List LQ),hUnder n (objsQ tR l)=true
 | []=>rfl
 | _::l=>by simp [objsQ,hUnder,AObj.under,objsQ_under tR n l]
theorem rowsQ_under {n:Nat}:∀ {k:Nat} {l:List LQ},k+2 * l.length≤n+1→(rowsQ k l).all (fun r=>qav n r)=true
 | _,[],_=>rfl
 | k,_::l,h=>by
  simp only [List.length_cons] at h;simp only [rowsQ,List.all_cons,Bool.and_eq_true];exact ⟨by simp [qav,AV.under];omega,rowsQ_under (by omega)⟩
abbrev hpC (T:LT) (L:Nat) (k:Nat):qaa:=[.cells [.slice (T.glob.map LReq.c),.slice (T.qs.map LQ.c)],.cells [.nils,.nils],.uarr 95 2 (T.glob.map LReq.c),.cells [.own (L+2) T.glob.length,.own (L+4) k],.oarr 107 2 (rowsQ (L+6) (T.qs.take k))]
theorem c_lt_clone (T:LT) (h:qaa):ACalls Tryz.prog 47 [.agg T.c] h fun r h'=>r=.ret (.agg [.own (h.length+2) T.glob.length,.own (h.length+4) T.qs.length])∧h'=h++([.none,.none,.uarr 95 2 (T.glob.map LReq.c),.none,.oarr 107 2 (rowsQ (h.length+6) T.qs)]++objsQ 95 T.qs):=by
 refine qa0 Tryz.func47 Tryz.ntmps47 rfl (by kernel_rfl) rfl fun E hN hh hu hb hb' hua=>?_;simp [go_sem,LT.c] at hb;simp -dsimp [go_sem,hN,LT.c];refine qam (c_lt_copied T.glob _) ?_;rintro r h' ⟨rfl,rfl⟩;simp -dsimp [go_sem,hN];refine qaj T.qs.length (fun n=>True) (fun n=>⟨[(1,P0 h.length),(2,P0 (h.length+1)),(3,P0 (h.length+3)),(11,.slice (T.qs.map LQ.c)),(12,I T.qs.length),(13,I n)],h++(hpC T h.length n++objsQ 95 (T.qs.take n))⟩) trivial ((nilco_wk E _ (p:=h.length+3) (j:=1) (t:=107) (sz:=2) (xs:=[.own (h.length+2) T.glob.length,.nils]) (by simp) (by simp)).trans ?_) ?_
 ·
  simp [objsQ,rowsQ];exact (Wk.mk (by simp [hh]) (by simp [go_sem,rowsQ]) (by simp [hu,qar hu,go_sem,rowsQ]) (by simp [go_sem]))
 intro n hn _;have hw:=qa6 hn (show _≤68719476736 by omega);obtain ⟨H,hH⟩:∃ H,h++(hpC T h.length n++objsQ 95 (T.qs.take n))=H:=⟨_,rfl⟩
 have hHl:H.length=h.length+(5+2 * n):=by rw [← hH];simp;omega
 have a3:H[h.length+3]?=some (.cells [.own (h.length+2) T.glob.length,.own (h.length+4) n]):=by rw [← hH];simp
 have a4:H[h.length+4]?=some (.oarr 107 2 (rowsQ (h.length+6) (T.qs.take n))):=by rw [← hH];simp
 have b3:∀ l,(H++l)[h.length+3]?=some (.cells [.own (h.length+2) T.glob.length,.own (h.length+4) n]):=fun l=>by rw [List.getElem?_append_left (by omega)];exact a3
 have b4:∀ l,(H++l)[h.length+4]?=some (.oarr 107 2 (rowsQ (h.length+6) (T.qs.take n))):=fun l=>by rw [List.getElem?_append_left (by omega)];exact a4
 simp only [hH];simp -dsimp [go_sem,hN];refine cnd ?_ ?_<;>intro hc<;>simp at hc
 ·
  simp -dsimp [go_sem,hN,hc,LQ.c];refine awp_drawK 9 6 [0,1,2,3] mixed (by kernel_rfl) ?_;simp -dsimp [go_sem,hN,b3,b4];refine tkcall_ret (c_lt_copied T.qs[n].reqs _) ?_;simp -dsimp [go_sem,hN,b3,b4,hHl];refine ⟨by omega,by omega,hc,?_⟩;have et:T.qs.take (n+1)=T.qs.take n++[T.qs[n]]:=(List.take_append_getElem hc).symm;rw [et,rowsQ_snoc,objsQ_snoc,← hH];have hml:(T.qs.take n).length=n:=by simp;omega
  rw [hml,show h.length+6+2 * n=h.length+(5+2 * n)+1 by omega];refine Wk.mk ?_ ?_ ?_ ?_
  · simp [hh]
  · simp [go_sem]
  ·
   simp [hu,qar hu,go_sem,objsQ_under];have hU:=rowsQ_under (n:=h.length+(2 * min n T.qs.length+2+1+1+1+1+1)) (k:=h.length+6) (l:=T.qs.take n) (by simp;omega);rw [List.all_eq_true] at hU;exact ⟨⟨hU,by omega⟩,by rw [qax,objsQ_under];simp [hUnder,AObj.under]⟩
  · simp [go_sem,hw]
 ·
  have e:n=T.qs.length:=by omega
  subst e;have a1:H[h.length+1]?=some (.cells [.nils,.nils]):=by rw [← hH];simp
  have a2:H[h.length+2]?=some (.uarr 95 2 (T.glob.map LReq.c)):=by rw [← hH];simp
  have s1:∀ X,(H.set (h.length+1) X)[h.length+1]?=some X:=fun X=>List.getElem?_set_self (by omega);have s2:∀ X,(H.set (h.length+1) X)[h.length+2]?=some (.uarr 95 2 (T.glob.map LReq.c)):=fun X=>by rw [List.getElem?_set_ne (by omega)];exact a2
  have s4:∀ X,(H.set (h.length+1) X)[h.length+4]?=some (.oarr 107 2 (rowsQ (h.length+6) (T.qs.take T.qs.length))):=fun X=>by rw [List.getElem?_set_ne (by omega)];exact a4
  simp -dsimp [go_sem,hN,a1,a3,s1,s2,s4];rw [List.take_length] at hH;have hU:=rowsQ_under (n:=h.length+(5+2 * T.qs.length)) (k:=h.length+6) (l:=T.qs) (by omega);rw [List.all_eq_true] at hU;refine ⟨_,.refl _,_,?_,?_,?_,?_,rfl,rfl⟩
  · simp [go_sem]
  · rw [← hH];simp [go_sem]
  · simp
  ·
   simp [hu,qar hu,go_sem,objsQ_under];rw [show h.length+(2 * T.qs.length+1+1+1+1+1)=h.length+(5+2 * T.qs.length) by omega];exact hU
end Go.Proofs.YtbimdamecieomaaGreatDoor

set_option maxRecDepth 4000
set_option maxHeartbeats 2000000
namespace Go.Proofs.YtbimdamecieomaaGreatDoor
open Go Go.Abs Go.Cw
def cmpQ (q:LQ) (k:qac):Int:=if sLt q.key k=true then -1 else if q.key=k then 0 else 1
theorem c_lt_add1 (q:LQ) (k:qac):APure Tryz.prog 79 [.agg q.c,S k] (I (cmpQ q k)):=by
 refine qaz Tryz.func79 Tryz.ntmps79 rfl (by kernel_rfl) rfl rfl fun E h hN hh hu hb=>?_;unfold cmpQ;simp -dsimp [go_sem,hN,LQ.c];refine cnd (fun h1=>?_) (fun h1=>?_)
 ·
  rw [if_pos h1];simp -dsimp [go_sem,hN]
 ·
  rw [if_neg (by rw [h1];decide)];simp -dsimp [go_sem,hN];refine cnd ?_ ?_<;>intro h2<;>simp at h2
  ·
   rw [if_neg h2.2];simp -dsimp [go_sem,hN]
  ·
   rw [if_pos (h2 h1)];simp -dsimp [go_sem,hN]
theorem c_BSF (l:List LQ) (k:qac) (hs:qb7 (qbg l)):APure Tryz.prog 78 [.slice (l.map LQ.c),S k,.fn (.func 79) [] []] (.tuple [I (qc0 k (qbg l)),Bo (decide ((qbg l)[qc0 k (qbg l)]?=some k))]):=by
 refine qaz Tryz.func78 Tryz.ntmps78 rfl (by kernel_rfl) rfl rfl fun E h hN hh hu hb=>?_;simp [go_sem] at hb;have hp:=posS_le k (qbg l);have hkl:(qbg l).length=l.length:=by simp
 rw [hkl] at hp;simp -dsimp [go_sem,hN];refine awp_loopM (α:=Nat×Nat) (fun x=>x.1≤qc0 k (qbg l)∧qc0 k (qbg l)≤x.2∧x.2≤l.length) (fun x=>⟨[(0,.slice (l.map LQ.c)),(1,S k),(2,.fn (.func 79) [] []),(8,I l.length),(9,I x.1),(10,I x.2)],h⟩) (fun x=>x.2 - x.1) (0,l.length) ⟨by simp,hp,by simp⟩ wkA ?_;rintro ⟨i,j⟩ ⟨h1,h2,h3⟩;simp only at h1 h2 h3;simp -dsimp [go_sem,hN];refine cnd ?_ ?_<;>intro hc<;>simp at hc
 ·
  have hm:IntKind.i64.wrap ((IntKind.u64.wrap (IntKind.i64.wrap ((i:Int)+j))).fdiv 2)=(((i+j) / 2:Nat):Int):=by
   have h0:=hb.1.1;have e0:IntKind.i64.wrap ((i:Int)+j)=(i:Int)+j:=wrapI (by omega) (by omega);rw [e0];have:IntKind.u64.wrap ((i:Int)+j)=(i:Int)+j:=by
    simp only [IntKind.wrap,IntKind.bits,IntKind.signed];simp;omega
   rw [this];have e1:((i:Int)+j).fdiv 2=(((i+j) / 2:Nat):Int):=by
    rw [Int.fdiv_eq_ediv_of_nonneg _ (by omega)];omega
   rw [e1,wrapI (by omega) (by omega)]
  have hlt:(i+j) / 2<l.length:=by omega
  have hi':=posS_lt (k:=k) hs ((i+j) / 2) (by rw [hkl];exact hlt);generalize hq:(i+j) / 2=q at hm hlt hi';have hw:IntKind.i64.wrap ((q:Int)+1)=((q+1:Nat):Int):=by have h0:=hb.1.1;rw [wrapI (by omega) (by omega)];omega
  have hkq:(qbg l)[q]'(by rw [hkl];exact hlt)=l[q].key:=by simp
  simp -dsimp [go_sem,hN,hm,hlt];refine qab (c_lt_add1 l[q] k) ?_;simp -dsimp [go_sem,hN];refine cnd (fun hc2=>?_) (fun hc2=>?_)
  ·
   have hs2:sLt l[q].key k=true:=by
    have hc3:=of_decide_eq_true hc2;unfold cmpQ at hc3;split at hc3
    · assumption
    · split at hc3<;>omega
   simp -dsimp [go_sem,hN,hw];exact ⟨q+1,j,⟨by have:=hi'.2 (by rw [hkq];exact hs2);omega,h2,h3⟩,by omega,wkA⟩
  ·
   simp -dsimp [go_sem,hN];refine ⟨i,q,⟨h1,?_,by omega⟩,by omega,wkA⟩;rcases Nat.lt_or_ge q (qc0 k (qbg l)) with h5 | h5
   ·
    have:=hi'.1 h5;rw [hkq] at this;have hc3:=of_decide_eq_false hc2;unfold cmpQ at hc3;rw [if_pos this] at hc3;omega
   · exact h5
 ·
  have hi:i=qc0 k (qbg l):=by omega
  subst hi;by_cases hlt:qc0 k (qbg l)<l.length
  ·
   have hkq:(qbg l)[qc0 k (qbg l)]?=some l[qc0 k (qbg l)].key:=by simp [hlt]
   simp -dsimp [go_sem,hN,hlt]
   repeat refine ⟨by grind,?_⟩
   refine qag (c_lt_add1 _ _) (by simp) ?_;simp -dsimp [go_sem,hN];have hge:sLt l[qc0 k (qbg l)].key k=false:=by
    have:=posS_lt (k:=k) hs (qc0 k (qbg l)) (by rw [hkl];exact hlt);have h9:¬ sLt (qbg l)[qc0 k (qbg l)] k=true:=fun h=>absurd (this.2 h) (Nat.lt_irrefl _);simpa using h9
   have hcq:cmpQ l[qc0 k (qbg l)] k=0↔l[qc0 k (qbg l)].key=k:=by
    unfold cmpQ;rw [hge,if_neg (by simp)];by_cases h9:l[qc0 k (qbg l)].key=k<;>simp [h9]
   rw [hcq,List.getElem?_eq_getElem hlt];simp
  ·
   have hd:decide (qc0 k (qbg l)<l.length)=false:=by simpa using hlt
   have hnone:(qbg l)[qc0 k (qbg l)]?=none:=List.getElem?_eq_none (by omega);simp -dsimp [go_sem,hN,hd,hnone];refine qdk ?_;simp -dsimp [go_sem,hN];rw [List.getElem?_eq_none (by omega)];simp
end Go.Proofs.YtbimdamecieomaaGreatDoor
