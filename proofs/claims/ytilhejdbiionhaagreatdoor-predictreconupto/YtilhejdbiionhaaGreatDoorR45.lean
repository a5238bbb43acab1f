/- Part 45 of a proof: W42b, W43, W48 -/
import Derived.Test.YtilhejdbiionhaaGreatDoorR20
import Derived.Test.YtilhejdbiionhaaGreatDoorR39
import Derived.Test.YtilhejdbiionhaaGreatDoorR42
import Derived.Test.YtilhejdbiionhaaGreatDoorR43
import Derived.Test.YtilhejdbiionhaaGreatDoorR44
set_option linter.all false

set_option maxRecDepth 4000
set_option maxHeartbeats 4000000
namespace Go.Proofs.YtilhejdbiionhaaGreatDoor
open Go Go.Abs Go.Cw
section
attribute [local go_sem] pRow
theorem c_ref11_operands(vars:Vis)(loops:List qac)(t:St)(d:Nat)(hok:okS t d):APure Tryz.prog 138 [.agg [.slice (vars.map pRow),.slice (loops.map qa1)],.agg t.x] (.tuple [I (qc5 vars t).1,I (qc5 vars t).2.1,I (qc5 vars t).2.2]):=by
 refine qak Tryz.func138 Tryz.ntmps138 rfl (by kernel_rfl) rfl rfl fun E h hN hh hu hb=>?_;simp-dsimp[go_sem,hN];refine cnd ?_ ?_<;>intro h8<;>simp at h8
 ·simp-dsimp[go_sem,hN,qc5,h8]
 simp-dsimp[go_sem,hN];refine qaa (c_ref11_Of vars t.a (okS_a hok h8)) ?_;simp-dsimp[go_sem,hN]
 repeat refine⟨by grind,?_⟩
 refine cnd (fun h1=>?_) (fun h1=>?_)
 ·have e:qc5 vars t=((ofE vars t.a).1,0,(ofE vars t.a).2):=by
   unfold qc5;rw[if_neg h8,if_neg (by simp at h1;omega)]
  simp-dsimp[go_sem,hN,e]
 have h1':(ofE vars t.a).2=0∧(t.op=3∨t.op=6):=by simp at h1;omega
 have e:qc5 vars t=((ofE vars t.a).1,(ofE vars t.b).1,(ofE vars t.b).2):=by
  unfold qc5;rw[if_neg h8,if_pos h1']
 simp-dsimp[go_sem,hN];refine qaa (c_ref11_Of vars t.b (okS_b hok h1'.2)) ?_;simp-dsimp[go_sem,hN,e]
theorem c_ref11_assign(vars:Vis)(loops:List qac)(name:qac)(ty:Int):APure Tryz.prog 139 [.agg [.slice (vars.map pRow),.slice (loops.map qa1)],S name,I ty] (I (assignT vars loops name ty)):=by
 refine qak Tryz.func139 Tryz.ntmps139 rfl (by kernel_rfl) rfl rfl fun E h hN hh hu hb=>?_;simp[go_sem]at hb;simp-dsimp[go_sem,hN];refine qaa (c_ref11_lookup vars name) ?_;simp-dsimp[go_sem,hN];refine cnd ?_ ?_<;>intro h0<;>simp at h0
 ·simp-dsimp[go_sem,hN,assignT,h0]
 simp-dsimp[go_sem,hN];refine qam loops.length (fun n=>qd1 (loops.drop n) name=qd1 loops name) (fun n=>⟨[(1,S name),(2,I ty),(3,.ptr h.length 0),(7,I (varT (qbg vars name)).1),(9,I n)],h++[.cells [.slice (vars.map pRow),.slice (loops.map qa1)]]⟩) (by simp) wkA ?_;intro n hn hI;have hw:=qa2 hn hb.1.2.1;simp-dsimp[go_sem,hN];refine cnd ?_ ?_<;>intro hc<;>simp at hc
 ·rw[qaf hc,qd1,anyL]at hI;simp-dsimp[go_sem,hN,hc];refine cnd ?_ ?_<;>intro hg<;>simp at hg
  ·have hk:qd1 loops name=true:=by rw[←hI];simp[hg]
   simp-dsimp[go_sem,hN,assignT,h0,hk]
  ·simp-dsimp[go_sem,hN,hw];exact⟨hc,by simpa[hg,qd1]using hI,wkA⟩
 ·rw[List.drop_eq_nil_of_le (by omega)]at hI;have hk:qd1 loops name=false:=by rw[←hI];rfl
  simp-dsimp[go_sem,hN];refine cnd ?_ ?_<;>intro hg<;>simp at hg
  ·simp-dsimp[go_sem,hN,assignT,h0,hk,hg]
  ·simp-dsimp[go_sem,hN,assignT,h0,hk,hg]
abbrev scA(vars:Vis)(loops:List qac):List AV:=[.slice (vars.map pRow),.slice (loops.map qa1)]
theorem c_ref11_body(l:List St)(d:Nat)(vars:Vis)(loops:List qac)(hok:okL l d)(hB:vars.length+(nmL l).length+1≤68719476736)(hL:loops.length≤vars.length):APure Tryz.prog 84 [.agg (scA vars loops),.slice (l.map St.c)] (I (qdr l vars loops)):=by
 refine qak Tryz.func84 Tryz.ntmps84 rfl (by kernel_rfl) rfl rfl fun E h hN hh hu hb=>?_;simp[go_sem]at hb;simp-dsimp[go_sem,hN];refine qap (α:=Vis) l.length (fun n vs=>qdr (l.drop n) vs loops=qdr l vars loops∧vs.length+(nmL (l.drop n)).length+1≤68719476736∧loops.length≤vs.length) (fun n vs=>⟨[(1,.slice (l.map St.c)),(2,.ptr h.length 0),(5,I n)],h++[.cells (scA vs loops)]⟩) vars ⟨by simp,by simpa using hB,hL⟩ wkA ?_;clear hB hL;intro n vs hn ⟨hI,hB,hL⟩;have hw:=qa2 hn hb.2.1;simp-dsimp[go_sem,hN];refine cnd ?_ ?_<;>intro hc<;>simp at hc
 rotate_left
 ·rw[List.drop_eq_nil_of_le (by omega),qdr]at hI;simp-dsimp[go_sem,hN,←hI]
 obtain⟨t,ht⟩:∃t,l[n]=t:=⟨_,rfl⟩
 have hkt:=hok l[n] (List.getElem_mem hc);have hkt':=(qco _ _).1 hkt;have hop:=okS_op hkt;have hlt1:SizeOf.sizeOf l[n].body<SizeOf.sizeOf l:=Nat.lt_trans (St.body_le _) (List.sizeOf_lt_of_mem (List.getElem_mem hc));have hlt2:SizeOf.sizeOf l[n].els<SizeOf.sizeOf l:=Nat.lt_trans (St.els_le _) (List.sizeOf_lt_of_mem (List.getElem_mem hc));rw[qaf hc,qdr]at hI;rw[qaf hc,nmL,nmS_eq]at hB;simp only[List.length_append]at hB;simp-dsimp[go_sem,hN,hc];refine qaa (c_ref11_operands vs loops l[n] d hkt) ?_;obtain⟨oa,ob,oe,ho⟩:∃oa ob oe,qc5 vs l[n]=(oa,ob,oe):=⟨_,_,_,rfl⟩
 have hr:=rstT_eq l[n] vs loops;rw[ho]at hr;simp only at hr;rw[ho]at hI;simp-dsimp[go_sem,hN,ho];by_cases hz:oe=0
 ·subst hz;have hwrong:=c_ref11_wrong l[n].op oa ob;rcases hop with ho1|ho1|ho1|ho1|ho1|ho1|ho1|ho1
  ·have e0:rstT l[n] vs loops=0:=by rw[hr];simp[ho1,qby]
   rw[e0,if_neg (by simp),if_pos ho1]at hI;rw[if_pos (.inl ho1)]at hB;simp only[List.length_singleton]at hB;simp-dsimp[go_sem,hN,ho1];rw[ho1]at hwrong;refine qae hwrong (by simp) ?_;simp-dsimp[go_sem,hN,qby];refine qaa (c_ref11_with vs loops l[n].name oa false (by omega) (by omega)) ?_;simp-dsimp[go_sem,hN,hw];refine⟨hc,vs++[(l[n].name,oa)],⟨hI,by simp;omega,by simp;omega⟩,wkA⟩
  ·have e0:rstT l[n] vs loops=assignT vs loops l[n].name oa:=by rw[hr];simp[ho1,qby]
   rw[e0]at hI;simp-dsimp[go_sem,hN,ho1];refine qaa (c_ref11_assign vs loops l[n].name oa) ?_;obtain⟨a1,ha1⟩:∃a1,assignT vs loops l[n].name oa=a1:=⟨_,rfl⟩
   rw[ha1]at hI⊢;by_cases hz1:a1=0
   ·subst hz1;rw[if_neg (by simp),if_neg (by omega)]at hI;simp-dsimp[go_sem,hN];rw[ho1]at hwrong;refine qae hwrong (by simp) ?_;simp-dsimp[go_sem,hN,qby,hw];exact⟨hc,vs,⟨hI,by omega,hL⟩,wkA⟩
   ·rw[if_pos hz1]at hI;simp-dsimp[go_sem,hN,hz1];rw[ho1]at hwrong;refine qae hwrong (by simp) ?_;simp-dsimp[go_sem,hN,qby,hz1];exact hI
  ·have e0:rstT l[n] vs loops=if qby l[n].op oa ob=true then 10 else 0:=by rw[hr];simp[ho1]
   rw[e0]at hI;simp-dsimp[go_sem,hN,ho1];rw[ho1]at hwrong hI;refine qae hwrong (by simp) ?_;rcases hwt:qby 3 oa ob with _|_
   ·rw[hwt]at hI;rw[if_neg (by simp),if_neg (by decide)]at hI;simp-dsimp[go_sem,hN,hw];exact⟨hc,vs,⟨hI,by omega,hL⟩,wkA⟩
   ·rw[hwt]at hI;rw[if_pos (by simp)]at hI;simp-dsimp[go_sem,hN];simpa using hI
  ·have e0:rstT l[n] vs loops=if qby l[n].op oa ob=true then 10 else 0:=by rw[hr];simp[ho1]
   rw[e0]at hI;simp-dsimp[go_sem,hN,ho1];rw[ho1]at hwrong hI;refine qae hwrong (by simp) ?_;rcases hwt:qby 4 oa ob with _|_
   ·rw[hwt]at hI;rw[if_neg (by simp),if_neg (by decide)]at hI;simp-dsimp[go_sem,hN,hw];exact⟨hc,vs,⟨hI,by omega,hL⟩,wkA⟩
   ·rw[hwt]at hI;rw[if_pos (by simp)]at hI;simp-dsimp[go_sem,hN];simpa using hI
  ·have e0:rstT l[n] vs loops=if qby l[n].op oa ob=true then 10 else(if qdr l[n].body vs loops=0 then qdr l[n].els vs loops else qdr l[n].body vs loops):=by
    rw[hr];rcases qby l[n].op oa ob with _|_<;>simp[ho1]
   rw[e0]at hI;simp-dsimp[go_sem,hN,ho1];rw[ho1]at hwrong hI;refine qae hwrong (by simp) ?_;rcases hwt:qby 5 oa ob with _|_
   ·rw[hwt]at hI;rw[if_neg (show ¬(false=true)by simp)]at hI;simp-dsimp[go_sem,hN];refine qaa (c_ref11_body l[n].body (d+1) vs loops hkt'.2.1 (by omega) hL) ?_;obtain⟨b1,hb1⟩:∃b1,qdr l[n].body vs loops=b1:=⟨_,rfl⟩
    rw[hb1]at hI⊢;by_cases hz1:b1=0
    ·subst hz1;rw[if_pos rfl]at hI;simp-dsimp[go_sem,hN];refine qaa (c_ref11_body l[n].els (d+1) vs loops hkt'.2.2 (by omega) hL) ?_;obtain⟨b2,hb2⟩:∃b2,qdr l[n].els vs loops=b2:=⟨_,rfl⟩
     rw[hb2]at hI⊢;by_cases hz2:b2=0
     ·subst hz2;rw[if_neg (by simp),if_neg (by decide)]at hI;simp-dsimp[go_sem,hN,hw];exact⟨hc,vs,⟨hI,by omega,hL⟩,wkA⟩
     ·rw[if_pos hz2]at hI;simp-dsimp[go_sem,hN,hz2];exact hI
    ·rw[if_neg hz1,if_pos hz1]at hI;simp-dsimp[go_sem,hN,hz1];exact hI
   ·rw[hwt]at hI;rw[if_pos (show true=true from rfl),if_pos (by simp)]at hI;simp-dsimp[go_sem,hN];simpa using hI
  ·have e0:rstT l[n] vs loops=if qby l[n].op oa ob=true then 10 else qdr l[n].body (vs++[(l[n].name,1)]) (loops++[l[n].name]):=by
    rw[hr];rcases qby l[n].op oa ob with _|_<;>simp[ho1]
   rw[e0]at hI;rw[if_pos (.inr ho1)]at hB;simp only[List.length_singleton]at hB;simp-dsimp[go_sem,hN,ho1];rw[ho1]at hwrong hI;refine qae hwrong (by simp) ?_;rcases hwt:qby 6 oa ob with _|_
   ·rw[hwt]at hI;rw[if_neg (show ¬(false=true)by simp)]at hI;simp-dsimp[go_sem,hN];refine qai 6 mixed (by kernel_rfl) (by kernel_rfl) ?_;simp-dsimp[go_sem,hN];refine qax (c_ref11_with vs loops l[n].name 1 true (by omega) (by omega)) (fun _=>trivial) ?_;simp-dsimp[go_sem,hN];have hbd:=c_ref11_body l[n].body (d+1) (vs++[(l[n].name,1)]) (loops++[l[n].name]) hkt'.2.1 (by rw[List.length_append,List.length_singleton];omega) (by rw[List.length_append,List.length_append,List.length_singleton,List.length_singleton];omega);unfold scA at hbd;rw[List.map_append,List.map_append]at hbd;simp only[List.map_cons,List.map_nil,pRow,qa1]at hbd;refine qaa hbd ?_;obtain⟨b1,hb1⟩:∃b1,qdr l[n].body (vs++[(l[n].name,1)]) (loops++[l[n].name])=b1:=⟨_,rfl⟩
    rw[hb1]at hI⊢;by_cases hz1:b1=0
    ·subst hz1;rw[if_neg (by simp),if_neg (by decide)]at hI;simp-dsimp[go_sem,hN,hw];exact⟨hc,vs,⟨hI,by omega,hL⟩,wkA⟩
    ·rw[if_pos hz1]at hI;simp-dsimp[go_sem,hN,hz1];exact hI
   ·rw[hwt]at hI;rw[if_pos (show true=true from rfl),if_pos (by simp)]at hI;simp-dsimp[go_sem,hN];simpa using hI
  ·have e0:rstT l[n] vs loops=if qby l[n].op oa ob=true then 10 else 0:=by rw[hr];simp[ho1]
   rw[e0]at hI;simp-dsimp[go_sem,hN,ho1];rw[ho1]at hwrong hI;refine qae hwrong (by simp) ?_;rcases hwt:qby 7 oa ob with _|_
   ·rw[hwt]at hI;rw[if_neg (by simp),if_neg (by decide)]at hI;simp-dsimp[go_sem,hN,hw];exact⟨hc,vs,⟨hI,by omega,hL⟩,wkA⟩
   ·rw[hwt]at hI;rw[if_pos (by simp)]at hI;simp-dsimp[go_sem,hN];simpa using hI
  ·have e0:rstT l[n] vs loops=if qby l[n].op oa ob=true then 10 else 0:=by rw[hr];simp[ho1]
   rw[e0]at hI;simp-dsimp[go_sem,hN,ho1];rw[ho1]at hwrong hI;refine qae hwrong (by simp) ?_;rcases hwt:qby 8 oa ob with _|_
   ·rw[hwt]at hI;rw[if_neg (by simp),if_neg (by decide)]at hI;simp-dsimp[go_sem,hN,hw];exact⟨hc,vs,⟨hI,by omega,hL⟩,wkA⟩
   ·rw[hwt]at hI;rw[if_pos (by simp)]at hI;simp-dsimp[go_sem,hN];simpa using hI
 ·have e0:rstT l[n] vs loops=oe:=by rw[hr];simp[hz]
  rw[e0,if_pos hz]at hI;simp-dsimp[go_sem,hN,hz];refine qae (c_ref11_wrong l[n].op oa ob) (by simp) ?_;simp-dsimp[go_sem,hN,hz];exact hI
termination_by SizeOf.sizeOf l
theorem valid_few{p:Proc}(h:qcn p=0):p.params.length≤6:=by
 unfold qcn at h;split at h
 ·cases h
 split at h
 ·rename_i h1;exact(h1 h).elim
 ·rename_i h1;simp only[Decidable.not_not]at h1;unfold paramsE at h1;split at h1
  ·cases h1
  ·omega
theorem nm_le{p:Proc}(h:qcn p=0):(nmL p.body).length≤401:=by
 have h1:=namesP_eq h;rw[namesP_walk]at h1;have h2:=List.append_cancel_left h1;have h3:=(wkP_fold (keepS (σ:=Unit)) qb2 p ()).1;have h4:∀l:List Vt,(nameV l).length≤l.length:=by
  intro l
  induction l with
  |nil=>simp[nameV]
  |cons v l ih=>rw[nameV];split<;>simp<;>omega
 have:=h4 (wkP p);rw[←h2];omega
theorem c_ref11_Check(p:Proc):APure Tryz.prog 55 [.agg p.c] (I (qc1 p)):=by
 refine qak Tryz.func55 Tryz.ntmps55 rfl (by kernel_rfl) rfl rfl fun E h hN hh hu hb=>?_;rw[←rtypeErr_eq];simp-dsimp[go_sem,hN];refine qaa (c_ref08_Validate p) ?_;simp-dsimp[go_sem,hN];refine cnd ?_ ?_<;>intro h0<;>simp at h0
 ·simp-dsimp[go_sem,hN,rtypeErr,h0]
 have hfew:=valid_few h0;have hnm:=nm_le h0;obtain⟨R,hR⟩:∃R,rtypeErr p=R:=⟨_,rfl⟩
 have hR':=hR;unfold rtypeErr at hR';rw[if_neg (by simp[h0])]at hR';rw[hR];obtain⟨vv,hvv⟩:∃vv:Nat→Vis,∀n,vv n=visP (p.params.take n):=⟨_,fun _=>rfl⟩
 have hv0:vv 0=[]:=by rw[hvv];rfl
 have hvl:vv p.params.length=visP p.params:=by rw[hvv,List.take_length]
 have hvn:∀n,n≤p.params.length→(vv n).length=n:=fun n hn=>by rw[hvv];simp[visP];omega
 rw[←hvl]at hR';simp-dsimp[go_sem,hN];refine qam p.params.length (fun n=>(p.params.drop n).any (fun x=>decide (x.ty=3))=p.params.any (fun x=>decide (x.ty=3))) (fun n=>⟨[(1,P0 h.length),(4,P0 (h.length+1)),(5,I n)],h++[.cells p.c,.cells (scA (vv n) [])]⟩) (by simp) ?_ ?_
 ·exact Wk.mk (by simp[hh]) (by simp[go_sem,hv0]) (by simp[hu,qan hu,go_sem]) (by simp[go_sem,hv0])
 intro n hn hI;have hw:=qa2 hn (show _≤68719476736 by omega);simp-dsimp[go_sem,hN];refine cnd ?_ ?_<;>intro hc<;>simp at hc
 ·rw[qaf hc,List.any_cons]at hI;simp-dsimp[go_sem,hN,hc];refine cnd ?_ ?_<;>intro h3<;>simp at h3
  ·rw[if_pos (by rw[←hI];simp[h3])]at hR';simp-dsimp[go_sem,hN,←hR']
  ·simp-dsimp[go_sem,hN];refine qai 13 mixed (by kernel_rfl) (by kernel_rfl) ?_;simp-dsimp[go_sem,hN,hc];refine qaa (c_ref11_with (vv n) [] p.params[n].name p.params[n].ty false (by rw[hvn n (by omega)];omega) (by simp)) ?_;have e1:vv n++[(p.params[n].name,p.params[n].ty)]=vv (n+1):=by
    rw[hvv,hvv];unfold visP;rw[List.take_succ_eq_append_getElem hc,List.map_append];rfl
   rw[e1];simp-dsimp[go_sem,hN,hw];exact⟨by simpa[h3]using hI,wkA⟩
 rw[List.drop_eq_nil_of_le (by omega)]at hI;rw[if_neg (by rw[←hI];simp)]at hR';obtain rfl:n=p.params.length:=by omega
 simp-dsimp[go_sem,hN];refine qaa (c_ref08_Names p (by omega)) ?_;rw[←namesP_walk];obtain⟨N,hN2⟩:∃N,qd4 p=N:=⟨_,rfl⟩
 rw[hN2]at hR'⊢;have hNl:N.length≤407:=by rw[←hN2,namesP_eq h0];simp;omega
 simp-dsimp[go_sem,hN];refine qam N.length (fun k=>dupL (N.take k) (N.drop k)=dupL [] N) (fun k=>⟨[(1,P0 h.length),(4,P0 (h.length+1)),(6,.slice (N.map qa1)),(7,I k)],h++[.cells p.c,.cells (scA (vv p.params.length) [])]⟩) (by simp) wkA ?_;intro k hk hJ;have hw:=qa2 hk (show _≤68719476736 by omega);simp-dsimp[go_sem,hN];refine cnd ?_ ?_<;>intro hd<;>simp at hd
 ·rw[qaf hd,dupL]at hJ;simp-dsimp[go_sem,hN];refine qam k (fun q=>anyL (fun x=>decide (x=N[k])) ((N.take k).drop q)=anyL (fun x=>decide (x=N[k])) (N.take k)) (fun q=>⟨[(1,P0 h.length),(4,P0 (h.length+1)),(6,.slice (N.map qa1)),(7,I k),(8,I q)],h++[.cells p.c,.cells (scA (vv p.params.length) [])]⟩) (by simp) wkA ?_;intro q hq hK;have hw2:=qa2 hq (show _≤68719476736 by omega);simp-dsimp[go_sem,hN];refine cnd ?_ ?_<;>intro he<;>simp at he
  ·have he2:q<N.length:=by omega
   have hx:q<(N.take k).length:=by simp;omega
   rw[qaf hx,anyL]at hK;simp only[List.getElem_take]at hK;simp-dsimp[go_sem,hN,he,he2,hd];refine qai 8 mixed (by kernel_rfl) (by kernel_rfl) ?_;simp-dsimp[go_sem,hN,he,he2,hd];refine cnd ?_ ?_<;>intro hg<;>simp at hg
   ·have h1:qd1 (N.take k) N[k]=true:=by unfold qd1;rw[←hK];simp[hg]
    have h2:dupL [] N=true:=by rw[←hJ,h1];rfl
    rw[if_pos h2]at hR';simp-dsimp[go_sem,hN,←hR']
   ·simp-dsimp[go_sem,hN,hw2];exact⟨he,by simpa[hg]using hK,wkA⟩
  ·rw[List.drop_eq_nil_of_le (by simp;omega),anyL]at hK;have h1:qd1 (N.take k) N[k]=false:=by unfold qd1;rw[←hK]
   rw[h1,Bool.false_or]at hJ;simp-dsimp[go_sem,hN,hw];exact⟨hd,by rw[List.take_succ_eq_append_getElem hd];exact hJ,wkA⟩
 ·rw[List.drop_eq_nil_of_le (by omega),dupL]at hJ;rw[←hJ,if_neg (by simp)]at hR';simp-dsimp[go_sem,hN];refine qaa (c_ref11_body p.body 1 (vv p.params.length) [] (validP_ok h0) (by rw[hvn _ (Nat.le_refl _)];omega) (by simp)) ?_;simp-dsimp[go_sem,hN,hR']
theorem c_ref11_fits(x:Param)(v:V)(hx:x.ty=1∨x.ty=2):APure Tryz.prog 56 [.agg v.c,I x.ty] (Bo (argOk x v)):=by
 refine qak Tryz.func56 Tryz.ntmps56 rfl (by kernel_rfl) rfl rfl fun E h hN hh hu hb=>?_;simp-dsimp[go_sem,hN];refine cnd ?_ ?_<;>intro h0<;>simp at h0
 ·simp-dsimp[go_sem,hN,argOk,h0]
 simp-dsimp[go_sem,hN];refine qae (c_ref08_Plain v.s) (by simp) ?_;have h2:x.ty=2:=hx.resolve_left h0;simp-dsimp[go_sem,hN,argOk,h2]
 try grind
theorem params_12{p:Proc}(h:qc1 p=0):∀x∈p.params,x.ty=1∨x.ty=2:=by
 rw[←rtypeErr_eq]at h;unfold rtypeErr at h;split at h
 ·rename_i h1;exact(h1 h).elim
 rename_i h1;split at h
 ·cases h
 rename_i h2;intro x hx;have hv:=valid_params (by simpa using h1) x hx;have h3:x.ty≠3:=fun e=>h2 (List.any_eq_true.2 ⟨x,hx,by simp[e]⟩);omega
theorem c_ref11_Args(p:Proc)(args:List V):APure Tryz.prog 22 [.agg p.c,.slice (args.map V.c)] (I (qcl p args)):=by
 refine qak Tryz.func22 Tryz.ntmps22 rfl (by kernel_rfl) rfl rfl fun E h hN hh hu hb=>?_;simp-dsimp[go_sem,hN];refine qaa (c_ref11_Check p) ?_;simp-dsimp[go_sem,hN]
 repeat refine⟨by grind,?_⟩
 refine cnd (fun h0=>?_) (fun h0=>?_)
 ·simp-dsimp[go_sem,hN];unfold qcl;rw[if_pos (by simp at h0;omega)]
 have h0':qc1 p=0∧args.length=p.params.length:=by simp at h0;omega
 have e0:qcl p args=if argsOk p.params args=true then 0 else 10:=by unfold qcl;rw[if_neg (by omega)]
 rw[e0];simp-dsimp[go_sem,hN];refine qam args.length (fun n=>argsOk (p.params.drop n) (args.drop n)=argsOk p.params args) (fun n=>⟨[(1,.slice (args.map V.c)),(2,P0 h.length),(5,I n)],h++[.cells p.c]⟩) (by simp) wkA ?_;intro n hn hI;simp[go_sem]at hb;have hw:=qa2 hn (show _≤68719476736 by first|exact hb.2.1|exact hb.2|exact hb.1.2.1.1|omega);simp-dsimp[go_sem,hN];refine cnd ?_ ?_<;>intro hc<;>simp at hc
 ·have hc2:n<p.params.length:=by omega
  rw[qaf hc,qaf hc2,argsOk]at hI;simp-dsimp[go_sem,hN,hc,hc2];refine qai 10 mixed (by kernel_rfl) (by kernel_rfl) ?_;simp-dsimp[go_sem,hN,hc,hc2];refine qaa (c_ref11_fits p.params[n] args[n] (params_12 h0'.1 _ (List.getElem_mem hc2))) ?_;simp-dsimp[go_sem,hN];refine cnd ?_ ?_<;>intro h1<;>simp at h1
  ·simp-dsimp[go_sem,hN,←hI,h1]
  ·simp-dsimp[go_sem,hN,hw];exact⟨hc,by simpa[h1]using hI,wkA⟩
 ·rw[List.drop_eq_nil_of_le (show p.params.length≤n by omega),List.drop_eq_nil_of_le (show args.length≤n by omega)]at hI;have hI':argsOk p.params args=true:=by rw[←hI];simp[argsOk]
  rw[if_pos hI']at e0;rw[if_pos hI'];simp-dsimp[go_sem,hN]
end
end Go.Proofs.YtilhejdbiionhaaGreatDoor

set_option maxRecDepth 4000
set_option maxHeartbeats 2000000
namespace Go.Proofs.YtilhejdbiionhaaGreatDoor
open Go Go.Abs Go.Cw
theorem c_ref12_nondeterministic(op:Int):APure Tryz.prog 129 [I op] (Bo (nonDet op)):=by
 refine qak Tryz.func129 Tryz.ntmps129 rfl (by kernel_rfl) rfl rfl fun E h hN hh hu hb=>?_;simp-dsimp[go_sem,hN,nonDet]
 try grind
theorem ops_len(e:Ex):(opsE e).length=nodes e:=by simp[opsE,nodes]
theorem rootV_len:∀l:List Vt,(rootV l).length≤l.length
 | []=>by simp[rootV]
 |v::l=>by
  have:=rootV_len l;rw[rootV];split<;>simp<;>omega
theorem c_ref12_Ops(e:Ex)(hB:nodes e≤1000000):APure Tryz.prog 128 [.agg e.x] (.slice ((opsE e).map iRow)):=by
 refine apure_introB Tryz.func128 rfl (by kernel_rfl) (by simp[Tryz.ntmps128]) rfl ?_;intro E h hN hh hu hb;rw[Tryz.ntmps128]at hN;simp[go_sem]at hb;refine qbj (awp_ops ?_);simp[go_sem,hN];refine qbj (awp_opsT [_,_] _ ?_);simp[go_sem,hN];intro c a w s k;refine wp_lit1 s k (x:=.tmp 6) (el:=3) (d1:=7) rfl rfl (by omega) rfl (by simp[go_sem]) (by simp[go_sem]) (by simp[go_sem]) (by simp[go_sem]) (v:=.int .i64 e.op) (by simp[go_sem]) rfl fun c' a' w' s' k'=>?_;refine qc9 _ [_,_,_] _ rfl ?_ c' a' w' s' k';simp[go_sem,hN];apply qay;simp-dsimp[go_sem,hN];refine qap (α:=List Int) e.args.length (fun n o=>o++opsL (e.args.drop n)=opsE e∧o.length+nodesL (e.args.drop n)≤1000000) (fun n o=>⟨[(1,P0 h.length),(3,.own (h.length+1) o.length),(4,I n)],h++[.cells e.x,.arr 3 1 (o.map iRow)]⟩) [e.op] ⟨by rw[opsE_eq];simp,by have:=nodes_eq e;simp;omega⟩ wkA ?_;rintro n o hn ⟨hI,ho⟩;have hw:=qa2 hn (show _≤68719476736 by first|exact hb.2.1|omega);simp-dsimp[go_sem,hN];refine cnd ?_ ?_<;>intro hc<;>simp at hc
 ·rw[qaf hc,opsL_cons]at hI;rw[qaf hc,nodesL_cons]at ho;have hlt:SizeOf.sizeOf e.args[n]<SizeOf.sizeOf e:=Ex.arg_lt (List.getElem_mem hc);have hOps:=c_ref12_Ops e.args[n] (by omega);have hol:(opsE e.args[n]).length=nodes e.args[n]:=ops_len _;obtain⟨O,hO⟩:∃O,opsE e.args[n]=O:=⟨_,rfl⟩
  rw[hO]at hI hol hOps;simp-dsimp[go_sem,hN,hc];refine qaa hOps ?_;simp-dsimp[go_sem,hN,hc,hw];refine⟨by omega,o++O,⟨by rw[List.append_assoc];exact hI,by simp;omega⟩,wkA⟩
 ·rw[List.drop_eq_nil_of_le (by omega)]at hI;have hI':o=opsE e:=by rw[←hI];simp[preL]
  obtain⟨O,hO⟩:∃O,opsE e=O:=⟨_,rfl⟩
  rw[hO]at hI'⊢;simp-dsimp[go_sem,hN,hI'];rw[←hO];simp
termination_by SizeOf.sizeOf e
theorem c_ref12_First(p:Proc):APure Tryz.prog 79 [.agg p.c] (.tuple [I (firstP p).1,I (firstP p).2.1,Bo (firstP p).2.2]):=by
 refine qak Tryz.func79 Tryz.ntmps79 rfl (by kernel_rfl) rfl rfl fun E h hN hh hu hb=>?_;simp-dsimp[go_sem,hN];refine qaa (c_ref08_Validate p) ?_;simp-dsimp[go_sem,hN];refine cnd ?_ ?_<;>intro h0<;>simp at h0
 ·simp-dsimp[go_sem,hN,firstP,h0]
 have hk:∀x∈qcc p,nodes x≤4096:=fun x hx=>by
  have:=chkE_nodes x 1 12 (exprs_ok h0 x hx) (by omega);omega
 have hlen:(qcc p).length≤401:=by
  rw[exprsP_walk];have h1:=(wkP_fold (keepS (σ:=Unit)) qb2 p ()).1;have h2:=rootV_len (wkP p);omega
 rw[firstP_eq h0];simp-dsimp[go_sem,hN];have hEx:=c_ref08_Exprs p;rw[←exprsP_walk]at hEx;obtain⟨L,hL⟩:∃L,qcc p=L:=⟨_,rfl⟩
 rw[hL]at hk hlen hEx⊢;refine qaa hEx ?_;simp-dsimp[go_sem,hN];obtain⟨R,hR⟩:∃R,firstI (opsL L) 0=R:=⟨_,rfl⟩
 rw[hR];refine qap (α:=Nat) L.length (fun n m=>firstI (opsL (L.drop n)) m=R∧m≤4096 * n) (fun n m=>⟨[(5,.slice (L.map Ex.c)),(6,I m),(7,I n)],h⟩) 0 ⟨by simpa using hR,by omega⟩ wkA ?_;intro n m hn ⟨hI,hm⟩;have hw:=qa2 hn (show _≤68719476736 by omega);simp-dsimp[go_sem,hN];refine cnd ?_ ?_<;>intro hc<;>simp at hc
 ·have hkn:=hk _ (List.getElem_mem hc);rw[qaf hc,opsL_cons]at hI;simp-dsimp[go_sem,hN,hc];have hOps:=c_ref12_Ops L[n] (by omega);have hol:(opsE L[n]).length≤4096:=by rw[ops_len];exact hkn
  obtain⟨O,hO⟩:∃O,opsE L[n]=O:=⟨_,rfl⟩
  rw[hO]at hI hol hOps;refine qaa hOps ?_;simp-dsimp[go_sem,hN];refine qam O.length (fun k=>firstI (O.drop k++opsL (L.drop (n+1))) ((m+k:Nat):Int)=R) (fun k=>⟨[(5,.slice (L.map Ex.c)),(6,I ((m+k:Nat):Int)),(7,I n),(8,.slice (O.map iRow)),(9,I k)],h⟩) (by simpa using hI) wkA ?_;intro k hk2 hJ;have hw2:=qa2 hk2 (show _≤68719476736 by omega);have hw3:IntKind.i64.wrap (((m+k:Nat):Int)+1)=((m+(k+1):Nat):Int):=by rw[wrapI (by omega) (by omega)];omega
  have hw4:IntKind.i64.wrap ((m:Int)+(k:Int)+1)=(m:Int)+((k:Int)+1):=by rw[wrapI (by omega) (by omega)];omega
  simp-dsimp[go_sem,hN];refine cnd ?_ ?_<;>intro hkc<;>simp at hkc
  ·rw[qaf hkc,List.cons_append,firstI]at hJ;simp-dsimp[go_sem,hN,hkc,iRow];refine qaa (c_ref12_nondeterministic O[k]) ?_;simp-dsimp[go_sem,hN];refine cnd ?_ ?_<;>intro hg<;>try simp at hg
   ·rw[if_pos hg]at hJ;simp-dsimp[go_sem,hN,hkc,iRow];rw[←hJ];exact⟨rfl,rfl,rfl⟩
   ·rw[if_neg (by simp[hg])]at hJ;simp-dsimp[go_sem,hN,hw2,hw3,hw4];exact⟨hkc,by rw[←hJ];congr 1,wkA⟩
  ·have hkO:k=O.length:=by omega
   subst hkO;rw[List.drop_eq_nil_of_le (by omega),List.nil_append]at hJ;simp-dsimp[go_sem,hN,hw];exact⟨hc,m+O.length,⟨hJ,by omega⟩,wkA⟩
 ·rw[List.drop_eq_nil_of_le (by omega)]at hI;have:firstI (opsL []) m=(0,0,false):=rfl;rw[this]at hI;simp-dsimp[go_sem,hN];rw[←hI];exact⟨rfl,rfl,rfl⟩
theorem c_ref12_Check(p:Proc):APure Tryz.prog 53 [.agg p.c] (I (detErr p)):=by
 refine qak Tryz.func53 Tryz.ntmps53 rfl (by kernel_rfl) rfl rfl fun E h hN hh hu hb=>?_;simp-dsimp[go_sem,hN];refine qaa (c_ref11_Check p) ?_;simp-dsimp[go_sem,hN];refine cnd ?_ ?_<;>intro h0<;>simp at h0
 ·simp-dsimp[go_sem,hN,detErr,h0]
 simp-dsimp[go_sem,hN];refine qaa (c_ref12_First p) ?_;simp-dsimp[go_sem,hN];refine cnd ?_ ?_<;>intro h1<;>try simp at h1
 ·simp-dsimp[go_sem,hN,detErr,h0,h1]
 ·simp-dsimp[go_sem,hN,detErr,h0,h1]
section
attribute [local go_sem] Cnt.c
theorem qa5(n:Int):APure Tryz.prog 180 [I n] (I (cut n)):=by
 refine qak Tryz.func180 Tryz.ntmps180 rfl (by kernel_rfl) rfl rfl fun E h hN hh hu hb=>?_;simp-dsimp[go_sem,hN];simp only[cut,mn]
theorem qct(x y:Cnt):APure Tryz.prog 131 [.agg x.c,.agg y.c] (.agg (x.plus y).c):=by
 refine qak Tryz.func131 Tryz.ntmps131 rfl (by kernel_rfl) rfl rfl fun E h hN hh hu hb=>?_;simp-dsimp[go_sem,hN];refine qai 23 mixed (by kernel_rfl) (by kernel_rfl) ?_;simp-dsimp[go_sem,hN]
 first|refine qaa (qa5 _) ?_|refine qax (qa5 _) (fun _=>trivial) ?_
 simp-dsimp[go_sem,hN]
 first|refine qaa (qa5 _) ?_|refine qax (qa5 _) (fun _=>trivial) ?_
 simp-dsimp[go_sem,hN]
 first|refine qaa (qa5 _) ?_|refine qax (qa5 _) (fun _=>trivial) ?_
 simp-dsimp[go_sem,hN]
 first|refine qaa (qa5 _) ?_|refine qax (qa5 _) (fun _=>trivial) ?_
 simp-dsimp[go_sem,hN];simp[Cnt.plus,cut]
theorem c_ref13_greater(x y:Cnt):APure Tryz.prog 132 [.agg x.c,.agg y.c] (.agg (x.larger y).c):=by
 refine qak Tryz.func132 Tryz.ntmps132 rfl (by kernel_rfl) rfl rfl fun E h hN hh hu hb=>?_;simp-dsimp[go_sem,hN];simp[Cnt.larger,mx]
theorem c_ref13_times(k:Int)(x:Cnt):APure Tryz.prog 133 [I k,.agg x.c] (.agg (Cnt.rtimes k x).c):=by
 refine qak Tryz.func133 Tryz.ntmps133 rfl (by kernel_rfl) rfl rfl fun E h hN hh hu hb=>?_;simp-dsimp[go_sem,hN];refine qai 19 mixed (by kernel_rfl) (by kernel_rfl) ?_;simp-dsimp[go_sem,hN]
 first|refine qaa (qa5 _) ?_|refine qax (qa5 _) (fun _=>trivial) ?_
 simp-dsimp[go_sem,hN]
 first|refine qaa (qa5 _) ?_|refine qax (qa5 _) (fun _=>trivial) ?_
 simp-dsimp[go_sem,hN]
 first|refine qaa (qa5 _) ?_|refine qax (qa5 _) (fun _=>trivial) ?_
 simp-dsimp[go_sem,hN]
 first|refine qaa (qa5 _) ?_|refine qax (qa5 _) (fun _=>trivial) ?_
 simp-dsimp[go_sem,hN];simp[Cnt.rtimes,cut]
theorem qd6(e:Ex):APure Tryz.prog 181 [.agg e.x] (I (rgE e)):=by
 refine qak Tryz.func181 Tryz.ntmps181 rfl (by kernel_rfl) rfl rfl fun E h hN hh hu hb=>?_;simp[go_sem]at hb;rw[rgE_eq];obtain⟨G,hG⟩:∃G:Int,G=if e.op=22∨e.op=23∨e.op=24 then 1 else 0:=⟨_,rfl⟩
 rw[←hG];simp-dsimp[go_sem,hN];refine cnd (fun h1=>?_) (fun h1=>?_)
 ·have hv:G=1:=by rw[hG,if_pos (by simp at h1;omega)]
  simp-dsimp[go_sem,hN];refine qap (α:=Int) e.args.length (fun n m=>rgL (e.args.drop n) m=rgL e.args G) (fun n m=>⟨[(1,.ptr h.length 0),(3,I m),(4,I n)],h++[.cells e.x]⟩) G (by simp) (wkA (by simp[go_sem,hv])) ?_;intro n m hn hI;have hw:=qa2 hn hb.2.1;simp-dsimp[go_sem,hN];refine cnd ?_ ?_<;>intro hc<;>simp at hc
  ·rw[qaf hc,rgL]at hI;have hlt:SizeOf.sizeOf e.args[n]<SizeOf.sizeOf e:=Ex.arg_lt (List.getElem_mem hc);simp-dsimp[go_sem,hN,hc];refine qaa (qd6 e.args[n]) ?_;simp-dsimp[go_sem,hN];refine qaa (qa5 _) ?_;simp-dsimp[go_sem,hN,hw];exact⟨hc,_,hI,wkA⟩
  ·rw[List.drop_eq_nil_of_le (by omega),rgL]at hI;simp-dsimp[go_sem,hN,hI]
 ·have hv:G=0:=by rw[hG,if_neg (by simp at h1;omega)]
  simp-dsimp[go_sem,hN];refine qap (α:=Int) e.args.length (fun n m=>rgL (e.args.drop n) m=rgL e.args G) (fun n m=>⟨[(1,.ptr h.length 0),(3,I m),(4,I n)],h++[.cells e.x]⟩) G (by simp) (wkA (by simp[go_sem,hv])) ?_;intro n m hn hI;have hw:=qa2 hn hb.2.1;simp-dsimp[go_sem,hN];refine cnd ?_ ?_<;>intro hc<;>simp at hc
  ·rw[qaf hc,rgL]at hI;have hlt:SizeOf.sizeOf e.args[n]<SizeOf.sizeOf e:=Ex.arg_lt (List.getElem_mem hc);simp-dsimp[go_sem,hN,hc];refine qaa (qd6 e.args[n]) ?_;simp-dsimp[go_sem,hN];refine qaa (qa5 _) ?_;simp-dsimp[go_sem,hN,hw];exact⟨hc,_,hI,wkA⟩
  ·rw[List.drop_eq_nil_of_le (by omega),rgL]at hI;simp-dsimp[go_sem,hN,hI]
termination_by SizeOf.sizeOf e
theorem c_ref13_own(t:St):APure Tryz.prog 130 [.agg t.x] (.agg (rown t).c):=by
 refine qak Tryz.func130 Tryz.ntmps130 rfl (by kernel_rfl) rfl rfl fun E h hN hh hu hb=>?_;simp-dsimp[go_sem,hN];refine qai 10 mixed (by kernel_rfl) (by kernel_rfl) ?_;simp-dsimp[go_sem,hN]
 first|refine qaa (qd6 t.a) ?_|refine qax (qd6 t.a) (fun _=>trivial) ?_
 simp-dsimp[go_sem,hN]
 first|refine qaa (qd6 t.b) ?_|refine qax (qd6 t.b) (fun _=>trivial) ?_
 simp-dsimp[go_sem,hN]
 first|refine qaa (qa5 _) ?_|refine qax (qa5 _) (fun _=>trivial) ?_
 simp-dsimp[go_sem,hN];by_cases h3:t.op=3∨t.op=4
 ·have h7:t.op≠7:=by omega
  have e:rown t=⟨1,cut (W64 (rgE t.a+rgE t.b)),1,0⟩:=by unfold rown;rw[if_pos h3,if_neg h7]
  rw[e];refine cnd (fun h=>?_) (fun h=>by simp at h;omega);simp-dsimp[go_sem,hN,h7]
 ·by_cases h7:t.op=7
  ·have e:rown t=⟨1,cut (W64 (rgE t.a+rgE t.b)),0,1⟩:=by unfold rown;rw[if_neg h3,if_pos h7]
   rw[e];refine cnd (fun h=>by simp at h;omega) (fun h=>?_);simp-dsimp[go_sem,hN,h7]
  ·have e:rown t=⟨1,cut (W64 (rgE t.a+rgE t.b)),0,0⟩:=by unfold rown;rw[if_neg h3,if_neg h7]
   rw[e];refine cnd (fun h=>by simp at h;omega) (fun h=>?_);simp-dsimp[go_sem,hN,h7]
theorem qdh(l:List St):APure Tryz.prog 80 [.slice (l.map St.c)] (.agg (rcB l).c):=by
 refine qak Tryz.func80 Tryz.ntmps80 rfl (by kernel_rfl) rfl rfl fun E h hN hh hu hb=>?_;simp[go_sem]at hb;simp-dsimp[go_sem,hN];refine qap (α:=Cnt) l.length (fun n c=>rcL (l.drop n) c=rcB l) (fun n c=>⟨[(0,.slice (l.map St.c)),(2,P0 h.length),(3,P0 (h.length+1)),(4,I n)],h++[.cells [I 0,I 0,I 0,I 0],.cells c.c]⟩) ⟨0,0,0,0⟩ (by simp) wkA ?_;intro n c hn hI;have hw:=qa2 hn (show _≤68719476736 by first|exact hb.1|exact hb|omega);simp-dsimp[go_sem,hN];refine cnd ?_ ?_<;>intro hc<;>simp at hc
 rotate_left
 ·rw[List.drop_eq_nil_of_le (by omega),rcL]at hI;simp-dsimp[go_sem,hN,←hI]
 rw[qaf hc,rcL,rcS_eq]at hI;have hlt1:SizeOf.sizeOf l[n].body<SizeOf.sizeOf l:=Nat.lt_trans (St.body_le _) (List.sizeOf_lt_of_mem (List.getElem_mem hc));have hlt2:SizeOf.sizeOf l[n].els<SizeOf.sizeOf l:=Nat.lt_trans (St.els_le _) (List.sizeOf_lt_of_mem (List.getElem_mem hc));simp-dsimp[go_sem,hN,hc];refine qaa (c_ref13_own l[n]) ?_;simp-dsimp[go_sem,hN];by_cases h5:l[n].op=5
 ·have h6:l[n].op≠6:=by omega
  simp only[h5,if_true,show ¬(5:Int)=6 by decide,if_false]at hI;simp-dsimp[go_sem,hN,h5];refine qai 8 mixed (by kernel_rfl) (by kernel_rfl) ?_;simp-dsimp[go_sem,hN]
  first|refine qaa (qdh l[n].body) ?_|refine qax (qdh l[n].body) (fun _=>trivial) ?_
  simp-dsimp[go_sem,hN]
  first|refine qaa (qdh l[n].els) ?_|refine qax (qdh l[n].els) (fun _=>trivial) ?_
  simp-dsimp[go_sem,hN]
  first|refine qaa (c_ref13_greater _ _) ?_|refine qax (c_ref13_greater _ _) (fun _=>trivial) ?_
  simp-dsimp[go_sem,hN]
  first|refine qaa (qct _ _) ?_|refine qax (qct _ _) (fun _=>trivial) ?_
  simp-dsimp[go_sem,hN,h5];refine qaa (qct _ _) ?_;simp-dsimp[go_sem,hN,hw];exact⟨hc,_,hI,wkA⟩
 ·by_cases h6:l[n].op=6
  ·simp only[h6,if_true,show ¬(6:Int)=5 by decide,if_false]at hI;simp-dsimp[go_sem,hN,h6];refine qai 11 mixed (by kernel_rfl) (by kernel_rfl) ?_;simp-dsimp[go_sem,hN]
   first|refine qaa (qdh l[n].body) ?_|refine qax (qdh l[n].body) (fun _=>trivial) ?_
   simp-dsimp[go_sem,hN]
   first|refine qaa (c_ref13_times l[n].max _) ?_|refine qax (c_ref13_times l[n].max _) (fun _=>trivial) ?_
   simp-dsimp[go_sem,hN]
   first|refine qaa (qct _ _) ?_|refine qax (qct _ _) (fun _=>trivial) ?_
   simp-dsimp[go_sem,hN]
   first|refine qaa (qct _ ⟨l[n].max,0,0,0⟩) ?_|refine qax (qct _ ⟨l[n].max,0,0,0⟩) (fun _=>trivial) ?_
   simp-dsimp[go_sem,hN];refine qaa (qct _ _) ?_;simp-dsimp[go_sem,hN,hw];exact⟨hc,_,hI,wkA⟩
  ·simp only[h5,h6,if_false]at hI;simp-dsimp[go_sem,hN,h5,h6];refine qaa (qct _ _) ?_;simp-dsimp[go_sem,hN,hw];exact⟨hc,_,hI,wkA⟩
termination_by SizeOf.sizeOf l
theorem det_valid{p:Proc}(h:detErr p=0):qcn p=0:=by
 unfold detErr at h;split at h
 ·rename_i h1;exact(h1 h).elim
 ·rename_i h1;simp only[Decidable.not_not]at h1;unfold qc1 at h1;split at h1
  ·rename_i h2;exact(h2 h1).elim
  ·rename_i h2;simpa using h2
theorem c_ref13_Of(p:Proc)(hd0:detErr p=0):APure Tryz.prog 54 [.agg p.c] (.tuple [.agg (cntB p.body).c,Bo true]):=by
 refine qak Tryz.func54 Tryz.ntmps54 rfl (by kernel_rfl) rfl rfl fun E h hN hh hu hb=>?_;have hv:=det_valid hd0;have hr:=rcB_eq (validP_ok hv);have hbd:=qdh p.body;rw[hr]at hbd;have hck:=c_ref12_Check p;rw[hd0]at hck;simp-dsimp[go_sem,hN];refine qaa hck ?_;simp-dsimp[go_sem,hN];refine qaa hbd ?_;simp-dsimp[go_sem,hN]
theorem c_ref13_Check(p:Proc):APure Tryz.prog 21 [.agg p.c] (I (qbv p)):=by
 refine qak Tryz.func21 Tryz.ntmps21 rfl (by kernel_rfl) rfl rfl fun E h hN hh hu hb=>?_;simp-dsimp[go_sem,hN];refine qaa (c_ref12_Check p) ?_;simp-dsimp[go_sem,hN];refine cnd ?_ ?_<;>intro h0<;>simp at h0
 ·simp-dsimp[go_sem,hN,qbv,h0]
 have hOf:=c_ref13_Of p h0;simp-dsimp[go_sem,hN];refine qaa hOf ?_;simp-dsimp[go_sem,hN];refine cnd ?_ ?_<;>intro h1<;>simp at h1
 ·simp-dsimp[go_sem,hN,qbv,h0,h1]
 simp-dsimp[go_sem,hN]
 repeat refine⟨by grind,?_⟩
 refine cnd (fun h2=>?_) (fun h2=>?_)
 ·have e:qbv p=2:=by
   unfold qbv;rw[if_neg (by simp[h0]),if_neg (by omega),if_pos (by simp at h2;omega)]
  simp-dsimp[go_sem,hN,e]
 ·have e:qbv p=0:=by
   unfold qbv;rw[if_neg (by simp[h0]),if_neg (by omega),if_neg (by simp at h2;omega)]
  simp-dsimp[go_sem,hN,e]
end
end Go.Proofs.YtilhejdbiionhaaGreatDoor

set_option maxRecDepth 4000
set_option maxHeartbeats 4000000
namespace Go.Proofs.YtilhejdbiionhaaGreatDoor
open Go Go.Abs Go.Cw
section
attribute [local go_sem] RM.c
theorem fmt_ref:∀n,i64 n→APure Tryz.prog 287 [I n] (S (qbc n)):=fun n hn=>c_ref01_Format n hn
theorem c_ref15_Run(p:Proc)(args:List V)(st:List Pr)(ft:Foot)(hI:RunIn qbc p args st):APure Tryz.prog 65 [.agg p.c,.slice (args.map V.c),.slice (st.map Pr.c),.agg ft.c] (.agg (runS qbc p args st ft).c):=by
 refine qak Tryz.func65 Tryz.ntmps65 rfl (by kernel_rfl) rfl rfl fun E h hN hh hu hb=>?_;simp[go_sem]at hb;rw[←runR_eq hI];have hcond:(qbv p≠0∨qcl p args≠0∨qb7 st=false∨footOk ft.all ft.reads ft.writes=false)↔¬runOk p args st ft:=by unfold runOk;simp only[Decidable.not_not]
 simp-dsimp[go_sem,hN];refine qaa (c_ref13_Check p) ?_;simp-dsimp[go_sem,hN];refine qae (c_ref11_Args p args) (by simp) ?_;simp-dsimp[go_sem,hN];refine qae (c_ref06_Valid st) (by simp) ?_;simp-dsimp[go_sem,hN];refine qae (c_ref15_ValidFoot ft) (by simp) ?_;simp-dsimp[go_sem,hN]
 repeat refine⟨by grind,?_⟩
 refine cnd ?_ ?_<;>intro h0<;>simp at h0
 ·have e1:runR qbc p args st ft=wrongE:=by unfold runR;rw[if_pos (by grind)]
  rw[e1];simp-dsimp[go_sem,hN];refine qaa c_ref15_nothing ?_;simp-dsimp[go_sem,hN]
 have hok:runOk p args st ft:=by rw[runOk_iff];grind
 have hok':=(runOk_iff _ _ _ _).1 hok;have hlen:=(argsErr_ok hok'.2.1).1;have hfew:=valid_few (cost_valid hok'.1);have e1:runR qbc p args st ft=doneR (blkR (cfgR qbc st ft) p.body (rm0 p args)):=by unfold runR;rw[if_neg hok]
 rw[e1];simp-dsimp[go_sem,hN];refine qap (α:=List Pr) args.length (fun n vs=>qcv (p.params.drop n) (args.drop n) vs=qcv p.params args []∧vs.length≤n) (fun n vs=>⟨[(1,.slice (args.map V.c)),(4,P0 h.length),(8,P0 (h.length+2)),(9,P0 (h.length+3)),(10,I n)],h++[.cells p.c,.cells ft.c,effZ,.cells (RM.c (cfgR qbc st ft) ⟨vs,[],0,0,[],[],[],em,0⟩)]⟩) [] (by simp) wkA ?_;rintro n vs hn ⟨hI2,hvl⟩;have hw:=qa2 hn (show _≤68719476736 by omega);simp-dsimp[go_sem,hN];refine cnd ?_ ?_<;>intro hc<;>simp at hc
 ·have hc2:n<p.params.length:=by omega
  rw[qaf hc,qaf hc2,qcv]at hI2;simp-dsimp[go_sem,hN,hc,hc2];refine qai 13 mixed (by kernel_rfl) (by kernel_rfl) ?_;simp-dsimp[go_sem,hN,hc,hc2];refine qaa (c_ref15_set vs ⟨p.params[n].name,args[n]⟩ (by omega)) ?_;simp-dsimp[go_sem,hN,hw];have:=setR_len vs ⟨p.params[n].name,args[n]⟩;exact⟨_,⟨hI2,by omega⟩,wkA⟩
 ·rw[List.drop_eq_nil_of_le (show args.length≤n by omega),List.drop_eq_nil_of_le (show p.params.length≤n by omega),show qcv [] [] vs=vs by simp[qcv]]at hI2;subst hI2;have hsi:=setArgsR_inv p.params args [] hI.args (by simp);have hRI:RInv 0 0 (rm0 p args):=⟨hsi.1,by simp,by simp,by simp,by simp,by simp,by simp,by have:=hsi.2;simp at this⊢;omega,by simp⟩
  have hC:rngC (cfgR qbc st ft):=fun q hq=>hI.st q hq;simp-dsimp[go_sem,hN];refine qaa (c_ref15_block (cfgR qbc st ft) hC hI.fmt fmt_ref p.body 1 (rm0 p args) (cost_okL hok'.1) (cost_goS hok'.1 hI.body) hRI rfl) ?_;obtain⟨M,hM⟩:∃M,blkR (cfgR qbc st ft) p.body (rm0 p args)=M:=⟨_,rfl⟩
  rw[hM];simp-dsimp[go_sem,hN];refine qaa (qbw (cfgR qbc st ft) M) ?_;simp-dsimp[go_sem,hN];refine cnd ?_ ?_<;>intro h1<;>simp at h1
  ·simp-dsimp[go_sem,hN];refine qaa (c_ref15_ended (cfgR qbc st ft) M) ?_;simp-dsimp[go_sem,hN,doneR,h1]
  ·simp-dsimp[go_sem,hN];refine qaa (c_ref15_Commit (cfgR qbc st ft) M) ?_;simp-dsimp[go_sem,hN,doneR,h1]
theorem c_ref15_Free(p:Proc)(args:List V)(st:List Pr)(hI:RunIn qbc p args st):APure Tryz.prog 33 [.agg p.c,.slice (args.map V.c),.slice (st.map Pr.c)] (.agg (runS qbc p args st ⟨true,[],[]⟩).c):=by
 refine qak Tryz.func33 Tryz.ntmps33 rfl (by kernel_rfl) rfl rfl fun E h hN hh hu hb=>?_;simp-dsimp[go_sem,hN];refine qaa (c_ref15_Run p args st ⟨true,[],[]⟩ hI) ?_;simp-dsimp[go_sem,hN]
variable {tT:TypeId} {tx:Nat×Nat} {g:Nat}
end
end Go.Proofs.YtilhejdbiionhaaGreatDoor
