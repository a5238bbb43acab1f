/- Part 33 of a proof. -/
import Derived.Shelf.Spec.SlicesInsertGrow
import Derived.Test.YtbimdamecieomaaGreatDoorR32
set_option linter.all false
set_option maxRecDepth 4000
set_option maxHeartbeats 2000000
namespace Go.Proofs.YtbimdamecieomaaGreatDoor
open Go Go.Abs Go.Cw Tryz
def qzs(q:LQ)(k:g9):Int:=if ju q.key k=true then -1 else if q.key=k then 0 else 1
theorem xn3(q:LQ)(k:g9):APure prog 79 [.agg q.c,S k] (I (qzs q k)):=by
 refine ik func79 ntmps79 rfl ac rfl rfl fun E h hN hh hu hb=>?_;unfold qzs;simp-dsimp[go_sem,hN,LQ.c];refine gy (fun h1=>?_) (fun h1=>?_)
 ·rw[if_pos h1];simp-dsimp[go_sem,hN]
 ·rw[if_neg (by rw[h1];decide)];simp-dsimp[go_sem,hN];refine gy ?_ ?_<;>intro h2<;>simp at h2
  ·rw[if_neg h2.2];simp-dsimp[go_sem,hN]
  ·rw[if_pos (h2 h1)];simp-dsimp[go_sem,hN]
theorem jl5(l:List LQ)(k:g9)(hs:jp (ko l)):APure prog 78 [.slice (l.map LQ.c),S k,.fn (.func 79) [] []] (.tuple [I (jv k (ko l)),Bo (decide ((ko l)[jv k (ko l)]?=some k))]):=by
 refine ik func78 ntmps78 rfl ac rfl rfl fun E h hN hh hu hb=>?_;simp[go_sem]at hb;have hp:=qt4 k (ko l);have hkl:(ko l).length=l.length:=ae;rw[hkl]at hp;simp-dsimp[go_sem,hN];refine xb3 (α:=Nat×Nat) (fun x=>x.1≤jv k (ko l)∧jv k (ko l)≤x.2∧x.2≤l.length) (fun x=>⟨[(0,.slice (l.map LQ.c)),(1,S k),(2,.fn (.func 79) [] []),(8,I l.length),(9,I x.1),(10,I x.2)],h⟩) (fun x=>x.2 - x.1) (0,l.length) ⟨ae,hp,ae⟩ ic ?_;rintro⟨i,j⟩ ⟨h1,h2,h3⟩;simp only at h1 h2 h3;simp-dsimp[go_sem,hN];refine gy ?_ ?_<;>intro hc<;>simp at hc
 ·have hm:IntKind.i64.wrap ((IntKind.u64.wrap (IntKind.i64.wrap ((i:Int)+j))).fdiv 2)=(((i+j) / 2:Nat):Int):=by
   have h0:=hb.1.1;have e0:IntKind.i64.wrap ((i:Int)+j)=(i:Int)+j:=qe6 aa aa;rw[e0];have:IntKind.u64.wrap ((i:Int)+j)=(i:Int)+j:=by
    simp only[IntKind.wrap,IntKind.bits,IntKind.signed];simp;omega
   rw[this];have e1:((i:Int)+j).fdiv 2=(((i+j) / 2:Nat):Int):=by
    rw[Int.fdiv_eq_ediv_of_nonneg _ aa];omega
   rw[e1,qe6 aa aa]
  have ib:(i+j) / 2<l.length:=aa;have ke:=qxt (k:=k) hs ((i+j) / 2) qk7;generalize hq:(i+j) / 2=q at hm ib ke;have hw:IntKind.i64.wrap ((q:Int)+1)=((q+1:Nat):Int):=qjx;have hkq:(ko l)[q]'qk7=l[q].key:=ae;simp-dsimp[go_sem,hN,hm,ib];refine ia (xn3 l[q] k) ?_;simp-dsimp[go_sem,hN];refine gy (fun ox=>?_) (fun ox=>?_)
  ·have wy:ju l[q].key k=true:=by
    have hc3:=of_decide_eq_true ox;unfold qzs at hc3;split at hc3
    ·assumption
    ·split at hc3<;>omega
   simp-dsimp[go_sem,hN,hw];exact⟨q+1,j,⟨by have:=ke.2 (by rw[hkq];exact wy);omega,h2,h3⟩,aa,ic⟩
  ·simp-dsimp[go_sem,hN];refine⟨i,q,⟨h1,?_,aa⟩,aa,ic⟩;rcases d8 q (jv k (ko l))with h5|h5
   ·have:=ke.1 h5;rw[hkq]at this;have hc3:=of_decide_eq_false ox;unfold qzs at hc3;rw[if_pos this]at hc3;omega
   ·exact h5
 ·have hi:i=jv k (ko l):=aa;subst hi;by_cases ib:jv k (ko l)<l.length
  ·have hkq:(ko l)[jv k (ko l)]?=some l[jv k (ko l)].key:=bp;simp-dsimp[go_sem,hN,ib]
   repeat refine⟨ax,?_⟩
   refine ka (xn3 _ _) ae ?_;simp-dsimp[go_sem,hN];have oo:ju l[jv k (ko l)].key k=false:=by
    have:=qxt (k:=k) hs (jv k (ko l)) qk7;have h9:¬ju (ko l)[jv k (ko l)] k=true:=fun h=>absurd (this.2 h) (Nat.lt_irrefl _);simpa using h9
   have hcq:qzs l[jv k (ko l)] k=0↔l[jv k (ko l)].key=k:=by
    unfold qzs;rw[oo,if_neg ae];by_cases h9:l[jv k (ko l)].key=k<;>simp[h9]
   rw[hcq,da ib];simp
  ·have hd:decide (jv k (ko l)<l.length)=false:=qgy;have qoe:(ko l)[jv k (ko l)]?=none:=fa aa;simp-dsimp[go_sem,hN,hd,qoe];refine qdx ?_;simp-dsimp[go_sem,hN];rw[fa aa];simp
end Go.Proofs.YtbimdamecieomaaGreatDoor
set_option maxRecDepth 100000
set_option maxHeartbeats 4000000
namespace Go.Proofs.YtbimdamecieomaaGreatDoor
open Go Go.Abs Go.Proofs Go.Shelf Go.RowKit Go.Lib Tryz
theorem xd3{P:Program}(w:World)(dT sT ty elem:TypeId)(b o dLen dCap:Nat)(a:Addr)(sLen sCap:Nat)(cs:List Value)(k m:Nat)
  (hu:P.underlying dT=some (.slice elem)) (hs:(P.info? elem).map (·.size)=some k) (hm:Nat.min sLen dLen=m) (l9:cs.length=m * k)
  (qut:∀j v,cs[j]?=some v→w.cell? (a.add j)=some v) (hc:∀j,j<cs.length→(w.cell? ⟨b,o+j,none⟩).isSome=true) (hf:∀j,j<cs.length→w.frozen? ⟨b,o+j,none⟩=false) (h1:∀v∈cs,v.oneCell'=true) :
  (Builtin.copy_ #[dT,sT] ty #[.slice (some ⟨b,o,none⟩) dLen dCap,.slice (some a) sLen sCap]).run P w=.ok (goInt m) (w.setCells b o cs):=by
 have hl:=run_loadCells_list (P:=P) w a cs qut;have mj:=run_storeCells_cells (P:=P) b o cs 0 w qf2 (by simpa using hf) h1;cases hq:P.info? elem with
 |none=>simp[hq]at hs
 |some i =>
  have hi:i.size=k:=by simpa[hq]using hs
  simp[Builtin.copy_,run_underlying hu,Builtin.lenOf,Builtin.firstCells,sizeOf,typeInfo,hq,hi,hm,←l9,hl,mj]
theorem xjy:∃i,prog.info? 107=some i∧i.zero=some (.agg #[.string ⟨#[]⟩,.slice none 0 0])∧i.size=2∧i.bytes=40:=info_parts ac
theorem jgt(w:World)(v:Value)(n vb vc:Nat)(cs:List Value)(kv:Array Value)(tA:TypeId)(mi:w.ownsRow 0 107 2 v n cs)(hn:n+1≤68719476736)
  (hk:w.heap[vb]?=some (.cells kv tA (0,0))) (hks:kv.size=2) (hk1:∀u∈kv.toList,u.oneCell'=true) :
  Calls prog 80 #[v,.int .i64 n,.slice (some ⟨vb,0,none⟩) 1 vc] w fun e' w'=>∃v',e'=.returned v'∧InsPostK w w' v v' 107 2 (n+1) (cs++kv.toList):=by
 obtain⟨i,hi,hz,pi,hzb⟩:=xjy;obtain⟨v',w',jx,ho,qn7,hos,ht,hou,jq,tz⟩:=xga (P:=prog) (w:=w) 54 54 107 i _ underlying54 hi hz (by rw[pi];rfl) aa v n cs (by rw[pi];exact mi) ⟨vb,0,none⟩ 1 vc kv.toList (by simp[hks,pi])
  (fun j u hu=>by rw[xk,cell_of_row _ _ _ _ _ _ hk,db];simpa using hu) hk1 aa qf9 (by rw[hzb];omega)
 have zj:InsPostK w w' v v' 107 2 (n+1) (cs++kv.toList):=⟨ho,by rw[pi]at qn7;exact qn7,hos,ht,hou,jq,tz⟩
 have hrun':∀ty,(Builtin.append_ #[54,54] ty #[v,.slice (some ⟨vb,0,none⟩) 1 vc]).run prog w=.ok v' w':=fun ty=>jx;rcases mi.2 with⟨hv,hn0⟩|⟨g,cap,cur,hv,_,hg,nz,pz,ma,u5⟩
 ·subst hv;subst hn0
  go_enter func80,ntmps80
  go_wp2_with (at_builtin;refine Lib.wpList_append_run _ rfl _ _ _ _ rfl _ _ rfl rfl _ _ (hrun' _) ?_)
  go_ret
  exact⟨_,rfl,zj⟩
 ·subst hv;by_cases hcn:cap=n
  ·subst hcn
   go_enter func80,ntmps80
   go_wp2_with (at_builtin;refine Lib.wpList_append_run _ rfl _ _ _ _ rfl _ _ rfl rfl _ _ (hrun' _) ?_)
   all_goals (go_ret;exact⟨_,rfl,zj⟩)
  ·skip
   go_enter func80,ntmps80
   go_wp2_with (at_builtin;refine Lib.wpList_append_run _ rfl _ _ _ _ rfl _ _ rfl rfl _ _ (hrun' _) ?_)
   all_goals (go_ret;exact⟨_,rfl,zj⟩)
abbrev zQ:Array Value:=#[.string ⟨#[]⟩,.slice none 0 0]
theorem xv4(n:Nat):(Builtin.zeroCells zQ n).size=n * 2:=by simp[Builtin.zeroCells]
theorem jhl(b n c i vb m vc:Nat)(cs vs:List Value)(w:World)(hi:i<n)(hm:0<m)(hm2:m≤4)(nz:n≤c)(xn:c<n+m)(hbig:n+m≤68719476736)
  (l9:cs.length=n * 2) (hvl:vs.length=m * 2)
  (ma:∀j v,cs[j]?=some v→w.cell? ⟨b,j,none⟩=some v)
  (uh:∀j v,vs[j]?=some v→w.cell? ⟨vb,j,none⟩=some v) (h1c:∀v∈cs,v.oneCell'=true) (h1v:∀v∈vs,v.oneCell'=true) :
  Calls prog 80 #[.slice (some ⟨b,0,none⟩) n c,.int .i64 i,.slice (some ⟨vb,0,none⟩) m vc] w fun e w' =>
   e=.returned (.slice (some ⟨w.heap.size,0,none⟩) (n+m) (grownCap w (n+m) c 107)) ∧
   w'=(((w.alloc (.cells ((cs.take (i * 2)).toArray++Builtin.zeroCells zQ (n+m - i)++Builtin.zeroCells zQ (grownCap w (n+m) c 107 - (n+m))) 107)).drew.setCells w.heap.size (i * 2) vs).drew).setCells w.heap.size ((i+m) * 2) (cs.drop (i * 2)):=by
 have mixed:prog.follows .mixedOrders=true:=ac;obtain⟨i0,hi0,hz0,pi,hzb⟩:=xjy;have tf:¬((m:Int)=0):=aa;have hz2:¬((i:Int)=(n:Int)):=aa;have hz3:(c:Int)<(n:Int)+(m:Int):=aa;have jq:(prog.info? 107).map (·.size)=some 2:=by rw[hi0];simp[pi]
 have hbw:b<w.heap.size:=block_lt_of_cell (ma 0 _ (da aa));have hvw:vb<w.heap.size:=block_lt_of_cell (uh 0 _ (da aa));have hkk:(n:Int)+(m:Int) - (i:Int)=((n+m - i:Nat):Int):=aa;have hik:i+(n+m - i)=n+m:=aa;have zc:(Builtin.firstCells i0.size i (.slice (some ⟨b,0,none⟩) i c)).run prog w.drew=.ok (cs.take (i * 2)).toArray w.drew:=by
  rw[pi];exact run_firstCells_some w.drew 2 i ⟨b,0,none⟩ i c (cs.take (i * 2)) qfn (fun j v hj=>by
   rw[Addr.add_lit,db];rw[dx]at hj;split at hj
   ·exact ma j v hj
   ·cases hj)
 have hrz:∀ty,(Builtin.append_ #[54,3] ty #[.slice (some ⟨b,0,none⟩) i c,.int .i64 ((n:Int)+(m:Int) - (i:Int))]).run prog w =
   .ok (.slice (some ⟨w.heap.size,0,none⟩) (n+m) (grownCap w (n+m) c 107)) (w.drew.alloc (.cells ((cs.take (i * 2)).toArray++Builtin.zeroCells zQ (n+m - i)++Builtin.zeroCells zQ (grownCap w (n+m) c 107 - (n+m))) 107)):=fun ty=>by
  have h:=Lib.run_append_grow_zeros w 54 3 ty 107 i0 _ .i64 .i64 underlying54 underlying3 hi0 hz0 (some ⟨b,0,none⟩) i c (cs.take (i * 2)) zc (n+m - i) aa aa aa aa (by rw[hzb];omega) (by rw[hzb,hik];exact growslice_fits xn aa);rw[hik]at h;rw[hkk];exact h
 obtain⟨G,hG⟩:∃G,G=grownCap w (n+m) c 107:=⟨_,rfl⟩
 obtain⟨ROW,qyc⟩:∃ROW:Array Value,ROW=(cs.take (i * 2)).toArray++Builtin.zeroCells zQ (n+m - i)++Builtin.zeroCells zQ (G - (n+m)):=⟨_,rfl⟩
 rw[←hG]at hrz⊢;rw[←qyc]at hrz⊢;have hRl:(n+m) * 2≤ROW.size:=by
  rw[qyc];simp only[Array.size_append,qlj,du,xv4];omega
 obtain⟨W1,hW1⟩:∃W1,W1=w.drew.alloc (.cells ROW 107):=⟨_,rfl⟩
 rw[←hW1]at hrz;have hN:∀j,j<(n+m) * 2→(W1.cell? ⟨w.heap.size,j,none⟩).isSome=true:=fun j hj=>by
  rw[hW1,World.cell?_alloc_at (w:=w.drew) ROW _ w.heap.size j rfl,fm aa];rfl
 have hNf:∀j,W1.frozen? ⟨w.heap.size,j,none⟩=false:=fun j=>by rw[hW1];exact World.frozen?_alloc_at (w:=w.drew) ROW _ w.heap.size j rfl
 have hOb:∀j v,w.cell? ⟨b,j,none⟩=some v→W1.cell? ⟨b,j,none⟩=some v:=fun j v h=>by rw[hW1,World.cell?_alloc_past (w:=w.drew) _ b j hbw];exact h
 have hOv:∀j v,w.cell? ⟨vb,j,none⟩=some v→W1.cell? ⟨vb,j,none⟩=some v:=fun j v h=>by rw[hW1,World.cell?_alloc_past (w:=w.drew) _ vb j hvw];exact h
 have hcpA:∀(W:World),(∀x,W.cell? x=W1.cell? x)→(∀x,W.frozen? x=W1.frozen? x)→∀ty dc,(Builtin.copy_ #[54,54] ty #[.slice (some ⟨w.heap.size,i * 2,none⟩) (n+m - i) dc,.slice (some ⟨vb,0,none⟩) m vc]).run prog W=.ok (goInt m) (W.setCells w.heap.size (i * 2) vs):=fun W hWc hWf ty dc =>
  xd3 W _ _ ty 107 w.heap.size (i * 2) (n+m - i) dc ⟨vb,0,none⟩ m vc vs 2 m underlying54 jq qgj hvl
   (fun j v hj=>by rw[Addr.add_lit,db,hWc];exact hOv _ v (uh j v hj))
   (fun j hj=>by rw[hWc];exact hN _ aa) (fun j hj=>by rw[hWf];exact hNf _) h1v
 have hGn:n+m≤G:=by rw[hG];exact grownCap_ge w _ _ _
 have hG63:G≤9223372036854775807:=by
  have:=grownCap_le_maxLen w (n+m) c 107 qky;rw[←hG]at this;unfold maxLen at this;omega
 have hGi:¬(G=i):=aa;have hGim:¬(G=i+m):=aa;have hci:¬(c=i):=aa;have hbN:b≠w.heap.size:=aa;have hdl:(cs.drop (i * 2)).length=(n - i) * 2:=by rw[gd,l9];omega
 have hcpB:∀(W:World),(∀x,W.cell? x=(W1.setCells w.heap.size (i * 2) vs).cell? x)→(∀x,W.frozen? x=(W1.setCells w.heap.size (i * 2) vs).frozen? x)→∀ty dc sc,(Builtin.copy_ #[54,54] ty #[.slice (some ⟨w.heap.size,(i+m) * 2,none⟩) (n+m - (i+m)) dc,.slice (some ⟨b,i * 2,none⟩) (n - i) sc]).run prog W=.ok (goInt (n - i:Nat)) (W.setCells w.heap.size ((i+m) * 2) (cs.drop (i * 2))):=fun W hWc hWf ty dc sc =>
  xd3 W _ _ ty 107 w.heap.size ((i+m) * 2) (n+m - (i+m)) dc ⟨b,i * 2,none⟩ (n - i) sc (cs.drop (i * 2)) 2 (n - i) underlying54 jq qgj hdl
   (fun j v hj=>by
    rw[Addr.add_lit,hWc,World.cell?_setCells_out _ _ _ _ _ (fun h _=>absurd h hbN)];exact hOb _ v (ma (i * 2+j) v (by rwa [ez]at hj)))
   (fun j hj=>by rw[hWc];exact isSome_setCells _ _ _ _ (fun t ht=>hN _ aa) _ (hN _ aa))
   (fun j hj=>by rw[hWf,World.frozen?_setCells];exact hNf _) (fun v hv=>h1c v (qla hv))
 subst hW1;have hE1:∀x,((w.alloc (.cells ROW 107)).drew).cell? x=(w.drew.alloc (.cells ROW 107)).cell? x:=fun x=>rfl;have lu:∀x,((w.alloc (.cells ROW 107)).drew).frozen? x=(w.drew.alloc (.cells ROW 107)).frozen? x:=fun x=>rfl;have w6:∀x,(((w.alloc (.cells ROW 107)).drew.setCells w.heap.size (i * 2) vs).drew).cell? x=((w.drew.alloc (.cells ROW 107)).setCells w.heap.size (i * 2) vs).cell? x:=fun x=>rfl;have tj:∀x,(((w.alloc (.cells ROW 107)).drew.setCells w.heap.size (i * 2) vs).drew).frozen? x=((w.drew.alloc (.cells ROW 107)).setCells w.heap.size (i * 2) vs).frozen? x:=fun x=>rfl;have qn:IntKind.i64.wrap ((i:Int)+(m:Int))=(i:Int)+(m:Int):=by rw[IntKind.wrap_i64];omega
 have jw:(0:Int)≤(i:Int)+(m:Int):=aa;have hin:i≤n:=aa;have htn:((i:Int)+(m:Int)).toNat=i+m:=aa;have hb3:(i:Int)≤(n:Int):=aa;clear hkk hik zc qyc hG hRl
 go_enter func80,ntmps80
 go_wp2_with (first
  |(at_builtin;refine Lib.wpList_append_run _ rfl _ _ _ _ rfl _ _ rfl rfl _ _ (hrz _) ?_)
  |(at_builtin;refine wpList_copy_runI _ rfl _ _ 54 54 rfl _ _ rfl rfl (hcpA _ hE1 lu _ _) ?_)
  |(at_builtin;refine wpList_copy_runI _ rfl _ _ 54 54 rfl _ _ rfl rfl (hcpB _ (fun _=>rfl) (fun _=>rfl) _ _ _) ?_))
 go_region_law_o (refine step_copy_runI rfl _ _ 54 54 rfl (.slice (some ⟨w.heap.size,(i+m) * 2,none⟩) (n+m - (i+m)) (G - (i+m))) (.slice (some ⟨b,i * 2,none⟩) (n - i) (c - i)) qif qif (hcpB _ w6 tj 3 (G - (i+m)) (c - i)) ?_)
 go_wp2
 go_ret
 exact⟨rfl,rfl⟩
theorem jnl(b n c i vb m vc:Nat)(cs vs:List Value)(w:World)(hi:i<n)(hm:0<m)(hm2:m≤4)(xn:n+m≤c)(hc63:c≤9223372036854775807)(hvb:vb≠b)
  (l9:cs.length=n * 2) (hvl:vs.length=m * 2)
  (ma:∀j v,cs[j]?=some v→w.cell? ⟨b,j,none⟩=some v) (hsp:∀j,j<(n+m) * 2→(w.cell? ⟨b,j,none⟩).isSome=true) (hfz:∀j,j<(n+m) * 2→w.frozen? ⟨b,j,none⟩=false)
  (uh:∀j v,vs[j]?=some v→w.cell? ⟨vb,j,none⟩=some v) (h1c:∀v∈cs,v.oneCell'=true) (h1v:∀v∈vs,v.oneCell'=true)
  (tA tB:TypeId) (kA kB:Nat) (hsa:w.shape? vb=some (tA,kA)) (hsb:w.shape? b=some (tB,kB)) (hkB:kB≠0) (hfa:w.frozen? ⟨vb,0,none⟩=false) (hfe:w.frozen? ⟨vb,kA,none⟩=false) :
  Calls prog 80 #[.slice (some ⟨b,0,none⟩) n c,.int .i64 i,.slice (some ⟨vb,0,none⟩) m vc] w fun e w' =>
   e=.returned (.slice (some ⟨b,0,none⟩) (n+m) c)∧w'=(w.drew.setCells b ((i+m) * 2) (cs.drop (i * 2))).setCells b (i * 2) vs:=by
 have mixed:prog.follows .mixedOrders=true:=ac;obtain⟨i0,hi0,hz0,pi,hzb⟩:=xjy;have tf:¬((m:Int)=0):=aa;have hz2:¬((i:Int)=(n:Int)):=aa;have jq:(prog.info? 107).map (·.size)=some 2:=by rw[hi0];simp[pi]
 have hzQ:∀w,(Go.sizeOf 107).run prog w=.ok 2 w:=fun w=>by simp[Go.sizeOf,typeInfo,hi0,pi]
 have hov:∀lb cb,(callFunc 129 #[.slice (some ⟨vb,0,none⟩) m vc,.slice (some ⟨b,(i+m) * 2,none⟩) lb cb]).run prog w=.ok (.value (.bool false)) w:=fun lb cb=>by
  rw[run_callFunc_extern func129 ac ac ac (e:=Extern.SlicesOverlaps.overlaps #[54,54] #[4]) ac,
   Lib.run_overlaps_apart w 54 4 107 underlying54 2 hzQ ⟨vb,0,none⟩ ⟨b,(i+m) * 2,none⟩ m vc lb cb hvb tA tB kA kB hsa hsb hkB hfa hfe]
  rfl
 have hdl:(cs.drop (i * 2)).length=(n - i) * 2:=by rw[gd,l9];omega
 have qn:IntKind.i64.wrap ((i:Int)+(m:Int))=(i:Int)+(m:Int):=by rw[IntKind.wrap_i64];omega
 have jw:(0:Int)≤(i:Int)+(m:Int):=aa;have hin:i≤n:=aa;have htn:((i:Int)+(m:Int)).toNat=i+m:=aa;have li:¬(c=i+m):=aa;have hb3:(i:Int)≤(n:Int)+(m:Int):=aa;have hb4:¬(c=i):=aa;have hcp1:∀ty dc sc,(Builtin.copy_ #[54,54] ty #[.slice (some ⟨b,(i+m) * 2,none⟩) (n+m - (i+m)) dc,.slice (some ⟨b,i * 2,none⟩) (n+m - i) sc]).run prog w.drew=.ok (goInt (n - i:Nat)) (w.drew.setCells b ((i+m) * 2) (cs.drop (i * 2))):=fun ty dc sc =>
  xd3 w.drew _ _ ty 107 b ((i+m) * 2) (n+m - (i+m)) dc ⟨b,i * 2,none⟩ (n+m - i) sc (cs.drop (i * 2)) 2 (n - i) underlying54 jq qgj hdl
   (fun j v hj=>by rw[Addr.add_lit];exact ma (i * 2+j) v (by rwa [ez]at hj))
   (fun j hj=>hsp _ aa) (fun j hj=>hfz _ aa) (fun v hv=>h1c v (qla hv))
 obtain⟨W1,hW1⟩:∃W1,W1=w.drew.setCells b ((i+m) * 2) (cs.drop (i * 2)):=⟨_,rfl⟩
 have hsp1:∀k,k<(n+m) * 2→(W1.cell? ⟨b,k,none⟩).isSome=true:=fun k hk=>by
  rw[hW1];exact isSome_setCells b (cs.drop (i * 2)) ((i+m) * 2) w.drew (fun j hj=>hsp _ (by rw[hdl]at hj;omega)) k (hsp k hk)
 have hcp2:∀(W:World),(∀x,W.cell? x=W1.cell? x)→(∀x,W.frozen? x=W1.frozen? x)→∀ty dc,(Builtin.copy_ #[54,54] ty #[.slice (some ⟨b,i * 2,none⟩) (n+m - i) dc,.slice (some ⟨vb,0,none⟩) m vc]).run prog W=.ok (goInt m) (W.setCells b (i * 2) vs):=fun W hWc hWf ty dc =>
  xd3 W _ _ ty 107 b (i * 2) (n+m - i) dc ⟨vb,0,none⟩ m vc vs 2 m underlying54 jq qgj hvl
   (fun j v hj=>by
    rw[Addr.add_lit,db,hWc,hW1,World.cell?_setCells_out b _ _ _ _ (fun h _=>absurd h hvb)];exact uh j v hj)
   (fun j hj=>by rw[hWc];exact hsp1 _ aa) (fun j hj=>by rw[hWf,hW1,World.frozen?_setCells];exact hfz _ aa) h1v
 rw[←hW1]at hcp1
 go_enter func80,ntmps80
 go_wp2_with (simp only[hov])
 go_region_law_o (refine step_copy_runI rfl _ _ 54 54 rfl _ _ qif qif (hcp1 _ _ _) ?_)
 go_wp2_with (at_builtin;refine wpList_copy_runI _ rfl _ _ 54 54 rfl _ _ rfl rfl (hcp2 _ (fun _=>rfl) (fun _=>rfl) _ _) ?_)
 go_ret
 first|exact⟨rfl,rfl⟩|exact⟨rfl,by rw[hW1]⟩
theorem jaq:xtb prog 80 107 2:=by
 intro w v n pos vb vc cs kv tA mi m7 hat hn hk hks qvp ii;have vp:cs.length=n * 2:=mi.1;have hkl:kv.toList.length=2:=by simpa using hks
 have uh:∀j u,kv.toList[j]?=some u→w.cell? ⟨vb,j,none⟩=some u:=fun j u hu=>by
  rw[cell_of_row _ _ _ _ _ _ hk];simpa using hu
 rcases d8 pos n with ib|hge'
 ·rcases mi.2 with⟨rfl,h0⟩|⟨g,cap,cur,rfl,_,hg,nz,qxi,ma,u5⟩
  ·omega
  ·have hcc:cap≤9223372036854775807:=by simp only[maxLen]at qxi;omega
   have hvb:vb≠g:=ii g rfl;have mw:∀j u,cs[j]?=some u→w.cell? ⟨g,j,none⟩=some u:=fun j u hu=>by
    have:=mi.cells (g:=g) rfl j u hu
    rwa [xk,db]at this
   have xea:∀j,j<cap * 2→(w.cell? ⟨g,j,none⟩).isSome=true:=fun j hj=>by
    rw[cell_of_row _ _ _ _ _ _ hg,fm aa];rfl
   have hfz:∀j,w.frozen? ⟨g,j,none⟩=false:=fun j=>by simp[World.frozen?,hg]
   have xgh:∀j,j<n * 2→cur[j]?=cs[j]?:=fun j hj=>by
    rw[←u5,dx,if_pos aa,fc]
   have u9:pos * 2≤n * 2:=aa;have htl:(cs.take (pos * 2)).length=pos * 2:=qfn;have hfinal:∀c2:Array Value,(∀j,j<(n+1) * 2→c2[j]?=if j<pos * 2 then cs[j]? else if j<pos * 2+2 then kv.toList[j - pos * 2]? else cs[j - 2]?)→(n+1) * 2≤c2.size→c2.toList.take ((n+1) * 2)=cs.take (pos * 2)++kv.toList++cs.drop (pos * 2):=fun c2 h jq=>by
    apply fy;intro j;rw[dx,fc];by_cases hj:j<(n+1) * 2
    ·rw[if_pos hj,h j hj];by_cases h1:j<pos * 2
     ·rw[if_pos h1,dr,cu aa,dx,if_pos h1]
     ·rw[if_neg h1];by_cases h2:j<pos * 2+2
      ·rw[if_pos h2,dr,cy aa,htl,cu aa]
      ·rw[if_neg h2,cy (by rw[cz,htl,hkl];omega),ez,cz,htl,hkl];congr 1;omega
    ·rw[if_neg hj,fa bw]
   rcases d8 cap (n+1)with xn|xn
   ·
    refine(jhl g n cap pos vb 1 vc cs kv.toList w ib aa aa nz xn aa vp aa mw uh m7 qvp).mono ?_;rintro e w' ⟨rfl,rfl⟩;have hg1:=grownCap_ge w (n+1) cap 107;have hgm:=grownCap_le_maxLen w (n+1) cap 107 qf9;generalize grownCap w (n+1) cap 107=G at hg1 hgm⊢;obtain⟨ROW,qyc⟩:∃ROW:Array Value,(cs.take (pos * 2)).toArray++Builtin.zeroCells zQ (n+1 - pos)++Builtin.zeroCells zQ (G - (n+1))=ROW:=⟨_,rfl⟩
    rw[qyc];have hRs:ROW.size=G * 2:=by rw[←qyc];simp only[Array.size_append,qlj,htl,xv4];omega
    have hRj:∀j,j<pos * 2→ROW[j]?=cs[j]?:=fun j hj=>by
     rw[←qyc,qlr (by simp only[Array.size_append,qlj,htl];omega),qlr (by simp only[qlj,htl];omega)];simp only[List.getElem?_toArray,dx,hj,if_true]
    have h0:(w.alloc (.cells ROW 107)).drew.heap[w.heap.size]?=some (.cells ROW 107 (0,0)):=heap_alloc_new _ _;obtain⟨c1,a1,a2,a3,a4,a5,a6,a7,a8⟩:=qce kv.toList (pos * 2) _ _ h0 (by rw[hRs,hkl];omega);obtain⟨c2,b1,b2,b3,b4,b5,b6,b7,b8⟩:=qce (cs.drop (pos * 2)) ((pos+1) * 2) ((w.alloc (.cells ROW 107)).drew.setCells w.heap.size (pos * 2) kv.toList).drew c1 a1 (by rw[gd,a2,hRs];omega);refine⟨_,rfl,rfl,⟨qhx,.inr ⟨w.heap.size,G,c2,rfl,di _,b1,hg1,hgm,by rw[b2,a2,hRs],hfinal c2 (fun j hj=>?_) (by rw[b2,a2,hRs];omega)⟩⟩,b5.trans a5,b6.trans a6,b7.trans a7,?_,.inr ⟨rfl,fun k kb=>?_⟩⟩
    ·rw[b3 j,a3 j,gd,vp,hkl];by_cases h1:j<pos * 2
     ·rw[if_pos h1,if_neg aa,if_neg aa];exact hRj j h1
     ·rw[if_neg h1];by_cases h2:j<pos * 2+2
      ·rw[if_pos h2,if_neg aa,if_pos aa]
      ·rw[if_neg h2,if_pos aa,ez];congr 1;omega
    ·rw[b4];show w.heap.size≤((w.alloc (.cells ROW 107)).drew.setCells w.heap.size (pos * 2) kv.toList).heap.size;rw[a4];show w.heap.size≤(w.alloc (.cells ROW 107)).heap.size;simp
    ·rw[b8 k aa];show((w.alloc (.cells ROW 107)).drew.setCells w.heap.size (pos * 2) kv.toList).heap[k]?=_;rw[a8 k aa];exact Go.heap_alloc_old _ _ kb
   ·
    refine(jnl g n cap pos vb 1 vc cs kv.toList w ib aa aa xn hcc hvb vp aa mw (fun j hj=>xea j aa) (fun j _=>hfz j) uh m7 qvp tA 107 2 (cap * 2) (by simp[World.shape?,hk,hks]) (by simp[World.shape?,hg,ma]) aa qie qie).mono ?_;rintro e w' ⟨rfl,rfl⟩;obtain⟨c1,a1,a2,a3,a4,a5,a6,a7,a8⟩:=qce (cs.drop (pos * 2)) ((pos+1) * 2) w.drew cur hg (by rw[gd,ma];omega);obtain⟨c2,b1,b2,b3,b4,b5,b6,b7,b8⟩:=qce kv.toList (pos * 2) _ c1 a1 (by rw[a2,hkl,ma];omega);refine⟨_,rfl,rfl,⟨qhx,.inr ⟨g,cap,c2,rfl,di _,b1,xn,qxi,by rw[b2,a2,ma],hfinal c2 (fun j hj=>?_) (by rw[b2,a2,ma];omega)⟩⟩,b5.trans a5,b6.trans a6,b7.trans a7,by rw[b4,a4];exact ct _,.inl ⟨g,rfl,rfl,fun k kb=>(b8 k kb).trans (a8 k kb)⟩⟩;rw[b3 j,a3 j,gd,vp,hkl];by_cases h1:j<pos * 2
    ·rw[if_pos h1,if_neg aa,if_neg aa];exact xgh j aa
    ·rw[if_neg h1];by_cases h2:j<pos * 2+2
     ·rw[if_pos h2,if_pos aa]
     ·rw[if_neg h2,if_neg aa,if_pos aa,ez];congr 1;omega
 ·have hpn:pos=n:=aa;subst hpn;have h9:=jgt w v pos vb vc cs kv tA mi hn hk hks qvp;have e1:cs.take (pos * 2)=cs:=fo aa;have e2:cs.drop (pos * 2)=[]:=cv aa;rw[e1,e2,e8];exact h9
end Go.Proofs.YtbimdamecieomaaGreatDoor
