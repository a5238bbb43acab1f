/- Part 33 of a proof: W90 -/
import Derived.Shelf.Spec.SlicesInsertGrow
import Derived.Test.YtbimdamecieomaaGreatDoorQ17
import Derived.Test.YtbimdamecieomaaGreatDoorQ31
set_option linter.all false

set_option maxRecDepth 100000
set_option maxHeartbeats 4000000
namespace Go.Proofs.YtbimdamecieomaaGreatDoor
open Go Go.Abs Go.Proofs Go.Shelf Go.RowKit Go.Lib
theorem run_copyK {P:Program} (w:World) (dT sT ty elem:TypeId) (b o dLen dCap:Nat) (a:Addr) (sLen sCap:Nat) (cs:List Value) (k m:Nat)
  (hu:P.underlying dT=some (.slice elem)) (hs:(P.info? elem).map (·.size)=some k) (hm:Nat.min sLen dLen=m) (hcl:cs.length=m * k)
  (hsrc:∀ j v,cs[j]?=some v→w.cell? (a.add j)=some v) (hc:∀ j,j<cs.length→(w.cell? ⟨b,o+j,none⟩).isSome=true) (hf:∀ j,j<cs.length→w.frozen? ⟨b,o+j,none⟩=false) (h1:∀ v∈cs,v.oneCell'=true) :
  (Builtin.copy_ #[dT,sT] ty #[.slice (some ⟨b,o,none⟩) dLen dCap,.slice (some a) sLen sCap]).run P w=.ok (goInt m) (w.setCells b o cs):=by
 have hl:=run_loadCells_list (P:=P) w a cs hsrc;have hst:=run_storeCells_cells (P:=P) b o cs 0 w (by simpa using hc) (by simpa using hf) h1;cases hq:P.info? elem with
 | none=>simp [hq] at hs
 | some i =>
  have hi:i.size=k:=by simpa [hq] using hs
  simp [Builtin.copy_,run_underlying hu,Builtin.lenOf,Builtin.firstCells,sizeOf,typeInfo,hq,hi,hm,← hcl,hl,hst]
theorem infoQ:∃ i,Tryz.prog.info? 107=some i∧i.zero=some (.agg #[.string ⟨#[]⟩,.slice none 0 0])∧i.size=2∧i.bytes=40:=info_parts (by kernel_rfl)
theorem ins_end (w:World) (v:Value) (n vb vc:Nat) (cs:List Value) (kv:Array Value) (tA:TypeId) (hown:w.ownsRow 0 107 2 v n cs) (hn:n+1≤68719476736)
  (hk:w.heap[vb]?=some (.cells kv tA (0,0))) (hks:kv.size=2) (hk1:∀ u∈kv.toList,u.oneCell'=true) :
  Calls Tryz.prog 80 #[v,.int .i64 n,.slice (some ⟨vb,0,none⟩) 1 vc] w fun e' w'=>∃ v',e'=.returned v'∧InsPostK w w' v v' 107 2 (n+1) (cs++kv.toList):=by
 obtain ⟨i,hi,hz,hzs,hzb⟩:=infoQ;obtain ⟨v',w',hrun,ho,hown',hos,ht,hou,hsz,htwo⟩:=append_two (P:=Tryz.prog) (w:=w) 54 54 107 i _ Tryz.underlying54 hi hz (by rw [hzs];rfl) (by omega) v n cs (by rw [hzs];exact hown) ⟨vb,0,none⟩ 1 vc kv.toList (by simp [hks,hzs])
  (fun j u hu=>by rw [qca,cell_of_row _ _ _ _ _ _ hk,Nat.zero_add];simpa using hu) hk1 (by omega) (by simp only [maxLen];omega) (by rw [hzb];omega)
 have hpost:InsPostK w w' v v' 107 2 (n+1) (cs++kv.toList):=⟨ho,by rw [hzs] at hown';exact hown',hos,ht,hou,hsz,htwo⟩
 have hrun':∀ ty,(Builtin.append_ #[54,54] ty #[v,.slice (some ⟨vb,0,none⟩) 1 vc]).run Tryz.prog w=.ok v' w':=fun ty=>hrun;rcases hown.2 with ⟨hv,hn0⟩ | ⟨g,cap,cur,hv,_,hg,hnc,hcm,hcs,htake⟩
 ·
  subst hv;subst hn0
  go_enter Tryz.func80,Tryz.ntmps80
  go_wp2_with (at_builtin;refine Lib.wpList_append_run _ rfl _ _ _ _ rfl _ _ rfl rfl _ _ (hrun' _) ?_)
  go_ret
  exact ⟨_,rfl,hpost⟩
 ·
  subst hv;by_cases hcn:cap=n
  ·
   subst hcn
   go_enter Tryz.func80,Tryz.ntmps80
   go_wp2_with (at_builtin;refine Lib.wpList_append_run _ rfl _ _ _ _ rfl _ _ rfl rfl _ _ (hrun' _) ?_)
   all_goals (go_ret;exact ⟨_,rfl,hpost⟩)
  ·
   skip
   go_enter Tryz.func80,Tryz.ntmps80
   go_wp2_with (at_builtin;refine Lib.wpList_append_run _ rfl _ _ _ _ rfl _ _ rfl rfl _ _ (hrun' _) ?_)
   all_goals (go_ret;exact ⟨_,rfl,hpost⟩)
abbrev zQ:Array Value:=#[.string ⟨#[]⟩,.slice none 0 0]
theorem zc_size (n:Nat):(Builtin.zeroCells zQ n).size=n * 2:=by simp [Builtin.zeroCells]
theorem ins_grow (b n c i vb m vc:Nat) (cs vs:List Value) (w:World) (hi:i<n) (hm:0<m) (hm2:m≤4) (hnc:n≤c) (hroom:c<n+m) (hbig:n+m≤68719476736)
  (hcl:cs.length=n * 2) (hvl:vs.length=m * 2)
  (hcs:∀ j v,cs[j]?=some v→w.cell? ⟨b,j,none⟩=some v)
  (hvs:∀ j v,vs[j]?=some v→w.cell? ⟨vb,j,none⟩=some v) (h1c:∀ v∈cs,v.oneCell'=true) (h1v:∀ v∈vs,v.oneCell'=true) :
  Calls Tryz.prog 80 #[.slice (some ⟨b,0,none⟩) n c,.int .i64 i,.slice (some ⟨vb,0,none⟩) m vc] w fun e w' =>
   e=.returned (.slice (some ⟨w.heap.size,0,none⟩) (n+m) (grownCap w (n+m) c 107)) ∧
   w'=(((w.alloc (.cells ((cs.take (i * 2)).toArray++Builtin.zeroCells zQ (n+m - i)++Builtin.zeroCells zQ (grownCap w (n+m) c 107 - (n+m))) 107)).drew.setCells w.heap.size (i * 2) vs).drew).setCells w.heap.size ((i+m) * 2) (cs.drop (i * 2)):=by
 have mixed:Tryz.prog.follows .mixedOrders=true:=by kernel_rfl
 obtain ⟨i0,hi0,hz0,hzs,hzb⟩:=infoQ;have hz1:¬ ((m:Int)=0):=by omega
 have hz2:¬ ((i:Int)=(n:Int)):=by omega
 have hz3:(c:Int)<(n:Int)+(m:Int):=by omega
 have hsz:(Tryz.prog.info? 107).map (·.size)=some 2:=by rw [hi0];simp [hzs]
 have hbw:b<w.heap.size:=block_lt_of_cell (hcs 0 _ (List.getElem?_eq_getElem (by omega)));have hvw:vb<w.heap.size:=block_lt_of_cell (hvs 0 _ (List.getElem?_eq_getElem (by omega)));have hkk:(n:Int)+(m:Int) - (i:Int)=((n+m - i:Nat):Int):=by omega
 have hik:i+(n+m - i)=n+m:=by omega
 have hold:(Builtin.firstCells i0.size i (.slice (some ⟨b,0,none⟩) i c)).run Tryz.prog w.drew=.ok (cs.take (i * 2)).toArray w.drew:=by
  rw [hzs];exact run_firstCells_some w.drew 2 i ⟨b,0,none⟩ i c (cs.take (i * 2)) (by rw [List.length_take];omega) (fun j v hj=>by
   rw [Addr.add_lit,Nat.zero_add];rw [List.getElem?_take] at hj;split at hj
   · exact hcs j v hj
   · cases hj)
 have hrz:∀ ty,(Builtin.append_ #[54,3] ty #[.slice (some ⟨b,0,none⟩) i c,.int .i64 ((n:Int)+(m:Int) - (i:Int))]).run Tryz.prog w =
   .ok (.slice (some ⟨w.heap.size,0,none⟩) (n+m) (grownCap w (n+m) c 107)) (w.drew.alloc (.cells ((cs.take (i * 2)).toArray++Builtin.zeroCells zQ (n+m - i)++Builtin.zeroCells zQ (grownCap w (n+m) c 107 - (n+m))) 107)):=fun ty=>by
  have h:=Lib.run_append_grow_zeros w 54 3 ty 107 i0 _ .i64 .i64 Tryz.underlying54 Tryz.underlying3 hi0 hz0 (some ⟨b,0,none⟩) i c (cs.take (i * 2)) hold (n+m - i) (by omega) (by omega) (by omega) (by omega) (by rw [hzb];omega) (by rw [hzb,hik];exact growslice_fits hroom (by omega));rw [hik] at h;rw [hkk];exact h
 obtain ⟨G,hG⟩:∃ G,G=grownCap w (n+m) c 107:=⟨_,rfl⟩
 obtain ⟨ROW,hROW⟩:∃ ROW:Array Value,ROW=(cs.take (i * 2)).toArray++Builtin.zeroCells zQ (n+m - i)++Builtin.zeroCells zQ (G - (n+m)):=⟨_,rfl⟩
 rw [← hG] at hrz ⊢;rw [← hROW] at hrz ⊢;have hRl:(n+m) * 2≤ROW.size:=by
  rw [hROW];simp only [Array.size_append,List.size_toArray,List.length_take,zc_size];omega
 obtain ⟨W1,hW1⟩:∃ W1,W1=w.drew.alloc (.cells ROW 107):=⟨_,rfl⟩
 rw [← hW1] at hrz;have hN:∀ j,j<(n+m) * 2→(W1.cell? ⟨w.heap.size,j,none⟩).isSome=true:=fun j hj=>by
  rw [hW1,World.cell?_alloc_at (w:=w.drew) ROW _ w.heap.size j rfl,Array.getElem?_eq_getElem (by omega)];rfl
 have hNf:∀ j,W1.frozen? ⟨w.heap.size,j,none⟩=false:=fun j=>by rw [hW1];exact World.frozen?_alloc_at (w:=w.drew) ROW _ w.heap.size j rfl
 have hOb:∀ j v,w.cell? ⟨b,j,none⟩=some v→W1.cell? ⟨b,j,none⟩=some v:=fun j v h=>by rw [hW1,World.cell?_alloc_past (w:=w.drew) _ b j hbw];exact h
 have hOv:∀ j v,w.cell? ⟨vb,j,none⟩=some v→W1.cell? ⟨vb,j,none⟩=some v:=fun j v h=>by rw [hW1,World.cell?_alloc_past (w:=w.drew) _ vb j hvw];exact h
 have hcpA:∀ (W:World),(∀ x,W.cell? x=W1.cell? x)→(∀ x,W.frozen? x=W1.frozen? x)→∀ ty dc,(Builtin.copy_ #[54,54] ty #[.slice (some ⟨w.heap.size,i * 2,none⟩) (n+m - i) dc,.slice (some ⟨vb,0,none⟩) m vc]).run Tryz.prog W=.ok (goInt m) (W.setCells w.heap.size (i * 2) vs):=fun W hWc hWf ty dc =>
  run_copyK W _ _ ty 107 w.heap.size (i * 2) (n+m - i) dc ⟨vb,0,none⟩ m vc vs 2 m Tryz.underlying54 hsz (by simp only [Nat.min_def];split<;>omega) hvl
   (fun j v hj=>by rw [Addr.add_lit,Nat.zero_add,hWc];exact hOv _ v (hvs j v hj))
   (fun j hj=>by rw [hWc];exact hN _ (by omega)) (fun j hj=>by rw [hWf];exact hNf _) h1v
 have hGn:n+m≤G:=by rw [hG];exact grownCap_ge w _ _ _
 have hG63:G≤9223372036854775807:=by
  have:=grownCap_le_maxLen w (n+m) c 107 (by unfold maxLen;omega);rw [← hG] at this;unfold maxLen at this;omega
 have hGi:¬ (G=i):=by omega
 have hGim:¬ (G=i+m):=by omega
 have hci:¬ (c=i):=by omega
 have hbN:b≠w.heap.size:=by omega
 have hdl:(cs.drop (i * 2)).length=(n - i) * 2:=by rw [List.length_drop,hcl];omega
 have hcpB:∀ (W:World),(∀ x,W.cell? x=(W1.setCells w.heap.size (i * 2) vs).cell? x)→(∀ x,W.frozen? x=(W1.setCells w.heap.size (i * 2) vs).frozen? x)→∀ ty dc sc,(Builtin.copy_ #[54,54] ty #[.slice (some ⟨w.heap.size,(i+m) * 2,none⟩) (n+m - (i+m)) dc,.slice (some ⟨b,i * 2,none⟩) (n - i) sc]).run Tryz.prog W=.ok (goInt (n - i:Nat)) (W.setCells w.heap.size ((i+m) * 2) (cs.drop (i * 2))):=fun W hWc hWf ty dc sc =>
  run_copyK W _ _ ty 107 w.heap.size ((i+m) * 2) (n+m - (i+m)) dc ⟨b,i * 2,none⟩ (n - i) sc (cs.drop (i * 2)) 2 (n - i) Tryz.underlying54 hsz (by simp only [Nat.min_def];split<;>omega) hdl
   (fun j v hj=>by
    rw [Addr.add_lit,hWc,World.cell?_setCells_out _ _ _ _ _ (fun h _=>absurd h hbN)];exact hOb _ v (hcs (i * 2+j) v (by rwa [List.getElem?_drop] at hj)))
   (fun j hj=>by rw [hWc];exact isSome_setCells _ _ _ _ (fun t ht=>hN _ (by omega)) _ (hN _ (by omega)))
   (fun j hj=>by rw [hWf,World.frozen?_setCells];exact hNf _) (fun v hv=>h1c v (List.mem_of_mem_drop hv))
 subst hW1;have hE1:∀ x,((w.alloc (.cells ROW 107)).drew).cell? x=(w.drew.alloc (.cells ROW 107)).cell? x:=fun x=>rfl;have hE2:∀ x,((w.alloc (.cells ROW 107)).drew).frozen? x=(w.drew.alloc (.cells ROW 107)).frozen? x:=fun x=>rfl;have hF1:∀ x,(((w.alloc (.cells ROW 107)).drew.setCells w.heap.size (i * 2) vs).drew).cell? x=((w.drew.alloc (.cells ROW 107)).setCells w.heap.size (i * 2) vs).cell? x:=fun x=>rfl;have hF2:∀ x,(((w.alloc (.cells ROW 107)).drew.setCells w.heap.size (i * 2) vs).drew).frozen? x=((w.drew.alloc (.cells ROW 107)).setCells w.heap.size (i * 2) vs).frozen? x:=fun x=>rfl;have hw1:IntKind.i64.wrap ((i:Int)+(m:Int))=(i:Int)+(m:Int):=by rw [IntKind.wrap_i64];omega
 have hb1:(0:Int)≤(i:Int)+(m:Int):=by omega
 have hin:i≤n:=by omega
 have htn:((i:Int)+(m:Int)).toNat=i+m:=by omega
 have hb3:(i:Int)≤(n:Int):=by omega
 clear hkk hik hold hROW hG hRl
 go_enter Tryz.func80,Tryz.ntmps80
 go_wp2_with (first
  | (at_builtin;refine Lib.wpList_append_run _ rfl _ _ _ _ rfl _ _ rfl rfl _ _ (hrz _) ?_)
  | (at_builtin;refine wpList_copy_runI _ rfl _ _ 54 54 rfl _ _ rfl rfl (hcpA _ hE1 hE2 _ _) ?_)
  | (at_builtin;refine wpList_copy_runI _ rfl _ _ 54 54 rfl _ _ rfl rfl (hcpB _ (fun _=>rfl) (fun _=>rfl) _ _ _) ?_))
 go_region_law_o (refine step_copy_runI rfl _ _ 54 54 rfl (.slice (some ⟨w.heap.size,(i+m) * 2,none⟩) (n+m - (i+m)) (G - (i+m))) (.slice (some ⟨b,i * 2,none⟩) (n - i) (c - i)) (by simp [Act.eval,Act.put]) (by simp [Act.eval,Act.put]) (hcpB _ hF1 hF2 3 (G - (i+m)) (c - i)) ?_)
 go_wp2
 go_ret
 exact ⟨rfl,rfl⟩
theorem ins_shift (b n c i vb m vc:Nat) (cs vs:List Value) (w:World) (hi:i<n) (hm:0<m) (hm2:m≤4) (hroom:n+m≤c) (hc63:c≤9223372036854775807) (hvb:vb≠b)
  (hcl:cs.length=n * 2) (hvl:vs.length=m * 2)
  (hcs:∀ j v,cs[j]?=some v→w.cell? ⟨b,j,none⟩=some v) (hsp:∀ j,j<(n+m) * 2→(w.cell? ⟨b,j,none⟩).isSome=true) (hfz:∀ j,j<(n+m) * 2→w.frozen? ⟨b,j,none⟩=false)
  (hvs:∀ j v,vs[j]?=some v→w.cell? ⟨vb,j,none⟩=some v) (h1c:∀ v∈cs,v.oneCell'=true) (h1v:∀ v∈vs,v.oneCell'=true)
  (tA tB:TypeId) (kA kB:Nat) (hsa:w.shape? vb=some (tA,kA)) (hsb:w.shape? b=some (tB,kB)) (hkB:kB≠0) (hfa:w.frozen? ⟨vb,0,none⟩=false) (hfe:w.frozen? ⟨vb,kA,none⟩=false) :
  Calls Tryz.prog 80 #[.slice (some ⟨b,0,none⟩) n c,.int .i64 i,.slice (some ⟨vb,0,none⟩) m vc] w fun e w' =>
   e=.returned (.slice (some ⟨b,0,none⟩) (n+m) c)∧w'=(w.drew.setCells b ((i+m) * 2) (cs.drop (i * 2))).setCells b (i * 2) vs:=by
 have mixed:Tryz.prog.follows .mixedOrders=true:=by kernel_rfl
 obtain ⟨i0,hi0,hz0,hzs,hzb⟩:=infoQ;have hz1:¬ ((m:Int)=0):=by omega
 have hz2:¬ ((i:Int)=(n:Int)):=by omega
 have hsz:(Tryz.prog.info? 107).map (·.size)=some 2:=by rw [hi0];simp [hzs]
 have hzQ:∀ w,(Go.sizeOf 107).run Tryz.prog w=.ok 2 w:=fun w=>by simp [Go.sizeOf,typeInfo,hi0,hzs]
 have hov:∀ lb cb,(callFunc 129 #[.slice (some ⟨vb,0,none⟩) m vc,.slice (some ⟨b,(i+m) * 2,none⟩) lb cb]).run Tryz.prog w=.ok (.value (.bool false)) w:=fun lb cb=>by
  rw [run_callFunc_extern Tryz.func129 (by kernel_rfl) (by kernel_rfl) (by kernel_rfl) (e:=Extern.SlicesOverlaps.overlaps #[54,54] #[4]) (by kernel_rfl),
   Lib.run_overlaps_apart w 54 4 107 Tryz.underlying54 2 hzQ ⟨vb,0,none⟩ ⟨b,(i+m) * 2,none⟩ m vc lb cb hvb tA tB kA kB hsa hsb hkB hfa hfe]
  rfl
 have hdl:(cs.drop (i * 2)).length=(n - i) * 2:=by rw [List.length_drop,hcl];omega
 have hw1:IntKind.i64.wrap ((i:Int)+(m:Int))=(i:Int)+(m:Int):=by rw [IntKind.wrap_i64];omega
 have hb1:(0:Int)≤(i:Int)+(m:Int):=by omega
 have hin:i≤n:=by omega
 have htn:((i:Int)+(m:Int)).toNat=i+m:=by omega
 have hb2:¬ (c=i+m):=by omega
 have hb3:(i:Int)≤(n:Int)+(m:Int):=by omega
 have hb4:¬ (c=i):=by omega
 have hcp1:∀ ty dc sc,(Builtin.copy_ #[54,54] ty #[.slice (some ⟨b,(i+m) * 2,none⟩) (n+m - (i+m)) dc,.slice (some ⟨b,i * 2,none⟩) (n+m - i) sc]).run Tryz.prog w.drew=.ok (goInt (n - i:Nat)) (w.drew.setCells b ((i+m) * 2) (cs.drop (i * 2))):=fun ty dc sc =>
  run_copyK w.drew _ _ ty 107 b ((i+m) * 2) (n+m - (i+m)) dc ⟨b,i * 2,none⟩ (n+m - i) sc (cs.drop (i * 2)) 2 (n - i) Tryz.underlying54 hsz (by simp only [Nat.min_def];split<;>omega) hdl
   (fun j v hj=>by rw [Addr.add_lit];exact hcs (i * 2+j) v (by rwa [List.getElem?_drop] at hj))
   (fun j hj=>hsp _ (by omega)) (fun j hj=>hfz _ (by omega)) (fun v hv=>h1c v (List.mem_of_mem_drop hv))
 obtain ⟨W1,hW1⟩:∃ W1,W1=w.drew.setCells b ((i+m) * 2) (cs.drop (i * 2)):=⟨_,rfl⟩
 have hsp1:∀ k,k<(n+m) * 2→(W1.cell? ⟨b,k,none⟩).isSome=true:=fun k hk=>by
  rw [hW1];exact isSome_setCells b (cs.drop (i * 2)) ((i+m) * 2) w.drew (fun j hj=>hsp _ (by rw [hdl] at hj;omega)) k (hsp k hk)
 have hcp2:∀ (W:World),(∀ x,W.cell? x=W1.cell? x)→(∀ x,W.frozen? x=W1.frozen? x)→∀ ty dc,(Builtin.copy_ #[54,54] ty #[.slice (some ⟨b,i * 2,none⟩) (n+m - i) dc,.slice (some ⟨vb,0,none⟩) m vc]).run Tryz.prog W=.ok (goInt m) (W.setCells b (i * 2) vs):=fun W hWc hWf ty dc =>
  run_copyK W _ _ ty 107 b (i * 2) (n+m - i) dc ⟨vb,0,none⟩ m vc vs 2 m Tryz.underlying54 hsz (by simp only [Nat.min_def];split<;>omega) hvl
   (fun j v hj=>by
    rw [Addr.add_lit,Nat.zero_add,hWc,hW1,World.cell?_setCells_out b _ _ _ _ (fun h _=>absurd h hvb)];exact hvs j v hj)
   (fun j hj=>by rw [hWc];exact hsp1 _ (by omega)) (fun j hj=>by rw [hWf,hW1,World.frozen?_setCells];exact hfz _ (by omega)) h1v
 rw [← hW1] at hcp1
 go_enter Tryz.func80,Tryz.ntmps80
 go_wp2_with (simp only [hov])
 go_region_law_o (refine step_copy_runI rfl _ _ 54 54 rfl _ _ (by simp [Act.eval,Act.put]) (by simp [Act.eval,Act.put]) (hcp1 _ _ _) ?_)
 go_wp2_with (at_builtin;refine wpList_copy_runI _ rfl _ _ 54 54 rfl _ _ rfl rfl (hcp2 _ (fun _=>rfl) (fun _=>rfl) _ _) ?_)
 go_ret
 first | exact ⟨rfl,rfl⟩ | exact ⟨rfl,by rw [hW1]⟩
theorem insK_LQ:InsK Tryz.prog 80 107 2:=by
 intro w v n pos vb vc cs kv tA hown hone hat hn hk hks hkone hne;have hclen:cs.length=n * 2:=hown.1;have hkl:kv.toList.length=2:=by simpa using hks
 have hvs:∀ j u,kv.toList[j]?=some u→w.cell? ⟨vb,j,none⟩=some u:=fun j u hu=>by
  rw [cell_of_row _ _ _ _ _ _ hk];simpa using hu
 rcases Nat.lt_or_ge pos n with hlt | hge'
 ·
  rcases hown.2 with ⟨rfl,h0⟩ | ⟨g,cap,cur,rfl,_,hg,hnc,hcm2,hcs,htake⟩
  · omega
  ·
   have hcc:cap≤9223372036854775807:=by simp only [maxLen] at hcm2;omega
   have hvb:vb≠g:=hne g rfl;have hcell:∀ j u,cs[j]?=some u→w.cell? ⟨g,j,none⟩=some u:=fun j u hu=>by
    have:=hown.cells (g:=g) rfl j u hu
    rwa [qca,Nat.zero_add] at this
   have hsome:∀ j,j<cap * 2→(w.cell? ⟨g,j,none⟩).isSome=true:=fun j hj=>by
    rw [cell_of_row _ _ _ _ _ _ hg,Array.getElem?_eq_getElem (by omega)];rfl
   have hfz:∀ j,w.frozen? ⟨g,j,none⟩=false:=fun j=>by simp [World.frozen?,hg]
   have hcurn:∀ j,j<n * 2→cur[j]?=cs[j]?:=fun j hj=>by
    rw [← htake,List.getElem?_take,if_pos (by omega),Array.getElem?_toList]
   have hp2:pos * 2≤n * 2:=by omega
   have htl:(cs.take (pos * 2)).length=pos * 2:=by rw [List.length_take];omega
   have hfinal:∀ c2:Array Value,(∀ j,j<(n+1) * 2→c2[j]?=if j<pos * 2 then cs[j]? else if j<pos * 2+2 then kv.toList[j - pos * 2]? else cs[j - 2]?)→(n+1) * 2≤c2.size→c2.toList.take ((n+1) * 2)=cs.take (pos * 2)++kv.toList++cs.drop (pos * 2):=fun c2 h hsz=>by
    apply List.ext_getElem?;intro j;rw [List.getElem?_take,Array.getElem?_toList];by_cases hj:j<(n+1) * 2
    ·
     rw [if_pos hj,h j hj];by_cases h1:j<pos * 2
     · rw [if_pos h1,List.append_assoc,List.getElem?_append_left (by omega),List.getElem?_take,if_pos h1]
     ·
      rw [if_neg h1];by_cases h2:j<pos * 2+2
      · rw [if_pos h2,List.append_assoc,List.getElem?_append_right (by omega),htl,List.getElem?_append_left (by omega)]
      ·
       rw [if_neg h2,List.getElem?_append_right (by rw [List.length_append,htl,hkl];omega),List.getElem?_drop,List.length_append,htl,hkl];congr 1;omega
    · rw [if_neg hj,List.getElem?_eq_none (by simp [hclen];omega)]
   rcases Nat.lt_or_ge cap (n+1) with hroom | hroom
   ·
    -- a new row
    refine (ins_grow g n cap pos vb 1 vc cs kv.toList w hlt (by omega) (by omega) hnc hroom (by omega) hclen (by omega) hcell hvs hone hkone).mono ?_;rintro e w' ⟨rfl,rfl⟩;have hg1:=grownCap_ge w (n+1) cap 107;have hgm:=grownCap_le_maxLen w (n+1) cap 107 (by simp only [maxLen];omega);generalize grownCap w (n+1) cap 107=G at hg1 hgm ⊢;obtain ⟨ROW,hROW⟩:∃ ROW:Array Value,(cs.take (pos * 2)).toArray++Builtin.zeroCells zQ (n+1 - pos)++Builtin.zeroCells zQ (G - (n+1))=ROW:=⟨_,rfl⟩
    rw [hROW];have hRs:ROW.size=G * 2:=by rw [← hROW];simp only [Array.size_append,List.size_toArray,htl,zc_size];omega
    have hRj:∀ j,j<pos * 2→ROW[j]?=cs[j]?:=fun j hj=>by
     rw [← hROW,Array.getElem?_append_left (by simp only [Array.size_append,List.size_toArray,htl];omega),Array.getElem?_append_left (by simp only [List.size_toArray,htl];omega)];simp only [List.getElem?_toArray,List.getElem?_take,hj,if_true]
    have h0:(w.alloc (.cells ROW 107)).drew.heap[w.heap.size]?=some (.cells ROW 107 (0,0)):=heap_alloc_new _ _;obtain ⟨c1,a1,a2,a3,a4,a5,a6,a7,a8⟩:=qbr kv.toList (pos * 2) _ _ h0 (by rw [hRs,hkl];omega);obtain ⟨c2,b1,b2,b3,b4,b5,b6,b7,b8⟩:=qbr (cs.drop (pos * 2)) ((pos+1) * 2) ((w.alloc (.cells ROW 107)).drew.setCells w.heap.size (pos * 2) kv.toList).drew c1 a1 (by rw [List.length_drop,a2,hRs];omega);refine ⟨_,rfl,rfl,⟨by simp only [List.length_append,List.length_take,List.length_drop,hkl,hclen];omega,.inr ⟨w.heap.size,G,c2,rfl,Nat.zero_le _,b1,hg1,hgm,by rw [b2,a2,hRs],hfinal c2 (fun j hj=>?_) (by rw [b2,a2,hRs];omega)⟩⟩,b5.trans a5,b6.trans a6,b7.trans a7,?_,.inr ⟨rfl,fun k hk'=>?_⟩⟩
    ·
     rw [b3 j,a3 j,List.length_drop,hclen,hkl];by_cases h1:j<pos * 2
     · rw [if_pos h1,if_neg (by omega),if_neg (by omega)];exact hRj j h1
     ·
      rw [if_neg h1];by_cases h2:j<pos * 2+2
      · rw [if_pos h2,if_neg (by omega),if_pos (by omega)]
      ·
       rw [if_neg h2,if_pos (by omega),List.getElem?_drop];congr 1;omega
    ·
     rw [b4];show w.heap.size≤((w.alloc (.cells ROW 107)).drew.setCells w.heap.size (pos * 2) kv.toList).heap.size;rw [a4];show w.heap.size≤(w.alloc (.cells ROW 107)).heap.size;simp
    ·
     rw [b8 k (by omega)];show ((w.alloc (.cells ROW 107)).drew.setCells w.heap.size (pos * 2) kv.toList).heap[k]?=_;rw [a8 k (by omega)];exact Go.heap_alloc_old _ _ hk'
   ·
    -- in place
    refine (ins_shift g n cap pos vb 1 vc cs kv.toList w hlt (by omega) (by omega) hroom hcc hvb hclen (by omega) hcell (fun j hj=>hsome j (by omega)) (fun j _=>hfz j) hvs hone hkone tA 107 2 (cap * 2) (by simp [World.shape?,hk,hks]) (by simp [World.shape?,hg,hcs]) (by omega) (by simp [World.frozen?,hk]) (by simp [World.frozen?,hk])).mono ?_;rintro e w' ⟨rfl,rfl⟩;obtain ⟨c1,a1,a2,a3,a4,a5,a6,a7,a8⟩:=qbr (cs.drop (pos * 2)) ((pos+1) * 2) w.drew cur hg (by rw [List.length_drop,hcs];omega);obtain ⟨c2,b1,b2,b3,b4,b5,b6,b7,b8⟩:=qbr kv.toList (pos * 2) _ c1 a1 (by rw [a2,hkl,hcs];omega);refine ⟨_,rfl,rfl,⟨by simp only [List.length_append,List.length_take,List.length_drop,hkl,hclen];omega,.inr ⟨g,cap,c2,rfl,Nat.zero_le _,b1,hroom,hcm2,by rw [b2,a2,hcs],hfinal c2 (fun j hj=>?_) (by rw [b2,a2,hcs];omega)⟩⟩,b5.trans a5,b6.trans a6,b7.trans a7,by rw [b4,a4];exact Nat.le_refl _,.inl ⟨g,rfl,rfl,fun k hk'=>(b8 k hk').trans (a8 k hk')⟩⟩;rw [b3 j,a3 j,List.length_drop,hclen,hkl];by_cases h1:j<pos * 2
    · rw [if_pos h1,if_neg (by omega),if_neg (by omega)];exact hcurn j (by omega)
    ·
     rw [if_neg h1];by_cases h2:j<pos * 2+2
     · rw [if_pos h2,if_pos (by omega)]
     ·
      rw [if_neg h2,if_neg (by omega),if_pos (by omega),List.getElem?_drop];congr 1;omega
 ·
  have hpn:pos=n:=by omega
  subst hpn;have h9:=ins_end w v pos vb vc cs kv tA hown hn hk hks hkone;have e1:cs.take (pos * 2)=cs:=List.take_of_length_le (by omega);have e2:cs.drop (pos * 2)=[]:=List.drop_eq_nil_of_le (by omega);rw [e1,e2,List.append_nil];exact h9
end Go.Proofs.YtbimdamecieomaaGreatDoor
