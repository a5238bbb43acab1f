/- Recon returns the specified footprint or error; for all arguments up to the bound of the second form. -/
import Derived.Test.YtilhejdbiionhaaGreatDoorR46
import Derived.Test.YtilhejdbiionhaaGreatDoorR47
set_option linter.all false

set_option maxRecDepth 100000
namespace Go.Proofs.YtilhejdbiionhaaGreatDoor.predictRecon
open Go Go.Abs Go.Cw Go.ChangeShapes Go.WideShapes Go.ChangeAt Go.RowKit
theorem contract(H:Type)(enc:TypeId×Value→H)(W:World)(base:Nat)(args:Array Value)(ds gs:List (DataW H))(before:List MemPlace)
  (hval:∀(j:Nat) t v,Tryz.f3.params[j]?=some t→args[j]?=some v→Value.okWide Tryz.prog W .any base t v)
  (hW:DataW.Whole enc Tryz.prog Tryz.f3.params.toList Rows.predictReconSpec.vars false W args.toList ds gs before) (hk:Rows.uptoSmall H (ds++gs)=true) (hL:laidMetH Tryz.prog laidL W) :
  Calls Tryz.prog 3 args W fun e W'=>∃v,e=.returned v∧Rows.predictReconSpec.post enc Tryz.prog Tryz.f3 false true false false W args v W':=by
 have hW':=hW;obtain⟨p,q,hA0,hV,rfl,hfz,hnd⟩:=hW;have hA:DataW.TrodAll enc Tryz.prog W 0 (fun _=>true) true Tryz.f3.params.toList args.toList ds p:=hA0;rw[Tryz.params3]at hA hval;obtain⟨v0,vs0,d0,ds0,p0,q0,hargs,rfl,rfl,h0,r0⟩:=trodAll_cons hA;obtain⟨v1,vs1,d1,ds1,p1,q1,rfl,rfl,rfl,h1,r1⟩:=trodAll_cons r0;obtain⟨v2,vs2,d2,ds2,p2,q2,rfl,rfl,rfl,h2,r2⟩:=trodAll_cons r1;obtain⟨rfl,rfl,rfl⟩:=trodAll_nil r2;obtain rfl:args = #[v0,v1,v2]:=by cases args;simp_all
 obtain⟨rfl,rfl⟩:=trodVars_none hV;have hbk:Rows.uptoBulkAll [d0,d1,d2]≤UB:=of_decide_eq_true (by simpa[Rows.uptoSmall]using hk);obtain⟨a0,ra0,ga0⟩:=arg_struct Tryz.underlying25 (hval 0 _ v0 rfl rfl) h0 (fun n=>rd_Proc) (by simp only[Rows.uptoBulkAll]at hbk;omega);obtain⟨a1,ra1,ga1⟩:=arg_slice Tryz.underlying26 (hval 1 _ v1 rfl rfl) h1 (fun n=>rd_Vs) (by simp only[Rows.uptoBulkAll]at hbk;omega);obtain⟨a2,ra2,ga2⟩:=arg_slice Tryz.underlying27 (hval 2 _ v2 rfl rfl) h2 (fun n=>rd_Ps) (by simp only[Rows.uptoBulkAll]at hbk;omega);obtain⟨T,x,hT⟩:=table_heap hL;have hr:RelL (ctxR W gTab) [.agg a0.c,.slice (a1.map V.c),.slice (a2.map Pr.c)] #[v0,v1,v2]:=⟨rfl,fun j x v hx hv=>by
  match j with
  | 0=>simp at hx hv;subst hx;subst hv;exact ra0
  | 1=>simp at hx hv;subst hx;subst hv;exact ra1
  | 2=>simp at hx hv;subst hx;subst hv;exact ra2
  |j+3=>simp at hx⟩
 refine(calls_of_acalls hT tab_u64 hr (c_law20_Recon (tT:=T) (tx:=x) (g:=0) a0 a1 a2 [tabO T x] rfl (runIn_of ga0 ga1 ga2))).mono ?_;rintro e W' ⟨rfl,hb⟩;have hlt0:∀x∈p0,x.block<W.heap.size:=fun x hx=>by simpa using hW'.lt x (by simp[hx])
 have hlt1:∀x∈p1,x.block<W.heap.size:=fun x hx=>by simpa using hW'.lt x (by simp[hx])
 have hlt2:∀x∈p2,x.block<W.heap.size:=fun x hx=>by simpa using hW'.lt x (by simp[hx])
 refine⟨_,rfl,[d0,d1,d2],[],_,[],_,[],hW',trodAll_cons_mk (shut_bool Tryz.underlying4 _) trodAll_mk0,(trodAll_cons_mk (Below.trod laidOut (by kernel_rfl) (of_decide_eq_true (by kernel_rfl)) h0 hb hlt0) (trodAll_cons_mk (Below.trod laidOut (by kernel_rfl) (of_decide_eq_true (by kernel_rfl)) h1 hb hlt1) (trodAll_cons_mk (Below.trod laidOut (by kernel_rfl) (of_decide_eq_true (by kernel_rfl)) h2 hb hlt2) trodAll_mk0))),rfl,hb.frame _,fun h=>by cases h⟩
abbrev w0:Value:=.agg #[.string ⟨#[]⟩,.slice none 0 0,.slice none 0 0]
abbrev r0{H:Type}:DataW H:=.agg [.lit (.string []),.nil,.nil]
abbrev w1:Value:=.slice none 0 0
abbrev r1{H:Type}:DataW H:=.nil
abbrev w2:Value:=.slice none 0 0
abbrev r2{H:Type}:DataW H:=.nil
abbrev wArgs:Array Value:=#[w0,w1,w2]
theorem laid_met(os:Os):laidMet Tryz.prog Rows.predictReconUptoRow.laid ((laidWorld os).forCall (fun _ _=>0) ⟨#[],wArgs,[]⟩).memory:=laidMet_of_run' 8 (by kernel_rfl) (by kernel_rfl)
theorem reads(os:Os){H:Type}(enc:TypeId×Value→H):∃places,DataW.whole enc Tryz.prog ((laidWorld os).forCall (fun _ _=>0) ⟨#[],wArgs,[]⟩).memory Tryz.f3.params.toList Rows.predictReconSpec.vars false wArgs.toList 8=some ([r0,r1,r2],[],places):=⟨[],by kernel_rfl⟩
theorem lifted(os:Os)(started:os.Started)(H:Type)(enc:TypeId×Value→H)(F:Stop.Interp) :
  ReturnsInHanded {} Tryz.checked os 3 .any ((Rows.OpenSpec.upto Rows.predictReconSpec).preRow enc Tryz.prog Tryz.f3 Rows.predictReconUptoRow.domain false Rows.predictReconUptoRow.laid) (((Rows.OpenSpec.upto Rows.predictReconSpec).at F).post enc Tryz.prog Tryz.f3 false true false false):=by
 obtain⟨places,hx⟩:=reads os enc;refine returnsInHanded_of_row (C:=Tryz.checked) (s:=Rows.OpenSpec.upto Rows.predictReconSpec) ownK started (by kernel_rfl) Tryz.func3
  (witness_row_at (enc:=enc) (C:=Tryz.checked) false (laidWorld os) wArgs rfl (by kernel_rfl) (by kernel_rfl) (by kernel_rfl)
   (OpenSpec.preRow_of_cond 8 hx (by kernel_rfl) (fun k hk=>by cases hk;kernel_rfl) (by kernel_rfl) (laid_met os))) ?_
 intro W base args ds gs before hval hW _ hcond _ hL _ _;exact contract H enc W base args ds gs before hval hW (hcond _ rfl) hL
theorem named:Tryz.pinned.checked.prog.funcNamed Rows.predictReconUptoRow.func=some 3:=by kernel_rfl
theorem fact0:(Rows.predictReconUptoRow.inPlace == Tryz.pinned.checked.prog.inPlace 3)=true:=by kernel_rfl
theorem fact1:(Rows.predictReconUptoRow.unfollowed == Tryz.pinned.checked.prog.unfollowed 3)=true:=by kernel_rfl
theorem fact2:(Rows.predictReconUptoRow.recurses == Tryz.pinned.checked.prog.recurses 3)=true:=by kernel_rfl
theorem fact3:(Rows.predictReconUptoRow.named == Tryz.pinned.checked.prog.varsNamed 3)=true:=by kernel_rfl
theorem fact4:(Rows.predictReconUptoRow.lifted == Tryz.pinned.checked.prog.liftsFinal)=true:=by kernel_rfl
theorem fact5:namedTie Tryz.pinned.checked.prog Rows.predictReconUptoRow.named (Rows.OpenSpec.upto Rows.predictReconSpec).bare.vars=true:=by kernel_rfl
theorem joined:joinedFacts Tryz.pinned.checked.prog 3 Tryz.f3 (Rows.OpenSpec.upto Rows.predictReconSpec).bare Rows.predictReconUptoRow=true:=by
 unfold joinedFacts;rw[fact0,fact1,fact2,fact3,fact4,fact5,pLaid,pMaps,pHeard,pEnter]
 kernel_rfl
theorem said:Rows.PredictReconUptoSaid :=
 OpenClaim.holds_of_cond 3 Tryz.f3 rfl rfl rfl rfl rfl rfl rfl ⟨rfl,rfl,rfl,rfl,rfl⟩ rfl rfl rfl rfl rfl named Tryz.func3 joined
  (of_decide_eq_true (by kernel_rfl)) (by unfold Func.isWrapper;first|(rw[if_pos (by decide +kernel)];kernel_rfl)|(rw[if_neg (by decide +kernel)];exact⟨rfl,rfl⟩))
  (fun os started H enc _ F=>by rw[OpenClaim.pre_eq_preRow];exact lifted os started H enc F)
theorem plain(f:FuncId)(fn:Func)(hf:Tryz.pinned.checked.prog.funcNamed "clockwork/clockworklaw20.PredictRecon" = some f)(hfn:Tryz.pinned.checked.prog.funcs[f]?=some fn) :
  true=Tryz.pinned.checked.prog.looks []∧∀(j:Nat) t,fn.params[j]?=some t→Tryz.pinned.checked.prog.wantsStandIn t=false:=by
 obtain rfl:f=3:=Option.some.inj ((show Tryz.prog.funcNamed "clockwork/clockworklaw20.PredictRecon" = some 3 by kernel_rfl).symm.trans hf)|>.symm
 obtain rfl:fn=Tryz.f3:=(Option.some.inj (Tryz.func3.symm.trans hfn)).symm;refine⟨by kernel_rfl,fun j t ht=>?_⟩;rw[Tryz.params3]at ht;have hm:t=25∨t=26∨t=27:=by simpa using Array.mem_of_getElem? ht
 rcases hm with rfl|rfl|rfl
 ·exact(show Tryz.prog.wantsStandIn 25=false by kernel_rfl)
 ·exact(show Tryz.prog.wantsStandIn 26=false by kernel_rfl)
 ·exact(show Tryz.prog.wantsStandIn 27=false by kernel_rfl)
theorem goes:false=Rows.predictReconUptoRow.goesBy Tryz.pinned.checked.prog:=by kernel_rfl
theorem card:Rows.PredictReconUptoCardSaid :=
 Claim7.holds_tied_plain_at .later [] _ _ _ _ said (fun _ h=>by cases h) (by kernel_rfl) (fun _ h=>by cases h) predictReconUpto_row_tie rfl ⟨rfl,rfl⟩ (by kernel_rfl) rfl plain goes
end Go.Proofs.YtilhejdbiionhaaGreatDoor.predictRecon
