/- Gather returns the union of the shards, or the specified error; for all arguments up to the bound of the second form. -/
import Derived.Test.YtolejdhnnchfpaaGreatDoorQ45
set_option linter.all false
set_option maxRecDepth 100000
namespace Go.Proofs.YtolejdhnnchfpaaGreatDoor.distGathers
open Go Go.Abs Go.Cw Go.ChangeShapes Go.WideShapes Go.ChangeAt Go.RowKit Go.Proofs.Tryz
theorem contract(H:Type)(enc:TypeId×Value->H)(W:World)(base:Nat)(args:Array Value)(ds gs:List (DataW H))(before:List MemPlace)
  (nk:∀(j:Nat) t v,Tryz.f7.params[j]?=some t->args[j]?=some v->Value.okWide prog W .any base t v)
  (hW:DataW.Whole enc prog Tryz.f7.params.toList Rows.distGathersSpec.vars false W args.toList ds gs before) (hk:Rows.uptoSmall H (ds++gs)=true) (hL:laidMetH prog xc5 W) :
  Calls prog 7 args W λe W'=>∃v,e=.returned v/\Rows.distGathersSpec.post enc prog Tryz.f7 false true false false W args v W':=by
 have hW':=hW;obtain⟨p,q,hA0,hV,rfl,hfz,hnd⟩:=hW;have hA:DataW.TrodAll enc prog W 0 (λ_=>true) true Tryz.f7.params.toList args.toList ds p:=hA0;rw[params7]at hA nk;obtain⟨v0,vs0,d0,ds0,p0,q0,qqg,rfl,rfl,h0,r0⟩:=trodAll_cons hA;obtain⟨rfl,rfl,rfl⟩:=trodAll_nil r0;obtain rfl:args = #[v0]:=by cases args;simp_all
 obtain⟨rfl,rfl⟩:=trodVars_none hV;have hbk:Rows.uptoBulkAll [d0]<=UB:=of_decide_eq_true (by simpa[Rows.uptoSmall]using hk);obtain⟨a0,ra0,ga0⟩:=jmk (nk 0 _ v0 rfl rfl) h0 qe5;obtain⟨T,x,hT⟩:=xx9 hL;have hr:RelL (qqo W qu4) [.slice (a0.map Shard.c)] #[v0]:=⟨rfl,λj x v hx hv=>by
  match j with
  | 0=>simp at hx hv;subst hx;subst hv;exact ra0
  |j+1=>simp at hx⟩
 refine(jdu hT xyy hr (jov (tT:=T) (tx:=x) (g:=0) a0 [rn T x] rfl (by have:=ga0.sum;simp only[UB]at *;omega))).mono ?_;rintro e W' ⟨rfl,hb⟩;have hlt0:∀x∈p0,x.block<W.heap.size:=λx hx=>by simpa using hW'.lt x bu
 refine⟨_,rfl,[d0],[],_,[],_,[],hW',trodAll_cons_mk (shut_bool underlying4 _) trodAll_mk0,(trodAll_cons_mk (Below.trod laidOut ae (of_decide_eq_true ae) h0 hb hlt0) trodAll_mk0),rfl,hb.frame _,λh=>by cases h⟩
abbrev w0:Value:=.slice none 0 0
abbrev r0{H:Type}:DataW H:=.nil
abbrev xcg:Array Value:=#[w0]
theorem laid_met(os:Os):laidMet prog Rows.distGathersUptoRow.laid ((xkr os).forCall (λ_ _=>0) ⟨#[],xcg,[]⟩).memory:=laidMet_of_run' 8 ae ae
theorem reads(os:Os){H:Type}(enc:TypeId×Value->H):∃qqn,DataW.whole enc prog ((xkr os).forCall (λ_ _=>0) ⟨#[],xcg,[]⟩).memory Tryz.f7.params.toList Rows.distGathersSpec.vars false xcg.toList 8=some ([r0],[],qqn):=⟨[],ae⟩
theorem lifted(os:Os)(started:os.Started)(H:Type)(enc:TypeId×Value->H)(F:Stop.Interp) :
  ReturnsInHanded {} Tryz.checked os 7 .any ((Rows.OpenSpec.upto Rows.distGathersSpec).preRow enc prog Tryz.f7 Rows.distGathersUptoRow.domain false Rows.distGathersUptoRow.laid) (((Rows.OpenSpec.upto Rows.distGathersSpec).at F).post enc prog Tryz.f7 false true false false):=by
 obtain⟨qqn,hx⟩:=reads os enc;refine returnsInHanded_of_row (C:=Tryz.checked) (s:=Rows.OpenSpec.upto Rows.distGathersSpec) jh1 started ae func7
  (witness_row_at (enc:=enc) (C:=Tryz.checked) false (xkr os) xcg rfl ae ae ae
   (OpenSpec.preRow_of_cond 8 hx ae (λk hk=>by cases hk;kernel_rfl) ae (laid_met os))) ?_
 intro W base args ds gs before nk hW _ qqc _ hL _ _;exact contract H enc W base args ds gs before nk hW (qqc _ rfl) hL
theorem named:Tryz.pinned.checked.prog.funcNamed Rows.distGathersUptoRow.func=some 7:=ae
theorem jhu:(Rows.distGathersUptoRow.inPlace == Tryz.pinned.checked.prog.inPlace 7)=true:=ae
theorem jfj:(Rows.distGathersUptoRow.unfollowed == Tryz.pinned.checked.prog.unfollowed 7)=true:=ae
theorem ja3:(Rows.distGathersUptoRow.recurses == Tryz.pinned.checked.prog.recurses 7)=true:=ae
theorem xvh:(Rows.distGathersUptoRow.named == Tryz.pinned.checked.prog.varsNamed 7)=true:=ae
theorem jgl:(Rows.distGathersUptoRow.lifted == Tryz.pinned.checked.prog.liftsFinal)=true:=ae
theorem ja6:namedTie Tryz.pinned.checked.prog Rows.distGathersUptoRow.named (Rows.OpenSpec.upto Rows.distGathersSpec).bare.vars=true:=ae
theorem jb5:joinedFacts Tryz.pinned.checked.prog 7 Tryz.f7 (Rows.OpenSpec.upto Rows.distGathersSpec).bare Rows.distGathersUptoRow=true:=by
 unfold joinedFacts;rw[jhu,jfj,ja3,xvh,jgl,ja6,jbq,jac,xza,xwc]
 kernel_rfl
theorem said:Rows.DistGathersUptoSaid :=
 OpenClaim.holds_of_cond 7 Tryz.f7 rfl rfl rfl rfl rfl rfl rfl ⟨rfl,rfl,rfl,rfl,rfl⟩ rfl rfl rfl rfl rfl named func7 jb5
  (of_decide_eq_true ae) (by unfold Func.isWrapper;first|(rw[if_pos (by decide +kernel)];kernel_rfl)|(rw[if_neg (by decide +kernel)];exact⟨rfl,rfl⟩))
  (λos started H enc _ F=>by rw[OpenClaim.pre_eq_preRow];exact lifted os started H enc F)
theorem plain(f:FuncId)(fn:Func)(hf:Tryz.pinned.checked.prog.funcNamed "clockwork/clockworklaw32.DistGathers" = some f)(hfn:Tryz.pinned.checked.prog.funcs[f]?=some fn) :
  true=Tryz.pinned.checked.prog.looks []/\∀(j:Nat) t,fn.params[j]?=some t->Tryz.pinned.checked.prog.wantsStandIn t=false:=by
 obtain rfl:f=7:=gy ((show prog.funcNamed "clockwork/clockworklaw32.DistGathers" = some 7 by kernel_rfl).symm.trans hf)|>.symm
 obtain rfl:fn=Tryz.f7:=(gy (func7.symm.trans hfn)).symm;refine⟨ae,λj t ht=>?_⟩;rw[params7]at ht;have hm:t=25:=by simpa using Array.mem_of_getElem? ht
 rcases hm with rfl
 .exact(show prog.wantsStandIn 25=false by kernel_rfl)
theorem xo0:false=Rows.distGathersUptoRow.goesBy Tryz.pinned.checked.prog:=ae
theorem card:Rows.DistGathersUptoCardSaid :=
 Claim7.holds_tied_plain_at .later [] _ _ _ _ said (λ_ h=>by cases h) ae (λ_ h=>by cases h) distGathersUpto_row_tie rfl ⟨rfl,rfl⟩ ae rfl plain xo0
end Go.Proofs.YtolejdhnnchfpaaGreatDoor.distGathers
