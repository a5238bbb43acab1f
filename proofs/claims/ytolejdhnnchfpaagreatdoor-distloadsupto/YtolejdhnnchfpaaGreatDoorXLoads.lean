/- Load divides a state by owners; for all arguments up to the bound of the second form. -/
import Derived.Test.YtolejdhnnchfpaaGreatDoorQ45
set_option linter.all false
set_option maxRecDepth 100000
namespace Go.Proofs.YtolejdhnnchfpaaGreatDoor.distLoads
open Go Go.Abs Go.Cw Go.ChangeShapes Go.WideShapes Go.ChangeAt Go.RowKit Go.Proofs.Tryz
theorem contract(H:Type)(enc:TypeId×Value->H)(W:World)(base:Nat)(args:Array Value)(ds gs:List (DataW H))(before:List MemPlace)
  (nk:∀(j:Nat) t v,Tryz.f4.params[j]?=some t->args[j]?=some v->Value.okWide prog W .any base t v)
  (hW:DataW.Whole enc prog Tryz.f4.params.toList Rows.distLoadsSpec.vars false W args.toList ds gs before) (hk:Rows.uptoSmall H (ds++gs)=true) (hL:laidMetH prog xc5 W) :
  Calls prog 4 args W λe W'=>∃v,e=.returned v/\Rows.distLoadsSpec.post enc prog Tryz.f4 false true false false W args v W':=by
 have hW':=hW;obtain⟨p,q,hA0,hV,rfl,hfz,hnd⟩:=hW;have hA:DataW.TrodAll enc prog W 0 (λ_=>true) true Tryz.f4.params.toList args.toList ds p:=hA0;rw[params4]at hA nk;obtain⟨v0,vs0,d0,ds0,p0,q0,qqg,rfl,rfl,h0,r0⟩:=trodAll_cons hA;obtain⟨v1,vs1,d1,ds1,p1,q1,rfl,rfl,rfl,h1,r1⟩:=trodAll_cons r0;obtain⟨rfl,rfl,rfl⟩:=trodAll_nil r1;obtain rfl:args = #[v0,v1]:=by cases args;simp_all
 obtain⟨rfl,rfl⟩:=trodVars_none hV;have hbk:Rows.uptoBulkAll [d0,d1]<=UB:=of_decide_eq_true (by simpa[Rows.uptoSmall]using hk);obtain⟨a0,ra0,ga0⟩:=xys underlying24 (nk 0 _ v0 rfl rfl) h0 (λn=>jkc) qe5;obtain⟨a1,ra1,ga1⟩:=xco underlying28 (nk 1 _ v1 rfl rfl) h1 (λn=>jgo) qe5;obtain⟨T,x,hT⟩:=xx9 hL;have hr:RelL (qqo W qu4) [.agg a0.c,.slice (a1.map Pr.c)] #[v0,v1]:=⟨rfl,λj x v hx hv=>by
  match j with
  | 0=>simp at hx hv;subst hx;subst hv;exact ra0
  | 1=>simp at hx hv;subst hx;subst hv;exact ra1
  |j+2=>simp at hx⟩
 refine(jdu hT xyy hr (jni (tT:=T) (tx:=x) (g:=0) a0 a1 [rn T x] rfl)).mono ?_;rintro e W' ⟨rfl,hb⟩;have hlt0:∀x∈p0,x.block<W.heap.size:=λx hx=>by simpa using hW'.lt x bu
 have hlt1:∀x∈p1,x.block<W.heap.size:=λx hx=>by simpa using hW'.lt x bu
 refine⟨_,rfl,[d0,d1],[],_,[],_,[],hW',trodAll_cons_mk (shut_bool underlying4 _) trodAll_mk0,(trodAll_cons_mk (Below.trod laidOut ae (of_decide_eq_true ae) h0 hb hlt0) (trodAll_cons_mk (Below.trod laidOut ae (of_decide_eq_true ae) h1 hb hlt1) trodAll_mk0)),rfl,hb.frame _,λh=>by cases h⟩
abbrev w0:Value:=.agg #[.int .i64 0,.slice none 0 0]
abbrev r0{H:Type}:DataW H:=.agg [.lit (.int .i64 0),.nil]
abbrev w1:Value:=.slice none 0 0
abbrev r1{H:Type}:DataW H:=.nil
abbrev xcg:Array Value:=#[w0,w1]
theorem laid_met(os:Os):laidMet prog Rows.distLoadsUptoRow.laid ((xkr os).forCall (λ_ _=>0) ⟨#[],xcg,[]⟩).memory:=laidMet_of_run' 8 ae ae
theorem reads(os:Os){H:Type}(enc:TypeId×Value->H):∃qqn,DataW.whole enc prog ((xkr os).forCall (λ_ _=>0) ⟨#[],xcg,[]⟩).memory Tryz.f4.params.toList Rows.distLoadsSpec.vars false xcg.toList 8=some ([r0,r1],[],qqn):=⟨[],ae⟩
theorem lifted(os:Os)(started:os.Started)(H:Type)(enc:TypeId×Value->H)(F:Stop.Interp) :
  ReturnsInHanded {} Tryz.checked os 4 .any ((Rows.OpenSpec.upto Rows.distLoadsSpec).preRow enc prog Tryz.f4 Rows.distLoadsUptoRow.domain false Rows.distLoadsUptoRow.laid) (((Rows.OpenSpec.upto Rows.distLoadsSpec).at F).post enc prog Tryz.f4 false true false false):=by
 obtain⟨qqn,hx⟩:=reads os enc;refine returnsInHanded_of_row (C:=Tryz.checked) (s:=Rows.OpenSpec.upto Rows.distLoadsSpec) jh1 started ae func4
  (witness_row_at (enc:=enc) (C:=Tryz.checked) false (xkr os) xcg rfl ae ae ae
   (OpenSpec.preRow_of_cond 8 hx ae (λk hk=>by cases hk;kernel_rfl) ae (laid_met os))) ?_
 intro W base args ds gs before nk hW _ qqc _ hL _ _;exact contract H enc W base args ds gs before nk hW (qqc _ rfl) hL
theorem named:Tryz.pinned.checked.prog.funcNamed Rows.distLoadsUptoRow.func=some 4:=ae
theorem jhu:(Rows.distLoadsUptoRow.inPlace == Tryz.pinned.checked.prog.inPlace 4)=true:=ae
theorem jfj:(Rows.distLoadsUptoRow.unfollowed == Tryz.pinned.checked.prog.unfollowed 4)=true:=ae
theorem ja3:(Rows.distLoadsUptoRow.recurses == Tryz.pinned.checked.prog.recurses 4)=true:=ae
theorem xvh:(Rows.distLoadsUptoRow.named == Tryz.pinned.checked.prog.varsNamed 4)=true:=ae
theorem jgl:(Rows.distLoadsUptoRow.lifted == Tryz.pinned.checked.prog.liftsFinal)=true:=ae
theorem ja6:namedTie Tryz.pinned.checked.prog Rows.distLoadsUptoRow.named (Rows.OpenSpec.upto Rows.distLoadsSpec).bare.vars=true:=ae
theorem jb5:joinedFacts Tryz.pinned.checked.prog 4 Tryz.f4 (Rows.OpenSpec.upto Rows.distLoadsSpec).bare Rows.distLoadsUptoRow=true:=by
 unfold joinedFacts;rw[jhu,jfj,ja3,xvh,jgl,ja6,jbq,jac,xza,xwc]
 kernel_rfl
theorem said:Rows.DistLoadsUptoSaid :=
 OpenClaim.holds_of_cond 4 Tryz.f4 rfl rfl rfl rfl rfl rfl rfl ⟨rfl,rfl,rfl,rfl,rfl⟩ rfl rfl rfl rfl rfl named func4 jb5
  (of_decide_eq_true ae) (by unfold Func.isWrapper;first|(rw[if_pos (by decide +kernel)];kernel_rfl)|(rw[if_neg (by decide +kernel)];exact⟨rfl,rfl⟩))
  (λos started H enc _ F=>by rw[OpenClaim.pre_eq_preRow];exact lifted os started H enc F)
theorem plain(f:FuncId)(fn:Func)(hf:Tryz.pinned.checked.prog.funcNamed "clockwork/clockworklaw32.DistLoads" = some f)(hfn:Tryz.pinned.checked.prog.funcs[f]?=some fn) :
  true=Tryz.pinned.checked.prog.looks []/\∀(j:Nat) t,fn.params[j]?=some t->Tryz.pinned.checked.prog.wantsStandIn t=false:=by
 obtain rfl:f=4:=gy ((show prog.funcNamed "clockwork/clockworklaw32.DistLoads" = some 4 by kernel_rfl).symm.trans hf)|>.symm
 obtain rfl:fn=Tryz.f4:=(gy (func4.symm.trans hfn)).symm;refine⟨ae,λj t ht=>?_⟩;rw[params4]at ht;have hm:t=24\/t=28:=by simpa using Array.mem_of_getElem? ht
 rcases hm with rfl|rfl
 .exact(show prog.wantsStandIn 24=false by kernel_rfl)
 .exact(show prog.wantsStandIn 28=false by kernel_rfl)
theorem xo0:false=Rows.distLoadsUptoRow.goesBy Tryz.pinned.checked.prog:=ae
theorem card:Rows.DistLoadsUptoCardSaid :=
 Claim7.holds_tied_plain_at .later [] _ _ _ _ said (λ_ h=>by cases h) ae (λ_ h=>by cases h) distLoadsUpto_row_tie rfl ⟨rfl,rfl⟩ ae rfl plain xo0
end Go.Proofs.YtolejdhnnchfpaaGreatDoor.distLoads
