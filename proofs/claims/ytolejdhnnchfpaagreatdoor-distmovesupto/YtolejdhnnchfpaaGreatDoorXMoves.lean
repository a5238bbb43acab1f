/- The effects of a round do not depend on the placement; for all arguments up to the bound of the second form. -/
import Derived.Test.YtolejdhnnchfpaaGreatDoorQ45
set_option linter.all false
set_option maxRecDepth 100000
namespace Go.Proofs.YtolejdhnnchfpaaGreatDoor.distMoves
open Go Go.Abs Go.Cw Go.ChangeShapes Go.WideShapes Go.ChangeAt Go.RowKit Go.Proofs.Tryz
theorem contract(H:Type)(enc:TypeId×Value->H)(W:World)(base:Nat)(args:Array Value)(ds gs:List (DataW H))(before:List MemPlace)
  (nk:∀(j:Nat) t v,Tryz.f9.params[j]?=some t->args[j]?=some v->Value.okWide prog W .any base t v)
  (hW:DataW.Whole enc prog Tryz.f9.params.toList Rows.distMovesSpec.vars false W args.toList ds gs before) (hk:Rows.uptoSmall H (ds++gs)=true) (hL:laidMetH prog xc5 W) :
  Calls prog 9 args W λe W'=>∃v,e=.returned v/\Rows.distMovesSpec.post enc prog Tryz.f9 false true false false W args v W':=by
 have hW':=hW;obtain⟨p,q,hA0,hV,rfl,hfz,hnd⟩:=hW;have hA:DataW.TrodAll enc prog W 0 (λ_=>true) true Tryz.f9.params.toList args.toList ds p:=hA0;rw[params9]at hA nk;obtain⟨v0,vs0,d0,ds0,p0,q0,qqg,rfl,rfl,h0,r0⟩:=trodAll_cons hA;obtain⟨v1,vs1,d1,ds1,p1,q1,rfl,rfl,rfl,h1,r1⟩:=trodAll_cons r0;obtain⟨v2,vs2,d2,ds2,p2,q2,rfl,rfl,rfl,h2,r2⟩:=trodAll_cons r1;obtain⟨v3,vs3,d3,ds3,p3,q3,rfl,rfl,rfl,h3,r3⟩:=trodAll_cons r2;obtain⟨v4,vs4,d4,ds4,p4,q4,rfl,rfl,rfl,h4,r4⟩:=trodAll_cons r3;obtain⟨v5,vs5,d5,ds5,p5,q5,rfl,rfl,rfl,h5,r5⟩:=trodAll_cons r4;obtain⟨rfl,rfl,rfl⟩:=trodAll_nil r5;obtain rfl:args = #[v0,v1,v2,v3,v4,v5]:=by cases args;simp_all
 obtain⟨rfl,rfl⟩:=trodVars_none hV;have hbk:Rows.uptoBulkAll [d0,d1,d2,d3,d4,d5]<=UB:=of_decide_eq_true (by simpa[Rows.uptoSmall]using hk);obtain⟨a0,ra0,ga0⟩:=xco underlying32 (nk 0 _ v0 rfl rfl) h0 (λn=>xww) qe5;obtain⟨a1,ra1,ga1⟩:=xys underlying24 (nk 1 _ v1 rfl rfl) h1 (λn=>jkc) qe5;obtain⟨a2,ra2,ga2⟩:=xys underlying24 (nk 2 _ v2 rfl rfl) h2 (λn=>jkc) qe5;obtain⟨a3,ra3,ga3⟩:=xco underlying28 (nk 3 _ v3 rfl rfl) h3 (λn=>jgo) qe5;obtain⟨a4,ra4,ga4⟩:=xco underlying33 (nk 4 _ v4 rfl rfl) h4 (λn=>jka) qe5;obtain⟨a5,ra5,ga5⟩:=xco underlying34 (nk 5 _ v5 rfl rfl) h5 (λn=>jj0) qe5;obtain⟨T,x,hT⟩:=xx9 hL;have hr:RelL (qqo W qu4) [.slice (a0.map Proc.c),.agg a1.c,.agg a2.c,.slice (a3.map Pr.c),.slice (a4.map Txn.c),.slice (a5.map ka)] #[v0,v1,v2,v3,v4,v5]:=⟨rfl,λj x v hx hv=>by
  match j with
  | 0=>simp at hx hv;subst hx;subst hv;exact ra0
  | 1=>simp at hx hv;subst hx;subst hv;exact ra1
  | 2=>simp at hx hv;subst hx;subst hv;exact ra2
  | 3=>simp at hx hv;subst hx;subst hv;exact ra3
  | 4=>simp at hx hv;subst hx;subst hv;exact ra4
  | 5=>simp at hx hv;subst hx;subst hv;exact ra5
  |j+6=>simp at hx⟩
 refine(jdu hT xyy hr (jm0 (tT:=T) (tx:=x) (g:=0) a0 a1 a2 a3 a4 a5 [rn T x] rfl (jg2 ga0 ga4) (jcv ga3) (by have:=ga4.1;simp only[UB]at *;omega) (by have:=ga3.1;simp only[UB]at *;omega))).mono ?_;rintro e W' ⟨rfl,hb⟩;have hlt0:∀x∈p0,x.block<W.heap.size:=λx hx=>by simpa using hW'.lt x bu
 have hlt1:∀x∈p1,x.block<W.heap.size:=λx hx=>by simpa using hW'.lt x bu
 have qvn:∀x∈p2,x.block<W.heap.size:=λx hx=>by simpa using hW'.lt x bu
 have hlt3:∀x∈p3,x.block<W.heap.size:=λx hx=>by simpa using hW'.lt x bu
 have hlt4:∀x∈p4,x.block<W.heap.size:=λx hx=>by simpa using hW'.lt x bu
 have hlt5:∀x∈p5,x.block<W.heap.size:=λx hx=>by simpa using hW'.lt x bu
 refine⟨_,rfl,[d0,d1,d2,d3,d4,d5],[],_,[],_,[],hW',trodAll_cons_mk (shut_bool underlying4 _) trodAll_mk0,(trodAll_cons_mk (Below.trod laidOut ae (of_decide_eq_true ae) h0 hb hlt0) (trodAll_cons_mk (Below.trod laidOut ae (of_decide_eq_true ae) h1 hb hlt1) (trodAll_cons_mk (Below.trod laidOut ae (of_decide_eq_true ae) h2 hb qvn) (trodAll_cons_mk (Below.trod laidOut ae (of_decide_eq_true ae) h3 hb hlt3) (trodAll_cons_mk (Below.trod laidOut ae (of_decide_eq_true ae) h4 hb hlt4) (trodAll_cons_mk (Below.trod laidOut ae (of_decide_eq_true ae) h5 hb hlt5) trodAll_mk0)))))),rfl,hb.frame _,λh=>by cases h⟩
abbrev w0:Value:=.slice none 0 0
abbrev r0{H:Type}:DataW H:=.nil
abbrev w1:Value:=.agg #[.int .i64 0,.slice none 0 0]
abbrev r1{H:Type}:DataW H:=.agg [.lit (.int .i64 0),.nil]
abbrev w2:Value:=.agg #[.int .i64 0,.slice none 0 0]
abbrev r2{H:Type}:DataW H:=.agg [.lit (.int .i64 0),.nil]
abbrev w3:Value:=.slice none 0 0
abbrev r3{H:Type}:DataW H:=.nil
abbrev w4:Value:=.slice none 0 0
abbrev r4{H:Type}:DataW H:=.nil
abbrev w5:Value:=.slice none 0 0
abbrev r5{H:Type}:DataW H:=.nil
abbrev xcg:Array Value:=#[w0,w1,w2,w3,w4,w5]
theorem laid_met(os:Os):laidMet prog Rows.distMovesUptoRow.laid ((xkr os).forCall (λ_ _=>0) ⟨#[],xcg,[]⟩).memory:=laidMet_of_run' 8 ae ae
theorem reads(os:Os){H:Type}(enc:TypeId×Value->H):∃qqn,DataW.whole enc prog ((xkr os).forCall (λ_ _=>0) ⟨#[],xcg,[]⟩).memory Tryz.f9.params.toList Rows.distMovesSpec.vars false xcg.toList 8=some ([r0,r1,r2,r3,r4,r5],[],qqn):=⟨[],ae⟩
theorem lifted(os:Os)(started:os.Started)(H:Type)(enc:TypeId×Value->H)(F:Stop.Interp) :
  ReturnsInHanded {} Tryz.checked os 9 .any ((Rows.OpenSpec.upto Rows.distMovesSpec).preRow enc prog Tryz.f9 Rows.distMovesUptoRow.domain false Rows.distMovesUptoRow.laid) (((Rows.OpenSpec.upto Rows.distMovesSpec).at F).post enc prog Tryz.f9 false true false false):=by
 obtain⟨qqn,hx⟩:=reads os enc;refine returnsInHanded_of_row (C:=Tryz.checked) (s:=Rows.OpenSpec.upto Rows.distMovesSpec) jh1 started ae func9
  (witness_row_at (enc:=enc) (C:=Tryz.checked) false (xkr os) xcg rfl ae ae ae
   (OpenSpec.preRow_of_cond 8 hx ae (λk hk=>by cases hk;kernel_rfl) ae (laid_met os))) ?_
 intro W base args ds gs before nk hW _ qqc _ hL _ _;exact contract H enc W base args ds gs before nk hW (qqc _ rfl) hL
theorem named:Tryz.pinned.checked.prog.funcNamed Rows.distMovesUptoRow.func=some 9:=ae
theorem jhu:(Rows.distMovesUptoRow.inPlace == Tryz.pinned.checked.prog.inPlace 9)=true:=ae
theorem jfj:(Rows.distMovesUptoRow.unfollowed == Tryz.pinned.checked.prog.unfollowed 9)=true:=ae
theorem ja3:(Rows.distMovesUptoRow.recurses == Tryz.pinned.checked.prog.recurses 9)=true:=ae
theorem xvh:(Rows.distMovesUptoRow.named == Tryz.pinned.checked.prog.varsNamed 9)=true:=ae
theorem jgl:(Rows.distMovesUptoRow.lifted == Tryz.pinned.checked.prog.liftsFinal)=true:=ae
theorem ja6:namedTie Tryz.pinned.checked.prog Rows.distMovesUptoRow.named (Rows.OpenSpec.upto Rows.distMovesSpec).bare.vars=true:=ae
theorem jb5:joinedFacts Tryz.pinned.checked.prog 9 Tryz.f9 (Rows.OpenSpec.upto Rows.distMovesSpec).bare Rows.distMovesUptoRow=true:=by
 unfold joinedFacts;rw[jhu,jfj,ja3,xvh,jgl,ja6,jbq,jac,xza,xwc]
 kernel_rfl
theorem said:Rows.DistMovesUptoSaid :=
 OpenClaim.holds_of_cond 9 Tryz.f9 rfl rfl rfl rfl rfl rfl rfl ⟨rfl,rfl,rfl,rfl,rfl⟩ rfl rfl rfl rfl rfl named func9 jb5
  (of_decide_eq_true ae) (by unfold Func.isWrapper;first|(rw[if_pos (by decide +kernel)];kernel_rfl)|(rw[if_neg (by decide +kernel)];exact⟨rfl,rfl⟩))
  (λos started H enc _ F=>by rw[OpenClaim.pre_eq_preRow];exact lifted os started H enc F)
theorem plain(f:FuncId)(fn:Func)(hf:Tryz.pinned.checked.prog.funcNamed "clockwork/clockworklaw32.DistMoves" = some f)(hfn:Tryz.pinned.checked.prog.funcs[f]?=some fn) :
  true=Tryz.pinned.checked.prog.looks []/\∀(j:Nat) t,fn.params[j]?=some t->Tryz.pinned.checked.prog.wantsStandIn t=false:=by
 obtain rfl:f=9:=gy ((show prog.funcNamed "clockwork/clockworklaw32.DistMoves" = some 9 by kernel_rfl).symm.trans hf)|>.symm
 obtain rfl:fn=Tryz.f9:=(gy (func9.symm.trans hfn)).symm;refine⟨ae,λj t ht=>?_⟩;rw[params9]at ht;have hm:t=32\/t=24\/t=28\/t=33\/t=34:=by have:=Array.mem_of_getElem? ht;simpa using this
 rcases hm with rfl|rfl|rfl|rfl|rfl
 .exact(show prog.wantsStandIn 32=false by kernel_rfl)
 .exact(show prog.wantsStandIn 24=false by kernel_rfl)
 .exact(show prog.wantsStandIn 28=false by kernel_rfl)
 .exact(show prog.wantsStandIn 33=false by kernel_rfl)
 .exact(show prog.wantsStandIn 34=false by kernel_rfl)
theorem xo0:false=Rows.distMovesUptoRow.goesBy Tryz.pinned.checked.prog:=ae
theorem card:Rows.DistMovesUptoCardSaid :=
 Claim7.holds_tied_plain_at .later [] _ _ _ _ said (λ_ h=>by cases h) ae (λ_ h=>by cases h) distMovesUpto_row_tie rfl ⟨rfl,rfl⟩ ae rfl plain xo0
end Go.Proofs.YtolejdhnnchfpaaGreatDoor.distMoves
