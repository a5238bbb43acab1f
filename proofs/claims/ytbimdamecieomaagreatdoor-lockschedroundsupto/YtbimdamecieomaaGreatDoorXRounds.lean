/- Round returns the state, the effects and the order that the reference specifies, for all transactions and choices, for all arguments up to the given size. -/
import Derived.Test.YtbimdamecieomaaGreatDoorR48
set_option linter.all false
set_option maxRecDepth 100000
namespace Go.Proofs.YtbimdamecieomaaGreatDoor.lockschedRounds
open Go Go.Abs Go.Cw Go.ChangeShapes Go.WideShapes Go.ChangeAt Go.RowKit Go.Proofs.Tryz
theorem contract(H:Type)(enc:TypeId×Value→H)(W:World)(base:Nat)(args:Array Value)(ds gs:List (DataW H))(before:List MemPlace)
  (zm:∀(j:Nat) t v,Tryz.f3.params[j]?=some t→args[j]?=some v→Value.okWide prog W .any base t v)
  (hW:DataW.Whole enc prog Tryz.f3.params.toList Rows.lockschedRoundsSpec.vars false W args.toList ds gs before) (hk:Rows.uptoSmall H (ds++gs)=true) (hL:laidMetH prog xen W) :
  Calls prog 3 args W fun e W'=>∃v,e=.returned v∧Rows.lockschedRoundsSpec.post enc prog Tryz.f3 false true false false W args v W':=by
 have hW':=hW;obtain⟨p,q,hA0,hV,rfl,hfz,hnd⟩:=hW;have hA:DataW.TrodAll enc prog W 0 (fun _=>true) true Tryz.f3.params.toList args.toList ds p:=hA0;rw[params3]at hA zm;obtain⟨v0,vs0,d0,ds0,p0,q0,qrh,rfl,rfl,h0,r0⟩:=trodAll_cons hA;obtain⟨v1,vs1,d1,ds1,p1,q1,rfl,rfl,rfl,h1,r1⟩:=trodAll_cons r0;obtain⟨rfl,rfl,rfl⟩:=trodAll_nil r1;obtain rfl:args = #[v0,v1]:=by cases args;simp_all
 obtain⟨rfl,rfl⟩:=trodVars_none hV;have hbk:Rows.uptoBulkAll [d0,d1]≤UB:=of_decide_eq_true (by simpa[Rows.uptoSmall]using hk);obtain⟨a0,ra0,ga0⟩:=jdd underlying26 (zm 0 _ v0 rfl rfl) h0 (fun n=>xx1) qk0;obtain⟨a1,ra1,ga1⟩:=je1 underlying27 (zm 1 _ v1 rfl rfl) h1 (fun n=>jfp) qk0;obtain⟨T,x,hT⟩:=jkq hL;have hr:RelL (qte W qyv) [.agg (xto a0),.slice (a1.map iw)] #[v0,v1]:=⟨rfl,fun j x v hx hv=>by
  match j with
  | 0=>simp at hx hv;subst hx;subst hv;exact ra0
  | 1=>simp at hx hv;subst hx;subst hv;exact ra1
  |j+2=>simp at hx⟩
 refine(jce hT jb4 hr (jot (tT:=T) (tx:=x) (g:=0) a0.1 a0.2.1 a0.2.2 a1 [uu T x] rfl (jg2 ga0.1 ga0.2.2) (jgc ga0.2.1) (by have:=ga0.2.1.1;have:=ga0.2.2.1;simp only[UB]at *;omega) (by have:=ga0.2.2.1;simp only[UB]at *;omega))).mono ?_;rintro e W' ⟨rfl,hb⟩;have hlt0:∀x∈p0,x.block<W.heap.size:=fun x hx=>by simpa using hW'.lt x bt
 have tg:∀x∈p1,x.block<W.heap.size:=fun x hx=>by simpa using hW'.lt x bt
 refine⟨_,rfl,[d0,d1],[],_,[],_,[],hW',trodAll_cons_mk (shut_bool underlying4 _) trodAll_mk0,(trodAll_cons_mk (Below.trod laidOut ac (of_decide_eq_true ac) h0 hb hlt0) (trodAll_cons_mk (Below.trod laidOut ac (of_decide_eq_true ac) h1 hb tg) trodAll_mk0)),rfl,hb.frame _,fun h=>by cases h⟩
abbrev w0:Value:=.agg #[.slice none 0 0,.slice none 0 0,.slice none 0 0]
abbrev r0{H:Type}:DataW H:=.agg [.nil,.nil,.nil]
abbrev w1:Value:=.slice none 0 0
abbrev r1{H:Type}:DataW H:=.nil
abbrev xfs:Array Value:=#[w0,w1]
theorem laid_met(os:Os):laidMet prog Rows.lockschedRoundsUptoRow.laid ((xi6 os).forCall (fun _ _=>0) ⟨#[],xfs,[]⟩).memory:=laidMet_of_run' 8 ac ac
theorem reads(os:Os){H:Type}(enc:TypeId×Value→H):∃qrf,DataW.whole enc prog ((xi6 os).forCall (fun _ _=>0) ⟨#[],xfs,[]⟩).memory Tryz.f3.params.toList Rows.lockschedRoundsSpec.vars false xfs.toList 8=some ([r0,r1],[],qrf):=⟨[],ac⟩
theorem lifted(os:Os)(started:os.Started)(H:Type)(enc:TypeId×Value→H)(F:Stop.Interp) :
  ReturnsInHanded {} Tryz.checked os 3 .any ((Rows.OpenSpec.upto Rows.lockschedRoundsSpec).preRow enc prog Tryz.f3 Rows.lockschedRoundsUptoRow.domain false Rows.lockschedRoundsUptoRow.laid) (((Rows.OpenSpec.upto Rows.lockschedRoundsSpec).at F).post enc prog Tryz.f3 false true false false):=by
 obtain⟨qrf,hx⟩:=reads os enc;refine returnsInHanded_of_row (C:=Tryz.checked) (s:=Rows.OpenSpec.upto Rows.lockschedRoundsSpec) jfc started ac func3
  (witness_row_at (enc:=enc) (C:=Tryz.checked) false (xi6 os) xfs rfl ac ac ac
   (OpenSpec.preRow_of_cond 8 hx ac (fun k hk=>by cases hk;kernel_rfl) ac (laid_met os))) ?_
 intro W base args ds gs before zm hW _ qqt _ hL _ _;exact contract H enc W base args ds gs before zm hW (qqt _ rfl) hL
theorem named:Tryz.pinned.checked.prog.funcNamed Rows.lockschedRoundsUptoRow.func=some 3:=ac
theorem xxq:(Rows.lockschedRoundsUptoRow.inPlace == Tryz.pinned.checked.prog.inPlace 3)=true:=ac
theorem jf0:(Rows.lockschedRoundsUptoRow.unfollowed == Tryz.pinned.checked.prog.unfollowed 3)=true:=ac
theorem jmt:(Rows.lockschedRoundsUptoRow.recurses == Tryz.pinned.checked.prog.recurses 3)=true:=ac
theorem xxr:(Rows.lockschedRoundsUptoRow.named == Tryz.pinned.checked.prog.varsNamed 3)=true:=ac
theorem jka:(Rows.lockschedRoundsUptoRow.lifted == Tryz.pinned.checked.prog.liftsFinal)=true:=ac
theorem jmn:namedTie Tryz.pinned.checked.prog Rows.lockschedRoundsUptoRow.named (Rows.OpenSpec.upto Rows.lockschedRoundsSpec).bare.vars=true:=ac
theorem jfi:joinedFacts Tryz.pinned.checked.prog 3 Tryz.f3 (Rows.OpenSpec.upto Rows.lockschedRoundsSpec).bare Rows.lockschedRoundsUptoRow=true:=by
 unfold joinedFacts;rw[xxq,jf0,jmt,xxr,jka,jmn,jcg,jaf,jnf,jbe]
 kernel_rfl
theorem said:Rows.LockschedRoundsUptoSaid :=
 OpenClaim.holds_of_cond 3 Tryz.f3 rfl rfl rfl rfl rfl rfl rfl ⟨rfl,rfl,rfl,rfl,rfl⟩ rfl rfl rfl rfl rfl named func3 jfi
  (of_decide_eq_true ac) (by unfold Func.isWrapper;first|(rw[if_pos (by decide +kernel)];kernel_rfl)|(rw[if_neg (by decide +kernel)];exact⟨rfl,rfl⟩))
  (fun os started H enc _ F=>by rw[OpenClaim.pre_eq_preRow];exact lifted os started H enc F)
theorem plain(f:FuncId)(fn:Func)(hf:Tryz.pinned.checked.prog.funcNamed "clockwork/clockworklaw24.LockschedRounds" = some f)(hfn:Tryz.pinned.checked.prog.funcs[f]?=some fn) :
  true=Tryz.pinned.checked.prog.looks []∧∀(j:Nat) t,fn.params[j]?=some t→Tryz.pinned.checked.prog.wantsStandIn t=false:=by
 obtain rfl:f=3:=gh ((show prog.funcNamed "clockwork/clockworklaw24.LockschedRounds" = some 3 by kernel_rfl).symm.trans hf)|>.symm
 obtain rfl:fn=Tryz.f3:=(gh (func3.symm.trans hfn)).symm;refine⟨ac,fun j t ht=>?_⟩;rw[params3]at ht;have hm:t=26∨t=27:=by simpa using Array.mem_of_getElem? ht
 rcases hm with rfl|rfl
 ·exact(show prog.wantsStandIn 26=false by kernel_rfl)
 ·exact(show prog.wantsStandIn 27=false by kernel_rfl)
theorem xnl:false=Rows.lockschedRoundsUptoRow.goesBy Tryz.pinned.checked.prog:=ac
theorem card:Rows.LockschedRoundsUptoCardSaid :=
 Claim7.holds_tied_plain_at .later [] _ _ _ _ said (fun _ h=>by cases h) ac (fun _ h=>by cases h) lockschedRoundsUpto_row_tie rfl ⟨rfl,rfl⟩ ac rfl plain xnl
end Go.Proofs.YtbimdamecieomaaGreatDoor.lockschedRounds
