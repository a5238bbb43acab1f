/- Partitioned execution gives the shards and effects of serial execution; for all arguments up to the bound of the second form. -/
import Derived.Test.YtolejdhnnchfpaaGreatDoorR18
set_option linter.all false
set_option maxRecDepth 100000
set_option maxHeartbeats 4000000
namespace Go.Proofs.YtolejdhnnchfpaaGreatDoor.distSerial
open Go Go.Abs Go.Cw Go.ChangeShapes Go.WideShapes Go.ChangeAt Go.RowKit Go.Proofs.Tryz
theorem contract(H:Type)(enc:TypeId×Value->H)(ae:World)(base:Nat)(args:Array Value)(ds gs:List (DataW H))(before:List MemPlace)
  (ug:∀(j:Nat) t v,Tryz.f5.params[j]?=some t->args[j]?=some v->Value.okWide prog ae .any base t v)
  (hW:DataW.Whole enc prog Tryz.f5.params.toList Rows.distSerialSpec.vars false ae args.toList ds gs before) (hk:Rows.uptoSmall H (ds++gs)=true) (hL:laidMetH prog GI ae) :
  Calls prog 5 args ae λe W'=>∃v,e=.returned v/\Rows.distSerialSpec.post enc prog Tryz.f5 false true false false ae args v W':=by
 have hW':=hW;obtain⟨p,q,hA0,hV,rfl,hfz,sP⟩:=hW;have hA:DataW.TrodAll enc prog ae 0 (λ_=>true) true Tryz.f5.params.toList args.toList ds p:=hA0;rw[params5]at hA ug;obtain⟨v0,vs0,d0,ds0,p0,q0,sF,rfl,rfl,L,r0⟩:=trodAll_cons hA;obtain⟨v1,vs1,d1,ds1,p1,q1,rfl,rfl,rfl,O,r1⟩:=trodAll_cons r0;obtain⟨v2,vs2,d2,ds2,p2,q2,rfl,rfl,rfl,U,r2⟩:=trodAll_cons r1;obtain⟨v3,vs3,d3,ds3,p3,q3,rfl,rfl,rfl,h3,r3⟩:=trodAll_cons r2;obtain⟨v4,vs4,d4,ds4,p4,q4,rfl,rfl,rfl,h4,r4⟩:=trodAll_cons r3;obtain⟨rfl,rfl,rfl⟩:=trodAll_nil r4;obtain rfl:args = #[v0,v1,v2,v3,v4]:=by cases args;simp_all
 obtain⟨rfl,rfl⟩:=trodVars_none hV;have hbk:Rows.uptoBulkAll [d0,d1,d2,d3,d4]<=UB:=l9 (by simpa[Rows.uptoSmall]using hk);obtain⟨a0,ra0,ga0⟩:=K3 underlying32 (ug 0 _ v0 rfl rfl) L (λn=>Wi) cv;obtain⟨a1,ra1,ga1⟩:=ZL underlying24 (ug 1 _ v1 rfl rfl) O (λn=>Vc) cv;obtain⟨a2,ra2,ga2⟩:=ZR (ug 2 _ v2 rfl rfl) U cv;obtain⟨a3,ra3,ga3⟩:=K3 underlying33 (ug 3 _ v3 rfl rfl) h3 (λn=>qrx) cv;obtain⟨a4,ra4,ga4⟩:=K3 underlying34 (ug 4 _ v4 rfl rfl) h4 (λn=>UJ) cv;obtain⟨T,x,hT⟩:=Ve hL;have G:RelL (sX ae Aq) [.slice (a0.map Proc.c),.agg a1.c,.slice (a2.map Shard.c),.slice (a3.map Txn.c),.slice (a4.map qe)] #[v0,v1,v2,v3,v4]:=⟨rfl,λj x v hx hv=>by
  match j with
  | 0=>simp at hx hv;subst hx;subst hv;exact ra0
  | 1=>simp at hx hv;subst hx;subst hv;exact ra1
  | 2=>simp at hx hv;subst hx;subst hv;exact ra2
  | 3=>simp at hx hv;subst hx;subst hv;exact ra3
  | 4=>simp at hx hv;subst hx;subst hv;exact ra4
  |j+5=>simp at hx⟩
 refine(UZ hT YB G (Yx (tT:=T) (tx:=x) (g:=0) a0 a1 a2 a3 a4 [fZ T x] rfl (Zq ga0 ga3) (TV ga2) (by have:=ga3.1;simp only[UB]at *;omega) (by have:=ga2.sum;simp only[UB]at *;omega))).mono ?_;rintro e W' ⟨rfl,hb⟩;have hlt0:∀x∈p0,x.block<ae.heap.size:=λx hx=>by simpa using hW'.lt x be
 have hlt1:∀x∈p1,x.block<ae.heap.size:=λx hx=>by simpa using hW'.lt x be
 have vT:∀x∈p2,x.block<ae.heap.size:=λx hx=>by simpa using hW'.lt x be
 have hlt3:∀x∈p3,x.block<ae.heap.size:=λx hx=>by simpa using hW'.lt x be
 have hlt4:∀x∈p4,x.block<ae.heap.size:=λx hx=>by simpa using hW'.lt x be
 refine⟨_,rfl,[d0,d1,d2,d3,d4],[],_,[],_,[],hW',trodAll_cons_mk (shut_bool underlying4 _) trodAll_mk0,(trodAll_cons_mk (Below.trod EM ah (l9 ah) L hb hlt0) (trodAll_cons_mk (Below.trod EM ah (l9 ah) O hb hlt1) (trodAll_cons_mk (Below.trod EM ah (l9 ah) U hb vT) (trodAll_cons_mk (Below.trod EM ah (l9 ah) h3 hb hlt3) (trodAll_cons_mk (Below.trod EM ah (l9 ah) h4 hb hlt4) trodAll_mk0))))),rfl,hb.frame _,λh=>by cases h⟩
abbrev w0:Value:=.slice none 0 0
abbrev r0{H:Type}:DataW H:=.nil
abbrev w1:Value:=.agg #[.int .i64 0,.slice none 0 0]
abbrev r1{H:Type}:DataW H:=.agg [.lit (.int .i64 0),.nil]
abbrev w2:Value:=.slice none 0 0
abbrev r2{H:Type}:DataW H:=.nil
abbrev w3:Value:=.slice none 0 0
abbrev r3{H:Type}:DataW H:=.nil
abbrev w4:Value:=.slice none 0 0
abbrev r4{H:Type}:DataW H:=.nil
abbrev FW:Array Value:=#[w0,w1,w2,w3,w4]
theorem laid_met(os:Os):laidMet prog Rows.distSerialUptoRow.laid ((IE os).forCall (λ_ _=>0) ⟨#[],FW,[]⟩).memory:=laidMet_of_run' 8 ah ah
theorem reads(os:Os){H:Type}(enc:TypeId×Value->H):∃sY,DataW.whole enc prog ((IE os).forCall (λ_ _=>0) ⟨#[],FW,[]⟩).memory Tryz.f5.params.toList Rows.distSerialSpec.vars false FW.toList 8=some ([r0,r1,r2,r3,r4],[],sY):=⟨[],ah⟩
theorem lifted(os:Os)(IL:os.Started)(H:Type)(enc:TypeId×Value->H)(F:Stop.Interp) :
  ReturnsInHanded {} Tryz.checked os 5 .any ((Rows.OpenSpec.upto Rows.distSerialSpec).preRow enc prog Tryz.f5 Rows.distSerialUptoRow.domain false Rows.distSerialUptoRow.laid) (((Rows.OpenSpec.upto Rows.distSerialSpec).at F).post enc prog Tryz.f5 false true false false):=by
 obtain⟨sY,hx⟩:=reads os enc;refine returnsInHanded_of_row (C:=Tryz.checked) (s:=Rows.OpenSpec.upto Rows.distSerialSpec) Ur IL ah func5
  (witness_row_at (enc:=enc) (C:=Tryz.checked) false (IE os) FW rfl ah ah ah
   (OpenSpec.preRow_of_cond 8 hx ah (λk hk=>by cases hk;kernel_rfl) ah (laid_met os))) ?_
 intro ae base args ds gs before ug hW _ pD _ hL _ _;exact contract H enc ae base args ds gs before ug hW (pD _ rfl) hL
theorem named:Tryz.pinned.checked.prog.funcNamed Rows.distSerialUptoRow.func=some 5:=ah
theorem qly:(Rows.distSerialUptoRow.inPlace == Tryz.pinned.checked.prog.inPlace 5)=true:=ah
theorem UK:(Rows.distSerialUptoRow.unfollowed == Tryz.pinned.checked.prog.unfollowed 5)=true:=ah
theorem qlr:(Rows.distSerialUptoRow.recurses == Tryz.pinned.checked.prog.recurses 5)=true:=ah
theorem qpu:(Rows.distSerialUptoRow.named == Tryz.pinned.checked.prog.varsNamed 5)=true:=ah
theorem SY:(Rows.distSerialUptoRow.lifted == Tryz.pinned.checked.prog.liftsFinal)=true:=ah
theorem qsl:namedTie Tryz.pinned.checked.prog Rows.distSerialUptoRow.named (Rows.OpenSpec.upto Rows.distSerialSpec).bare.vars=true:=ah
theorem Zh:joinedFacts Tryz.pinned.checked.prog 5 Tryz.f5 (Rows.OpenSpec.upto Rows.distSerialSpec).bare Rows.distSerialUptoRow=true:=by
 unfold joinedFacts;rw[qly,UK,qlr,qpu,SY,qsl,ZA,qsz,qor,Y8]
 kernel_rfl
theorem said:Rows.DistSerialUptoSaid :=
 OpenClaim.holds_of_cond 5 Tryz.f5 rfl rfl rfl rfl rfl rfl rfl ⟨rfl,rfl,rfl,rfl,rfl⟩ rfl rfl rfl rfl rfl named func5 Zh
  (l9 ah) (by unfold Func.isWrapper;first|(rw[gh (by decide +kernel)];kernel_rfl)|(rw[gg (by decide +kernel)];exact⟨rfl,rfl⟩))
  (λos IL H enc _ F=>by rw[OpenClaim.pre_eq_preRow];exact lifted os IL H enc F)
theorem plain(f:FuncId)(fn:Func)(hf:Tryz.pinned.checked.prog.funcNamed "clockwork/clockworklaw32.DistSerial" = some f)(hfn:Tryz.pinned.checked.prog.funcs[f]?=some fn) :
  true=Tryz.pinned.checked.prog.looks []/\∀(j:Nat) t,fn.params[j]?=some t->Tryz.pinned.checked.prog.wantsStandIn t=false:=by
 obtain rfl:f=5:=qiy ((show prog.funcNamed "clockwork/clockworklaw32.DistSerial" = some 5 by kernel_rfl).symm.trans hf)|>.symm
 obtain rfl:fn=Tryz.f5:=(qiy (func5.symm.trans hfn)).symm;refine⟨ah,λj t ht=>?_⟩;rw[params5]at ht;have hm:t=32\/t=24\/t=25\/t=33\/t=34:=by simpa using Array.mem_of_getElem? ht
 rcases hm with rfl|rfl|rfl|rfl|rfl
 .exact(show prog.wantsStandIn 32=false by kernel_rfl)
 .exact(show prog.wantsStandIn 24=false by kernel_rfl)
 .exact(show prog.wantsStandIn 25=false by kernel_rfl)
 .exact(show prog.wantsStandIn 33=false by kernel_rfl)
 exact(show prog.wantsStandIn 34=false by kernel_rfl)
theorem qrv:false=Rows.distSerialUptoRow.goesBy Tryz.pinned.checked.prog:=ah
theorem card:Rows.DistSerialUptoCardSaid :=
 Claim7.holds_tied_plain_at .later [] _ _ _ _ said (λ_ h=>by cases h) ah (λ_ h=>by cases h) distSerialUpto_row_tie rfl ⟨rfl,rfl⟩ ah rfl plain qrv
