/- Part 38 of a proof: W31, W134, W135, W136, W137 -/
import Derived.Shelf.Small.Strs
import Derived.Shelf.Strconv.Itoa4
import Derived.Lib.ItoaLen
import Derived.Test.YtilhejdbiionhaaGreatDoorV13
import Derived.Test.YtilhejdbiionhaaGreatDoorV14
import Derived.Test.YtilhejdbiionhaaGreatDoorV16
import Derived.Test.YtilhejdbiionhaaGreatDoorV17
import Derived.Test.YtilhejdbiionhaaGreatDoorV18
import Derived.Test.YtilhejdbiionhaaGreatDoorV19
import Derived.Test.YtilhejdbiionhaaGreatDoorV22
import Derived.Test.YtilhejdbiionhaaGreatDoorV23
import Derived.Test.YtilhejdbiionhaaGreatDoorV24
import Derived.Test.YtilhejdbiionhaaGreatDoorV25
import Derived.Test.YtilhejdbiionhaaGreatDoorV26
import Derived.Test.YtilhejdbiionhaaGreatDoorV27
import Derived.Test.YtilhejdbiionhaaGreatDoorV30
import Derived.Test.YtilhejdbiionhaaGreatDoorV37
set_option linter.all false

set_option maxRecDepth 8000
set_option maxHeartbeats 2000000
namespace Go.Proofs.YtilhejdbiionhaaGreatDoor
open Go Go.Abs Go.Cw
def bk:qac:=⟨#[107]⟩
def bn:qac:=⟨#[110]⟩
def bx:qac:=⟨#[120]⟩
def bX:qac:=⟨#[88]⟩
def addP:Proc:=⟨⟨#[97,100,100]⟩,[⟨bk,2⟩,⟨bn,1⟩],[.mk 3 em 0 (.mk 3 0 bk []) (.mk 4 0 em [.mk 22 0 em [.mk 3 0 bk []],.mk 3 0 bn []]) [] []]⟩
theorem at_tab {tT:TypeId} {tx:Nat×Nat} {g:Nat} {f:FuncId} {args:List AV} {r:AV} {h:qab} (H:∀ h,h[g]?=some (tabO tT tx)→ACalls Tryz.prog f args h fun e h'=>e=.ret r∧h'=h) (hg:h[g]?=some (tabO tT tx)):APureAt Tryz.prog f args r h:=fun h' hs=>H h' (hs g _ rfl hg)
def exSt:List Pr:=[⟨bx,vI 5⟩]
theorem ok_digit (k:Nat) (h:k<10):okB (UInt8.ofNat (48+k))=true:=by
 have:∀ k:Fin 10,okB (UInt8.ofNat (48+k.val))=true:=by decide
 exact this ⟨k,h⟩
theorem ok_digits:∀ (u:Nat),∀ b∈Lib.decDigits u,okB b=true:=by
 intro u
 induction u using Nat.strongRecOn with
 | ind u ih =>
  intro b hb;rw [Lib.decDigits] at hb;split at hb
  ·
   rename_i h;simp only [List.mem_singleton] at hb;subst hb;exact ok_digit _ h
  ·
   rename_i h;rw [List.mem_append] at hb;rcases hb with hb | hb
   · exact ih (u / 10) (by omega) b hb
   ·
    simp only [List.mem_singleton] at hb;subst hb;exact ok_digit _ (Nat.mod_lt _ (by decide))
theorem qch (n:Int) (hn:i64 n):qb1 (qbo n)=true:=by
 have hl:=Lib.itoa_length_le n hn.1 hn.2;unfold qb1;rw [Bool.and_eq_true,decide_eq_true_eq,allL_iff];refine ⟨fun b hb=>?_,?_⟩
 ·
  have hb:b∈Lib.itoa n:=by simpa [bl,qbo] using hb
  unfold Lib.itoa at hb;split at hb
  ·
   rcases List.mem_cons.1 hb with rfl | hb
   · decide
   · exact ok_digits _ b hb
  · exact ok_digits _ b hb
 ·
  show (((Lib.itoa n).toArray.size:Nat):Int)≤64;rw [List.size_toArray];omega
section
variable {tT:TypeId} {tx:Nat×Nat} {g:Nat}
end
end Go.Proofs.YtilhejdbiionhaaGreatDoor

set_option maxRecDepth 4000
set_option maxHeartbeats 2000000
namespace Go.Proofs.YtilhejdbiionhaaGreatDoor
open Go Go.Abs Go.Cw
variable {tT:TypeId} {tx:Nat×Nat} {g p ir iw:Nat} {K:XS→qab} {n0:Nat}
abbrev PHs (tT:TypeId) (tx:Nat×Nat) (g p ir iw:Nat) (K:XS→qab) (n0:Nat):Prop:=PH (tabO tT tx) g p ir iw K n0
theorem c_pr_key (Y:PHs tT tx g p ir iw K n0) (wr:Bool) (a:AX) (x:XS) :
  ACalls Tryz.prog 106 [.ptr p 0,.agg [Bo a.known,I a.v.k,I a.v.n,S a.v.s],.mapr (if wr then iw else ir)] (K x) fun r h'=>r=.ret (Bo (keyX wr a x).1)∧h'=K (keyX wr a x).2:=by
 refine qaq Tryz.func106 Tryz.ntmps106 rfl (by kernel_rfl) rfl fun E hN hh hu hb hb' hua=>?_;simp -dsimp [go_sem,hN,Y.len,Y.loc0];refine cnd ?_ ?_<;>intro h0<;>simp at h0
 ·
  simp -dsimp [go_sem,hN,Y.len,Y.loc0,Y.lp',Y.sp'];rw [show keyX wr a x=(false,⟨x.r,x.w,true⟩) by simp [keyX,h0]];exact ⟨_,.refl _,K ⟨x.r,x.w,true⟩,by simp [go_sem],by first | exact hwk.refl _ | exact hwk.app0 _ | simp [hwk.refl],by simp [Y.len],Y.und' _,by first | rfl | simp,by first | rfl | simp [MS.q]⟩
 simp -dsimp [go_sem,hN,Y.len,Y.loc0];refine qaa (c_keys_Valid a.v.s) ?_;simp -dsimp [go_sem,hN,Y.len,Y.loc0];refine cnd ?_ ?_<;>intro h1<;>simp at h1
 ·
  simp -dsimp [go_sem,hN,Y.len,Y.loc0];rw [show keyX wr a x=(false,x) by simp [keyX,h0,h1]];exact ⟨_,.refl _,K x,by simp [go_sem],by first | exact hwk.refl _ | exact hwk.app0 _ | simp [hwk.refl],by simp [Y.len],Y.und' _,by first | rfl | simp,by first | rfl | simp [MS.q]⟩
 cases wr
 ·
  simp -dsimp [go_sem,hN,Y.len,Y.loc0,Y.lr',Y.sr'];rw [show (AObj.map (qbv (kvSet (x.r.map ((fun p:qac×Bool=>(p.1,boAV p.2))∘fun s=>(s,true))) a.v.s (.val (.bool true)))))=setO (addS x.r a.v.s) from by rw [← List.map_map];exact congrArg _ (kvSet_bo x.r a.v.s),Y.sr'];rw [show keyX false a x=(true,⟨addS x.r a.v.s,x.w,x.f⟩) by simp [keyX,h0,h1]];exact ⟨_,.refl _,K ⟨addS x.r a.v.s,x.w,x.f⟩,by simp [go_sem],by first | exact hwk.refl _ | exact hwk.app0 _ | simp [hwk.refl],by simp [Y.len],Y.und' _,by first | rfl | simp,by first | rfl | simp [MS.q]⟩
 ·
  simp -dsimp [go_sem,hN,Y.len,Y.loc0,Y.lw',Y.sw'];rw [show (AObj.map (qbv (kvSet (x.w.map ((fun p:qac×Bool=>(p.1,boAV p.2))∘fun s=>(s,true))) a.v.s (.val (.bool true)))))=setO (addS x.w a.v.s) from by rw [← List.map_map];exact congrArg _ (kvSet_bo x.w a.v.s),Y.sw'];rw [show keyX true a x=(true,⟨x.r,addS x.w a.v.s,x.f⟩) by simp [keyX,h0,h1]];exact ⟨_,.refl _,K ⟨x.r,addS x.w a.v.s,x.f⟩,by simp [go_sem],by first | exact hwk.refl _ | exact hwk.app0 _ | simp [hwk.refl],by simp [Y.len],Y.und' _,by first | rfl | simp,by first | rfl | simp [MS.q]⟩
attribute [local go_sem] AX.c
theorem c_pr_apply (op:Int) (l:List AX) (hl:l.length≤2) (hr:∀ a∈l,rngV a.v) (h:qab) (hg:h[g]?=some (tabO tT tx)) :
  ACalls Tryz.prog 154 [I op,.slice (l.map AX.c)] h fun r h'=>r=.ret (.tuple [.agg (apS qbo op (l.map (·.v))).1.c,Bo (apS qbo op (l.map (·.v))).2])∧h'=h:=by
 refine qaq Tryz.func154 Tryz.ntmps154 rfl (by kernel_rfl) rfl fun E hN hh hu hb hb' hua=>?_;simp [go_sem] at hb;simp -dsimp [go_sem,hN];refine qao l.length (fun _=>True) (fun n=>⟨[(4,.ptr h.length 0),(6,.slice [[S ⟨#[97]⟩],[S ⟨#[98]⟩]]),(7,.ptr (h.length+1) 0),(8,.own (h.length+3) n),(16,.slice (l.map AX.c)),(17,I l.length),(18,I n)],h++[.cells [Bo false,I 0,I 0,S em],.cells [I op,I 0,S em,.own (h.length+2) n],.arr 59 4 ((qc6 n).map Ex.c),.arr 56 4 (((qcq (l.map (·.v))).take n).map Pr.c)]⟩) trivial ((nilc_wk E _ (p:=h.length+1) (j:=3) (t:=59) (sz:=4) (xs:=[I op,I 0,S em,.nils]) (by simp) rfl).trans ((nil_wk E _ 8 56 4 (by simp [go_sem])).trans ?_)) ?_
 ·
  simp [show qc6 0=[] from rfl];exact wkA
 have hle:=appVars_len hl;have hal:(qc6 l.length).length=l.length:=by simp [qc6,abL];omega
 intro n hn _;have hw:=qa3 hn (by omega);simp -dsimp [go_sem,hN];refine cnd ?_ ?_<;>intro hc<;>simp at hc
 ·
  simp -dsimp [go_sem,hN,hc];refine qak 8 mixed (by kernel_rfl) (by kernel_rfl) ?_;have hn2:n=0∨n=1:=by omega
  rcases hn2 with rfl | rfl
  ·
   have t1:List.take 1 (List.map Pr.c (qcq (List.map (fun x=>x.v) l)))=[(⟨⟨#[97]⟩,l[0].v⟩:Pr).c]:=by rw [← List.map_take,appVars1 hc];rfl
   simp -dsimp [go_sem,hN,hc,appArgs0];refine qak 9 mixed (by kernel_rfl) (by kernel_rfl) ?_;simp -dsimp [go_sem,hN,hc];simp only [Nat.zero_add,appArgs1];exact Wk.mk (by simp [hh]) (by simp [go_sem,varEx,Ex.c,Ex.cl,Ex.op,Ex.n,Ex.s,Ex.args,Pr.c,t1]) (by simp [hu,qal hu,go_sem]) (by simp [go_sem])
  ·
   have t1:List.take 1 (List.map Pr.c (qcq (List.map (fun x=>x.v) l)))=[(⟨⟨#[97]⟩,l[0].v⟩:Pr).c]:=by rw [← List.map_take,appVars1 (Nat.lt_trans Nat.zero_lt_one hc)];rfl
   have t2:List.take 2 (List.map Pr.c (qcq (List.map (fun x=>x.v) l)))=[(⟨⟨#[97]⟩,l[0].v⟩:Pr).c,(⟨⟨#[98]⟩,l[1].v⟩:Pr).c]:=by rw [← List.map_take,appVars2 hc];rfl
   simp -dsimp [go_sem,hN,hc,appArgs1];refine qak 9 mixed (by kernel_rfl) (by kernel_rfl) ?_;simp -dsimp [go_sem,hN,hc,t1];simp only [appArgs2];exact Wk.mk (by simp [hh]) (by simp [go_sem,varEx,Ex.c,Ex.cl,Ex.op,Ex.n,Ex.s,Ex.args,Pr.c,t2]) (by simp [hu,qal hu,go_sem]) (by simp [go_sem])
 ·
  have hnl:n=l.length:=by omega
  subst hnl;rw [List.take_of_length_le (by omega)];simp -dsimp [go_sem,hN,hle,hal];have hI:=apIn (fmt:=qbo) (op:=op) (vs:=l.map (·.v)) qch (fun v hv=>by
   obtain ⟨a,ha,rfl⟩:=List.mem_map.1 hv;exact hr a ha)
  simp only [List.length_map] at hI;have hcall:=c_interp_Eval (g:=g) (tT:=tT) (tx:=tx) (.mk op 0 em (qc6 l.length)) (qcq (l.map (·.v))) [] ⟨false,[],[]⟩ (h++[AObj.cells [Bo false,I 0,I 0,S em],AObj.cells [I op,I 0,S em,AV.own (h.length+2) l.length],AObj.arr 59 4 ((qc6 l.length).map Ex.c),AObj.arr 56 4 ((qcq (l.map (·.v))).map Pr.c)]) (by rw [List.getElem?_append_left (List.getElem?_eq_some_iff.1 hg).1];exact hg) hI
  have hap:apE qbo op (l.map (·.v))=evalS qbo (.mk op 0 em (qc6 l.length)) (qcq (l.map (·.v))) [] ⟨false,[],[]⟩:=by simp [apE]
  rw [← hap] at hcall;unfold apS;obtain ⟨⟨v,ef⟩,hR⟩:∃ R,apE qbo op (l.map (·.v))=R:=⟨_,rfl⟩
  rw [hR] at hcall ⊢;refine qaj (by simpa [go_sem,Foot.c,List.take_of_length_le,hle,Ex.op,Ex.n,Ex.s,Ex.args] using hcall) ?_;rintro r h' ⟨rfl,rfl⟩;simp -dsimp [go_sem,hN];refine awp_drawG 7 mixed (by kernel_rfl) ?_;simp -dsimp [go_sem,hN];refine ⟨by simp [sepD,List.zipIdx]<;>kernel_rfl,?_⟩;exact ⟨_,.refl _,h,by simp [go_sem],hwk.app0 _,Nat.le_refl _,hu,by simp [kn],rfl⟩
end Go.Proofs.YtilhejdbiionhaaGreatDoor

set_option maxRecDepth 4000
set_option maxHeartbeats 4000000
namespace Go.Proofs.YtilhejdbiionhaaGreatDoor
open Go Go.Abs Go.Cw
attribute [local go_sem] AX.c
variable {tT:TypeId} {tx:Nat×Nat} {g p ir iw:Nat}
theorem c_pr_eval (e:Ex) {K:XS→qab} {n0:Nat} (Y:PHs tT tx g p ir iw K n0) (x:XS) {i:Nat} {f:MV} {l:List (qac×AX)} (hV:VM K i f l) (hi:i<n0) (hX:rngX e) (hF:rngF f) {d:Nat} (hA:chkE e d=0) :
  ACalls Tryz.prog 104 [.ptr p 0,.agg e.x,.mapr i] (K x) fun r h'=>r=.ret (.tuple [.agg (exE qbo e f x).1.1.c,Bo (exE qbo e f x).1.2])∧h'=K (exE qbo e f x).2:=by
 refine qaq Tryz.func104 Tryz.ntmps104 rfl (by kernel_rfl) rfl fun E hN hh hu hb hb' hua=>?_;have hX':=(rngX_iff _).1 hX;have hA':=chkE_ar hA;have hp:=Y.hp;have hr:=Y.hr;have hw:=Y.hw;have hlm:∀ q L,(K q++L)[i]?=some (.map (kAV qcu l)):=fun q L=>by rw [Y.gl hi,hV.lm]
 simp [go_sem] at hb;rw [exE_eq];simp -dsimp [go_sem,hN,Y.len,Y.loc,Y.loc0];refine cnd ?_ ?_<;>intro h1<;>simp at h1
 ·
  simp -dsimp [go_sem,hN,Y.len,Y.loc,Y.loc0,Y.sloc,Y.sloc0];rw [if_pos h1];exact ⟨_,.refl _,K x,by simp [go_sem],by first | exact hwk.refl _ | exact hwk.app0 _ | simp [hwk.refl],by simp [Y.len],Y.und' _,by first | rfl | simp,by first | rfl | simp [MS.q]⟩
 rw [if_neg h1];simp -dsimp [go_sem,hN,Y.len,Y.loc,Y.loc0];refine cnd ?_ ?_<;>intro h2<;>simp at h2
 ·
  simp -dsimp [go_sem,hN,Y.len,Y.loc,Y.loc0,Y.sloc,Y.sloc0];rw [if_pos h2];exact ⟨_,.refl _,K x,by simp [go_sem],by first | exact hwk.refl _ | exact hwk.app0 _ | simp [hwk.refl],by simp [Y.len],Y.und' _,by first | rfl | simp,by first | rfl | simp [MS.q]⟩
 rw [if_neg h2];simp -dsimp [go_sem,hN,Y.len,Y.loc,Y.loc0];refine cnd ?_ ?_<;>intro h3<;>simp at h3
 ·
  rw [if_pos h3];obtain ⟨w,hw'⟩:∃ w,(f e.s).getD unk=w:=⟨_,rfl⟩
  have hk2:(Option.map qcu (qbm l e.s)).getD (.agg [Bo false,I 0,I 0,S ⟨#[]⟩])=.agg [Bo w.known,I w.v.k,I w.v.n,S w.v.s]:=by
   rw [hV.get,← hw'];cases f e.s<;>rfl
  rw [hw'];simp -dsimp [go_sem,hN,Y.len,Y.loc,Y.loc0,Y.sloc,Y.sloc0,hlm,hk2];exact ⟨_,.refl _,K x,by simp [go_sem],by first | exact hwk.refl _ | exact hwk.app0 _ | simp [hwk.refl],by simp [Y.len],Y.und' _,by first | rfl | simp,by first | rfl | simp [MS.q]⟩
 rw [if_neg h3];simp -dsimp [go_sem,hN,Y.len,Y.loc,Y.loc0];refine qat (α:=List AX×XS) e.args.length (fun n a=>a.1.length=n∧(∀ v∈a.1,rngV v.v) ∧
   exL qbo e.args f x=match exL qbo (e.args.drop n) f a.2 with
    | (none,m')=>(none,m')
    | (some r,m')=>(some (a.1++r),m'))
  (fun n a=>⟨[(0,.ptr p 0),(2,.mapr i),(4,.ptr n0 0),(6,.ptr (n0+1) 0),(8,.own (n0+2) a.1.length),(9,Bo (a.1.all (·.known))),(35,.slice (e.args.map Ex.c)),(36,I e.args.length),(37,I n)],K a.2++[.cells e.x,.cells [Bo false,I 0,I 0,S em],.arr 75 4 (a.1.map AX.c)]⟩)
  ([],x) ⟨rfl,by simp,?_⟩ ((nil_wk E _ 8 75 4 (by simp [go_sem])).trans ?_) ?_
 ·
  simp;rcases exL qbo e.args f x with ⟨_ | r,m'⟩<;>rfl
 ·
  simp [Y.len];exact (Wk.mk (by simp [hh,Y.len]) (by simp [go_sem]) (by simp [Y.und,Y.undA,Y.len,go_sem]) (by simp [go_sem,Y.len]<;>omega))
 rintro n ⟨acc,s'⟩ hn' ⟨hal,hav,hI⟩;dsimp only at hal hav hI;have hws:=qa3 hn' hb.2.1;simp -dsimp [go_sem,hN];refine cnd ?_ ?_<;>intro hc<;>simp at hc
 ·
  rw [qae hc] at hI;rw [exL] at hI;have hlt:SizeOf.sizeOf e.args[n]<SizeOf.sizeOf e:=Ex.arg_lt (List.getElem_mem hc);simp -dsimp [go_sem,hN,hc];have Y4:=Y.ext [AObj.cells e.x,.cells [Bo false,I 0,I 0,S em],.arr 75 4 (acc.map AX.c),.cells e.args[n].x] (by simp [hUnder,AObj.under,AV.under,qam]);refine qaj (c_pr_eval e.args[n] Y4 s' (i:=i) (f:=f) (l:=l) ⟨fun q=>hlm q _,hV.nod,hV.get⟩ (by simp;omega) (hX'.2 _ (List.getElem_mem hc)) hF (hA'.2 _ (List.getElem_mem hc))) ?_;rintro r h' ⟨rfl,rfl⟩;have hok:=exE_rng (fmt:=qbo) qch e.args[n] f s' (hX'.2 _ (List.getElem_mem hc)) hF;rcases hE:exE qbo e.args[n] f s' with ⟨⟨w,_ | _⟩,s2⟩
  ·
   rw [hE] at hI;simp only at hI;simp -dsimp [go_sem,hN,Y.len,Y.loc,Y.loc0,Y.sloc,Y.sloc0];rw [hI];exact ⟨_,.refl _,K s2,by simp [go_sem],by first | exact hwk.refl _ | exact hwk.app0 _ | simp [hwk.refl],by simp [Y.len],Y.und' _,by first | rfl | simp,by first | rfl | simp [MS.q]⟩
  ·
   rw [hE] at hI hok;simp only at hI hok;simp -dsimp [go_sem,hN,Y.len,Y.loc,Y.loc0,Y.sloc,Y.sloc0,hws];refine ⟨by have:=hb.2.1;omega,hc,acc++[w],s2,⟨by simp [hal],?_,?_⟩,(Wk.mk (by simp [hh,Y.len]) (by simp [go_sem]) (by simp [Y.und,Y.undA,Y.len,go_sem]) (by simp [go_sem,Y.len]<;>omega))⟩
   ·
    intro v hv;rcases List.mem_append.1 hv with hv | hv
    · exact hav v hv
    · simp at hv;subst hv;exact hok
   ·
    rw [hI];rcases exL qbo (e.args.drop (n+1)) f s2 with ⟨_ | r,m'⟩<;>simp
 ·
  rw [List.drop_eq_nil_of_le (by omega),exL] at hI;simp only [List.append_nil] at hI;rw [hI];obtain ⟨R,hR⟩:∃ R,(if e.op=22∨e.op=23∨e.op=24 then ((unk,(keyX false (acc.headD unk) s').1),(keyX false (acc.headD unk) s').2) else if acc.all (·.known)=false then ((unk,true),s') else (apS qbo e.op (acc.map (·.v)),s'))=R:=⟨_,rfl⟩
  simp only [hR];have hln:acc.length=e.args.length:=by omega
  have hlen2:acc.length≤2:=by have:=hA'.1;have:=arity_le e.op;omega
  simp -dsimp [go_sem,hN,Y.len,Y.loc,Y.loc0];refine cnd ?_ ?_<;>intro h4<;>simp at h4
  ·
   have hop:e.op=22∨e.op=23∨e.op=24:=by omega
   have har:=arity_get hop;obtain ⟨a,rfl⟩:∃ a,acc=[a]:=by
    match acc,hln with
    | [a],_=>exact ⟨a,rfl⟩
    | [],h4=>simp at h4;omega
    | _::_::_,h4=>simp at h4;omega
   have hkey:=by simpa using c_pr_key (Y.ext [AObj.cells e.x,.cells [Bo false,I 0,I 0,S em],.arr 75 4 [a.c]] (by simp [hUnder,AObj.under,AV.under,qam])) false a s'
   simp -dsimp [go_sem,hN];refine qea 10 9 [0] mixed (by kernel_rfl) ?_;simp -dsimp [go_sem,hN,Y.len,Y.loc,Y.loc0,Y.lp',Y.sloc,Y.sloc0];refine qdr (hkey.mono (by rintro _ _ ⟨rfl,rfl⟩;exact ⟨rfl,rfl⟩)) ?_;rw [if_pos hop] at hR;subst hR;simp -dsimp [go_sem,hN,Y.len,Y.loc,Y.loc0,Y.lp',Y.sloc,Y.sloc0];exact ⟨_,.refl _,K (keyX false a s').2,by simp [go_sem],hwk.app0 _,by simp [Y.len],Y.und' _,by simp [unk,V.nil,em],by simp⟩
  ·
   have hop:¬ (e.op=22∨e.op=23∨e.op=24):=by omega
   rw [if_neg hop] at hR;simp -dsimp [go_sem,hN,Y.len,Y.loc,Y.loc0,Y.lp',Y.sloc,Y.sloc0];refine cnd ?_ ?_<;>intro h5<;>simp at h5
   ·
    rw [if_pos (by simpa using h5)] at hR;subst hR;simp -dsimp [go_sem,hN,Y.len,Y.loc,Y.loc0,Y.lp',Y.sloc,Y.sloc0];exact ⟨_,.refl _,K s',by simp [go_sem],hwk.app0 _,by simp [Y.len],Y.und' _,by simp [unk,V.nil,em],by simp⟩
   ·
    rw [if_neg (by simpa using h5)] at hR;subst hR;simp -dsimp [go_sem,hN,Y.len,Y.loc,Y.loc0,Y.lp',Y.sloc,Y.sloc0];have hcall:=c_pr_apply (g:=g) (tT:=tT) (tx:=tx) e.op acc hlen2 hav (K s'++[.cells e.x,.cells [Bo false,I 0,I 0,S em],.arr 75 4 (acc.map AX.c)]) (Y.lg' _ _);obtain ⟨⟨w,b⟩,hap⟩:∃ R,apS qbo e.op (acc.map (·.v))=R:=⟨_,rfl⟩
    rw [hap] at hcall ⊢;refine qaj hcall ?_;rintro r h' ⟨rfl,rfl⟩;simp -dsimp [go_sem,hN,Y.len,Y.loc,Y.loc0,Y.lp',Y.sloc,Y.sloc0];exact ⟨_,.refl _,K s',by simp [go_sem],hwk.app0 _,by simp [Y.len],Y.und' _,by simp,by simp⟩
termination_by SizeOf.sizeOf e
end Go.Proofs.YtilhejdbiionhaaGreatDoor

set_option maxRecDepth 4000
set_option maxHeartbeats 4000000
namespace Go.Proofs.YtilhejdbiionhaaGreatDoor
open Go Go.Abs Go.Cw
attribute [local go_sem] AX.c
variable {tT:TypeId} {tx:Nat×Nat} {g p ir iw:Nat}
def StSpec (tT:TypeId) (tx:Nat×Nat) (g p ir iw:Nat) (t:St):Prop:=∀ {K:XS→qab} {n0:Nat} (Y:PHs tT tx g p ir iw K n0) (x:XS) {i:Nat} {f:MV} {l:List (qac×AX)} (hV:VM K i f l) (hi:i<n0) (hF:rngF f),
  ACalls Tryz.prog 66 [.ptr p 0,.agg t.x,.mapr i] (K x) (ResX K n0 i (Cw.exSt qbo t f x) fun m=>m=nilM∨m=.mapr i)
def BlSpec (tT:TypeId) (tx:Nat×Nat) (g p ir iw:Nat) (l:List St):Prop:=∀ {K:XS→qab} {n0:Nat} (Y:PHs tT tx g p ir iw K n0) (x:XS) {i:Nat} {f:MV} {lv:List (qac×AX)} (hV:VM K i f lv) (hi:i<n0) (hF:rngF f),
  ACalls Tryz.prog 35 [.ptr p 0,.slice (l.map St.c),.mapr i] (K x) (ResX K n0 i (exBl qbo l f x) fun m=>m=nilM)
theorem c_pr_block (l:List St) (hS:∀ t∈l,StSpec tT tx g p ir iw t) (hR:∀ t∈l,rngS t):BlSpec tT tx g p ir iw l:=by
 intro K n0 Y x i f lv hV hi hF;refine qaq Tryz.func35 Tryz.ntmps35 rfl (by kernel_rfl) rfl fun E hN hh hu hb hb' hua=>?_;simp [go_sem] at hb;have hp:=Y.hp;obtain ⟨R0,hR0⟩:∃ R0,exBl qbo l f x=R0:=⟨_,rfl⟩
 rw [hR0];simp -dsimp [go_sem,hN];refine qat (α:=BA) l.length (fun n a=>BOk K n0 i a∧exBl qbo (l.drop n) a.f a.x=R0) (fun n a=>⟨[(0,.ptr p 0),(2,.mapr a.j),(12,.slice (l.map St.c)),(13,I l.length),(14,I n)],K a.x++a.L⟩) ⟨f,i,lv,x,[]⟩ ⟨⟨by simpa using hV,by simp;omega,by simp [hUnder],hF,.inl rfl⟩,by simpa using hR0⟩ ?_ ?_
 ·
  simp;exact Wk.mk (by simp [hh]) (by simp [go_sem]) (by simpa [Y.len] using Y.und x) (by simp [go_sem,Y.len];omega)
 rintro n ⟨f1,j,lv1,x1,L⟩ hn ⟨hB,hI⟩;obtain ⟨hvm,hjl,hund,hrng,hfr⟩:=hB;dsimp only at hvm hjl hund hrng hfr hI ⊢;have Y2:=Y.ext L hund;obtain ⟨K2,hK2⟩:∃ K2:XS→qab,K2=fun q=>K q++L:=⟨_,rfl⟩
 rw [← hK2] at Y2 hvm;have hKq:∀ q,K q++L=K2 q:=fun q=>by rw [hK2]
 simp only [hKq];have hw:=qa3 hn (show l.length≤68719476736 by omega);simp -dsimp [go_sem,hN];refine cnd ?_ ?_<;>intro hc<;>simp at hc
 ·
  rw [qae hc,exBl] at hI;obtain ⟨⟨o,x2⟩,hx⟩:∃ R,Cw.exSt qbo l[n] f1 x1=R:=⟨_,rfl⟩
  have hr2:=exSt_rng (fmt:=qbo) qch l[n] f1 x1 (hR _ (List.getElem_mem hc)) hrng;rw [hx] at hI hr2;simp -dsimp [go_sem,hN,hc,Y2.len,St.c_eq];have hcall:=hS l[n] (List.getElem_mem hc) (Y2.ext [.cells l[n].x] (by simp [hUnder,AObj.under,AV.under,qam])) x1 (i:=j) (f:=f1) (l:=lv1) (hvm.ext Y2.len hjl _) (by simp;omega) hrng;rw [hx] at hcall;refine qaj hcall ?_;rintro r h' ⟨L3,rfl,hu3,h3⟩;have hu4:hUnder (n0+(L++(.cells l[n].x::L3)).length) (L++(.cells l[n].x::L3))=true :=
   qb2 hund (qb2 (A:=[.cells l[n].x]) (by simp [hUnder,AObj.under,AV.under,qam]) hu3)
  rcases h3 with ⟨ho,m,rfl,hZ⟩ | ⟨f',j',lv',ho,rfl,hj',hV',hfr'⟩
  ·
   dsimp only at ho;subst ho;rcases hZ with rfl | rfl
   ·
    simp -dsimp [go_sem,hN];exact qbr Y (by simp [Y.len]) hu4 (by simp [hK2]) (.inl rfl) rfl hI.symm
   ·
    simp -dsimp [go_sem,hN];exact qbr Y (by simp [Y.len]) hu4 (by simp [hK2]) (.inl rfl) rfl hI.symm
  ·
   dsimp only at ho;subst ho;simp -dsimp [go_sem,hN,hw];refine ⟨hc,⟨f',j',lv',x2,L++(.cells l[n].x::L3)⟩,⟨⟨?_,?_,hu4,hr2 f' rfl,by dsimp only;omega⟩,hI⟩,Wk.mk (by simp [hh,Y.len]) (by simp [hK2,hwk.refl]) (und_cat Y x2 hu4) ?_⟩
   ·
    rw [hK2] at hV';simpa using hV'
   · simp at hj' ⊢;omega
   ·
    simp at hj';simp [go_sem,Y.len];omega
 ·
  rw [List.drop_eq_nil_of_le (by omega),exBl] at hI;subst hI;simp -dsimp [go_sem,hN];exact qcl Y (by simp [Y.len]) hund (by simp [hK2]) (by rw [← hK2];exact hvm) hjl hfr rfl
end Go.Proofs.YtilhejdbiionhaaGreatDoor

set_option maxRecDepth 4000
set_option maxHeartbeats 4000000
namespace Go.Proofs.YtilhejdbiionhaaGreatDoor
open Go Go.Abs Go.Cw
attribute [local go_sem] AX.c
variable {tT:TypeId} {tx:Nat×Nat} {g p ir iw:Nat}
def cntR (t:St) (a b:Int) (f:MV) (x:XS):Option MV×XS :=
 if a<b∧((numSub b a).2≠0∨t.max<(numSub b a).1) then (none,x) else cntX (fun f x=>exBl qbo t.body f x) t.name (b - a).toNat a f x
theorem c_pr_counted (t:St) (hB:BlSpec tT tx g p ir iw t.body) (hR:∀ s∈t.body,rngS s) {K:XS→qab} {n0:Nat} (Y:PHs tT tx g p ir iw K n0) (x:XS) {i:Nat} {f:MV} {lv:List (qac×AX)} (hV:VM K i f lv) (hi:i<n0) (hF:rngF f) (a b:Int) (ha:i64 a) (hb64:i64 b) :
  ACalls Tryz.prog 108 [.ptr p 0,.agg t.x,I a,I b,.mapr i] (K x) (ResX K n0 i (cntR t a b f x) fun m=>m=nilM):=by
 refine qaq Tryz.func108 Tryz.ntmps108 rfl (by kernel_rfl) rfl fun E hN hh hu hb hb' hua=>?_;have hp:=Y.hp;obtain ⟨R0,hR0⟩:∃ R0,cntR t a b f x=R0:=⟨_,rfl⟩
 rw [hR0];unfold cntR at hR0;simp -dsimp [go_sem,hN,Y.len,Y.loc,Y.loc0];refine qaa (c_num_Sub b a) ?_;obtain ⟨⟨d,e⟩,hde⟩:∃ R,numSub b a=R:=⟨_,rfl⟩
 rw [hde] at hR0 ⊢;simp -dsimp [go_sem,hN,Y.len,Y.loc,Y.loc0]
 repeat refine ⟨by grind,?_⟩
 refine cnd ?_ ?_<;>intro h1<;>simp at h1
 ·
  rw [if_pos (by simpa using h1)] at hR0;simp -dsimp [go_sem,hN,Y.len,Y.loc,Y.loc0];exact qbr Y (by simp [Y.len]) (M:=[.cells t.x]) (by simp [hUnder,AObj.under,AV.under,qam]) rfl (.inl rfl) rfl hR0.symm
 rw [if_neg (by simp;exact h1)] at hR0;have hub:hUnder (n0 + [AObj.cells t.x].length) [.cells t.x]=true:=by simp [hUnder,AObj.under,AV.under,qam]
 have Y1:=Y.ext [.cells t.x] hub;have hV1:=hV.ext Y.len hi [.cells t.x];obtain ⟨K1,hK1⟩:∃ K1:XS→qab,K1=fun q=>K q++[.cells t.x]:=⟨_,rfl⟩
 have hK1q:∀ q,K q++[.cells t.x]=K1 q:=fun q=>by rw [hK1]
 rw [← hK1] at Y1 hV1;have hbx:∀ q (l:qab),(K1 q++l)[n0]?=some (.cells t.x):=fun q l=>by rw [hK1];simp [Y.loc0]
 simp -dsimp [go_sem,hN];refine qat (α:=BA) (b - a).toNat (fun n y=>BOk K1 (n0+1) i y∧cntX (fun f x=>exBl qbo t.body f x) t.name ((b - a).toNat - n) (a+n) y.f y.x=R0) (fun n y=>⟨[(0,.ptr p 0),(3,I b),(4,.mapr y.j),(6,.ptr n0 0),(14,I (a+n))],K1 y.x++y.L⟩) ⟨f,i,lv,x,[]⟩ ⟨⟨by simpa using hV1,by simp;omega,by simp [hUnder],hF,.inl rfl⟩,by simpa using hR0⟩ ?_ ?_
 ·
  simp;exact Wk.mk (by simp [hh,← hK1q]) (by simp [← hK1q,hwk.refl]) (by simpa using und_cat Y1 x (M:=[]) (by simp [hUnder])) (by simp [go_sem,Y1.len];omega)
 rintro n ⟨f1,j,lv1,x1,L⟩ hn ⟨⟨hvm,hjl,hund,hrng,hfr⟩,hI⟩;dsimp only at hvm hjl hund hrng hfr hI ⊢;have Y2:=Y1.ext L hund;obtain ⟨K2,hK2⟩:∃ K2:XS→qab,K2=fun q=>K1 q++L:=⟨_,rfl⟩
 have hbx2:∀ q (l:qab),(K2 q++l)[n0]?=some (.cells t.x):=fun q l=>by rw [hK2];simp only [List.append_assoc];exact hbx q _
 rw [← hK2] at Y2 hvm;have hKq:∀ q,K1 q++L=K2 q:=fun q=>by rw [hK2]
 simp only [hKq];simp -dsimp [go_sem,hN];have hUL:=qb2 hub hund;refine cnd ?_ ?_<;>intro hc<;>simp at hc
 rotate_left
 ·
  rw [show (b - a).toNat - n=0 by omega,cntX] at hI;subst hI;simp -dsimp [go_sem,hN];exact qcl Y (by simp [Y.len]) hUL (by simp [hK2,hK1]) (by rw [hK2,hK1] at hvm;simpa using hvm) (by simp at hjl ⊢;omega) (by omega) rfl
 obtain ⟨k,hk⟩:∃ k,(b - a).toNat - n=k+1:=⟨(b - a).toNat - n - 1,by omega⟩
 rw [hk,cntX] at hI;have hi64:i64 (a+n):=⟨by have:=ha.1;omega,by have:=hb64.2;omega⟩
 have hw:IntKind.i64.wrap (a+n+1)=a+n+1:=wrapI (by have:=ha.1;omega) (by have:=hb64.2;omega);simp -dsimp [go_sem,hN,Y2.len];refine qaj (c_pr_clone lv1 hvm.nod (K2 x1) j (hvm.lm x1)) ?_;rintro r h' ⟨l',hperm,rfl,rfl⟩;simp -dsimp [go_sem,hN,Y2.len,Y2.loc,Y2.loc0,Y2.sloc,Y2.sloc0,hbx2];obtain ⟨MO,hMO⟩:∃ MO,AObj.map (kAV qcu (qbz l' t.name (kn (vI (a+n)))))=MO:=⟨_,rfl⟩
 have hMu:∀ n,MO.under n=true:=fun n=>by rw [← hMO];exact qdh n _
 have hMO2:AObj.map (kAV qcu (qbz l' t.name ⟨true,⟨1,a+n,⟨#[]⟩⟩⟩))=MO:=hMO;simp only [hMO2];have hu3:hUnder (n0+1+L.length + [MO].length) [MO]=true:=by simp [hUnder,hMu]
 have Y3:=Y2.ext [MO] hu3;have hV3:VM (fun q=>K2 q++[MO]) (n0+1+L.length) (updF f1 t.name (kn (vI (a+n)))) (qbz l' t.name (kn (vI (a+n)))):=VM.upd hperm hvm.nod hvm.get (fun q=>by
  show (K2 q++[MO])[_]?=_;rw [hMO];exact Y2.loc0 q [MO])
 have hrg:=hrng.upd (s:=t.name) (a:=kn (vI (a+n))) (rng_vI hi64);have hcall:=hB Y3 x1 hV3 (by simp) hrg;have hr2:=exBl_rng (fmt:=qbo) qch t.body _ x1 hR hrg;obtain ⟨⟨o,x2⟩,hx⟩:∃ R,exBl qbo t.body (updF f1 t.name (kn (vI (a+n)))) x1=R:=⟨_,rfl⟩
 rw [hx] at hcall hr2 hI;refine qaj hcall ?_;rintro r h' ⟨L3,rfl,hu4,h3⟩;have huM:hUnder (n0+1+(L++(MO::L3)).length) (L++(MO::L3))=true:=qb2 hund (qb2 (A:=[MO]) hu3 hu4);have huA:=qb2 hub huM;rcases h3 with ⟨ho,m,rfl,rfl⟩ | ⟨f',j',lv',ho,rfl,hj',hV',hfr'⟩
 ·
  dsimp only at ho;subst ho;simp -dsimp [go_sem,hN];exact qbr Y (by simp [Y.len]) huA (by simp [hK2,hK1]) (.inl rfl) rfl hI.symm
 ·
  dsimp only at ho;subst ho;have hfr2:j'=n0+1+L.length∨n0+1+L.length+1≤j':=by simpa using hfr'
  simp -dsimp [go_sem,hN,hw];refine ⟨by omega,⟨f',j',lv',x2,L++(MO::L3)⟩,⟨⟨?_,?_,huM,hr2 f' rfl,by dsimp only;omega⟩,?_⟩,Wk.mk (by simp [hh,Y1.len,Y.len];omega) (by simp [hK2,hwk.refl]) (und_cat Y1 x2 huM) ?_⟩
  ·
   rw [hK2] at hV';simpa using hV'
  · simp at hj' ⊢;omega
  ·
   rw [show (b - a).toNat - (n+1)=k by omega,← Int.add_assoc];exact hI
  ·
   simp at hj';simp [go_sem,Y1.len,Int.add_assoc];omega
theorem c_pr_repeated (t:St) (hB:BlSpec tT tx g p ir iw t.body) (hR:∀ s∈t.body,rngS s) {K:XS→qab} {n0:Nat} (Y:PHs tT tx g p ir iw K n0) (x:XS) {i:Nat} {f:MV} {lv:List (qac×AX)} (hV:VM K i f lv) (hi:i<n0) (hF:rngF f) (hmx:t.max≤1000) :
  ACalls Tryz.prog 109 [.ptr p 0,.agg t.x,.mapr i] (K x) (ResX K n0 i (repX (fun f x=>exBl qbo t.body f x) t.name t.max.toNat f x) fun m=>m=nilM):=by
 refine qaq Tryz.func109 Tryz.ntmps109 rfl (by kernel_rfl) rfl fun E hN hh hu hb hb' hua=>?_;have hp:=Y.hp;obtain ⟨R0,hR0⟩:∃ R0,repX (fun f x=>exBl qbo t.body f x) t.name t.max.toNat f x=R0:=⟨_,rfl⟩
 rw [hR0];simp -dsimp [go_sem,hN,Y.len,Y.loc,Y.loc0];have hub:hUnder (n0 + [AObj.cells t.x].length) [.cells t.x]=true:=by simp [hUnder,AObj.under,AV.under,qam]
 have Y1:=Y.ext [.cells t.x] hub;have hV1:=hV.ext Y.len hi [.cells t.x];obtain ⟨K1,hK1⟩:∃ K1:XS→qab,K1=fun q=>K q++[.cells t.x]:=⟨_,rfl⟩
 have hK1q:∀ q,K q++[.cells t.x]=K1 q:=fun q=>by rw [hK1]
 rw [← hK1] at Y1 hV1;have hbx:∀ q (l:qab),(K1 q++l)[n0]?=some (.cells t.x):=fun q l=>by rw [hK1];simp [Y.loc0]
 refine qat (α:=BA) t.max.toNat (fun n y=>BOk K1 (n0+1) i y∧repX (fun f x=>exBl qbo t.body f x) t.name (t.max.toNat - n) y.f y.x=R0) (fun n y=>⟨[(0,.ptr p 0),(2,.mapr y.j),(4,.ptr n0 0),(12,I t.max),(13,I n)],K1 y.x++y.L⟩) ⟨f,i,lv,x,[]⟩ ⟨⟨by simpa using hV1,by simp;omega,by simp [hUnder],hF,.inl rfl⟩,by simpa using hR0⟩ ?_ ?_
 ·
  simp;exact Wk.mk (by simp [hh,← hK1q]) (by simp [← hK1q,hwk.refl]) (by simpa using und_cat Y1 x (M:=[]) (by simp [hUnder])) (by simp [go_sem,Y1.len];omega)
 rintro n ⟨f1,j,lv1,x1,L⟩ hn ⟨⟨hvm,hjl,hund,hrng,hfr⟩,hI⟩;dsimp only at hvm hjl hund hrng hfr hI ⊢;have Y2:=Y1.ext L hund;obtain ⟨K2,hK2⟩:∃ K2:XS→qab,K2=fun q=>K1 q++L:=⟨_,rfl⟩
 have hbx2:∀ q (l:qab),(K2 q++l)[n0]?=some (.cells t.x):=fun q l=>by rw [hK2];simp only [List.append_assoc];exact hbx q _
 rw [← hK2] at Y2 hvm;have hKq:∀ q,K1 q++L=K2 q:=fun q=>by rw [hK2]
 simp only [hKq];have hw:=qa3 hn (show t.max.toNat≤68719476736 by omega);simp -dsimp [go_sem,hN];have hUL:=qb2 hub hund;refine cnd ?_ ?_<;>intro hc<;>simp at hc
 rotate_left
 ·
  rw [show t.max.toNat - n=0 by omega,repX] at hI;subst hI;simp -dsimp [go_sem,hN];exact qcl Y (by simp [Y.len]) hUL (by simp [hK2,hK1]) (by rw [hK2,hK1] at hvm;simpa using hvm) (by simp at hjl ⊢;omega) (by omega) rfl
 obtain ⟨k,hk⟩:∃ k,t.max.toNat - n=k+1:=⟨t.max.toNat - n - 1,by omega⟩
 rw [hk,repX] at hI;simp -dsimp [go_sem,hN,Y2.len];refine qaj (c_pr_clone lv1 hvm.nod (K2 x1) j (hvm.lm x1)) ?_;rintro r h' ⟨l',hperm,rfl,rfl⟩;simp -dsimp [go_sem,hN,Y2.len,Y2.loc,Y2.loc0,Y2.sloc,Y2.sloc0,hbx2];obtain ⟨MO,hMO⟩:∃ MO,AObj.map (kAV qcu (qbz l' t.name unk))=MO:=⟨_,rfl⟩
 have hMu:∀ n,MO.under n=true:=fun n=>by rw [← hMO];exact qdh n _
 have hMO2:AObj.map (kAV qcu (qbz l' t.name ⟨false,⟨0,0,⟨#[]⟩⟩⟩))=MO:=hMO;simp only [hMO2];have hu3:hUnder (n0+1+L.length + [MO].length) [MO]=true:=by simp [hUnder,hMu]
 have Y3:=Y2.ext [MO] hu3;have hV3:VM (fun q=>K2 q++[MO]) (n0+1+L.length) (updF f1 t.name unk) (qbz l' t.name unk):=VM.upd hperm hvm.nod hvm.get (fun q=>by
  show (K2 q++[MO])[_]?=_;rw [hMO];exact Y2.loc0 q [MO])
 have hrg:=hrng.upd (s:=t.name) (a:=unk) rng_unk;have hcall:=hB Y3 x1 hV3 (by simp) hrg;have hr2:=exBl_rng (fmt:=qbo) qch t.body _ x1 hR hrg;obtain ⟨⟨o,x2⟩,hx⟩:∃ R,exBl qbo t.body (updF f1 t.name unk) x1=R:=⟨_,rfl⟩
 rw [hx] at hcall hr2 hI;dsimp only at hI;refine qaj hcall ?_;rintro r h' ⟨L3,rfl,hu4,h3⟩;have huM:hUnder (n0+1+(L++(MO::L3)).length) (L++(MO::L3))=true:=qb2 hund (qb2 (A:=[MO]) hu3 hu4);have huA:=qb2 hub huM;have hlp:=fun q l=>Y2.lp' q (MO::l);rcases h3 with ⟨ho,m,rfl,rfl⟩ | ⟨f',j',lv',ho,rfl,hj',hV',hfr'⟩
 ·
  dsimp only at ho;subst ho;simp -dsimp [go_sem,hN,Y2.lp'];refine cnd (fun h1=>?_) (fun h1=>?_)
  ·
   rw [if_pos h1] at hI;simp -dsimp [go_sem,hN];exact qbr Y (by simp [Y.len]) huA (by simp [hK2,hK1]) (.inl rfl) rfl hI.symm
  ·
   rw [if_neg (by simp [h1])] at hI;simp -dsimp [go_sem,hN];refine qcl Y (by simp [Y.len]) huA (by simp [hK2,hK1]) (f:=f1) (l:=lv1) ?_ (by simp;omega) (by omega) hI.symm;have h4:=hvm.ext Y2.len hjl (MO::L3);rw [hK2,hK1] at h4;simpa using h4
 ·
  dsimp only at ho;subst ho;have hfr2:j'=n0+1+L.length∨n0+1+L.length+1≤j':=by simpa using hfr'
  have hjl':j'<n0+1+L.length+1+L3.length:=by simpa using hj'
  simp -dsimp [go_sem,hN,Y2.lp'];refine cnd (fun h1=>?_) (fun h1=>?_)
  ·
   rw [if_pos h1] at hI;simp -dsimp [go_sem,hN];exact qbr Y (by simp [Y.len]) huA (by simp [hK2,hK1]) (.inl rfl) rfl hI.symm
  ·
   rw [if_neg (by simp [h1])] at hI;simp -dsimp [go_sem,hN];have h4:=hvm.ext Y2.len hjl (MO::L3);have h5:VM (fun q=>K2 q++MO::L3) j' f' lv':=by simpa using hV'
   refine qaj (c_pr_join lv1 lv' hvm.nod (K2 x2++MO::L3) j j' (by omega) (h4.lm x2) (h5.lm x2)) ?_;rintro r h' ⟨l2,hperm2,rfl,rfl⟩;simp -dsimp [go_sem,hN,hw];have hu5:hUnder (n0+1+(L++(MO::L3)).length + [AObj.map (kAV qcu l2)].length) [AObj.map (kAV qcu l2)]=true:=by simp [hUnder,qdh]
   have hu6:=qb2 huM hu5;refine ⟨by omega,⟨joinF f1 f',n0+1+L.length+(L3.length+1),l2,x2,(L++(MO::L3))++[AObj.map (kAV qcu l2)]⟩,⟨⟨?_,by simp;omega,hu6,hrng.join,by dsimp only;omega⟩,?_⟩,Wk.mk (by simp [hh,Y1.len,Y.len];omega) (by simp [hK2,hwk.refl]) (und_cat Y1 x2 hu6) ?_⟩
   ·
    refine VM.join hperm2 hvm.nod hvm.get hV'.get fun q=>?_;show (K1 q++((L++(MO::L3))++[AObj.map (kAV qcu l2)]))[_]?=_;rw [← List.append_assoc,List.getElem?_append_right (by simp [Y1.len];omega)];simp [Y1.len,Nat.add_assoc]
   ·
    rw [show t.max.toNat - (n+1)=k by omega];exact hI
   · simp [go_sem,Y1.len,Y2.len];omega
end Go.Proofs.YtilhejdbiionhaaGreatDoor
