/- Part 46 of a proof: OP, OS, LB, OU, OL -/
import Derived.Test.YtbimdamecieomaaGreatDoorRows
import Derived.KernelRfl
import Derived.Test.YtbimdamecieomaaGreatDoorCards
import Derived.Test.YtbimdamecieomaaGreatDoorTie
import Derived.ProofKit
import Derived.OpenShut
import Derived.Carry
import Derived.Deep.DeepHandedRow
import Derived.Lib.LaidTab
import Derived.Stop.LaidErr
import Derived.Test.YtbimdamecieomaaGreatDoorQ20
import Derived.Test.YtbimdamecieomaaGreatDoorQ25
import Derived.Test.YtbimdamecieomaaGreatDoorQ29
import Derived.Test.YtbimdamecieomaaGreatDoorQ39
import Derived.Test.YtbimdamecieomaaGreatDoorQ44
set_option linter.all false

set_option maxRecDepth 8000
namespace Go.Proofs.YtbimdamecieomaaGreatDoor
open Go Go.Abs Go.Cw
section
variable {H:Type} {enc:TypeId×Value→H} {w:World}
theorem bulk_part {d:DataW H} {l:List (DataW H)} (h:d∈l):Rows.uptoBulk d≤Rows.uptoBulkAll l:=by
 induction l with
 | nil=>cases h
 | cons x r ih =>
  simp only [Rows.uptoBulkAll];rcases List.mem_cons.1 h with rfl | e
  · omega
  · have:=ih e;omega
theorem bulk_one (d:DataW H):1≤Rows.uptoBulk d:=by
 cases d with
 | lit l=>cases l<;>simp [Rows.uptoBulk]
 | nil=>simp [Rows.uptoBulk]
 | ptr d=>simp [Rows.uptoBulk]
 | slice elems spare=>simp [Rows.uptoBulk]
 | agg parts=>simp [Rows.uptoBulk]
 | iface t d=>simp [Rows.uptoBulk]
 | map entries=>simp [Rows.uptoBulk]
 | held h=>simp [Rows.uptoBulk]
theorem bulk_len (l:List (DataW H)):l.length≤Rows.uptoBulkAll l:=by
 induction l with
 | nil=>simp [Rows.uptoBulkAll]
 | cons x r ih=>have:=bulk_one x;simp only [Rows.uptoBulkAll,List.length_cons];omega
theorem bulkB:Bulk (H:=H) Rows.uptoBulk where
 str:=fun s=>by simp [Rows.uptoBulk]
 len:=fun e s=>by have:=bulk_len e;simp only [Rows.uptoBulk];omega
 sl:=fun e s x hx=>by have:=bulk_part hx;simp only [Rows.uptoBulk];omega
 agg:=fun ps x hx=>by have:=bulk_part hx;simp only [Rows.uptoBulk];omega
abbrev UB:Nat:=1048576
variable (enc w) in
abbrev RD (n:Nat) (t:TypeId) (Q:List AV→Prop):Prop:=Rd enc Tryz.prog w Rows.uptoBulk UB n t Q
theorem ub_le:UB≤68719476736:=by decide
def rOf {α:Type} (c:α→List AV) (good:α→Prop) (xs:List AV):Prop:=∃ a,xs=c a∧good a
def gStr (s:qac):Prop:=s.size≤UB
def gSl {α:Type} (good:α→Prop) (l:List α):Prop:=l.length≤UB∧∀ a∈l,good a
def qOf {α:Type} (c:α→List AV) (good:α→Prop) (xs:List AV):Prop:=rOf (fun l:List α=>[.slice (l.map c)]) (gSl good) xs
theorem rd_of {n:Nat} {t e:TypeId} (ht:Tryz.prog.underlying t=some (.slice e)) {sz:Nat} (hsz:Tryz.prog.cellsOf e=sz) (h0:0<sz) {α:Type} {c:α→List AV} {good:α→Prop} (hl:∀ a,(c a).length=sz) (he:RD enc w n e (rOf c good)):RD enc w n t (qOf c good):=by
 refine (rd_slice bulkB ub_le ht hsz h0 (by rintro _ ⟨a,rfl,_⟩;exact hl a) he).mono ?_;rintro _ ⟨rows,rfl,hlen,hq⟩;obtain ⟨l,rfl,hg⟩:=rows_list hq;exact ⟨l,rfl,by simpa using hlen,hg⟩
theorem len_of {α:Type} {c:α→List AV} {good:α→Prop}:∀ xs,qOf c good xs→xs.length=1:=by rintro _ ⟨l,rfl,_⟩;rfl
theorem rd_I {n:Nat}:RD enc w n 3 (qInt .i64):=rd_int (by decide) Tryz.underlying3
theorem rd_I64 {n:Nat}:RD enc w n 2 (qInt .i64):=rd_int (by decide) Tryz.underlying2
theorem rd_S {n:Nat}:RD enc w n 9 (qStr UB):=rd_str bulkB ub_le Tryz.underlying9
theorem rd_B {n:Nat}:RD enc w n 4 qBool:=rd_bool Tryz.underlying4
theorem i64_of {z:Int} (h:IntKind.i64.min≤z∧z≤IntKind.i64.max):i64 z:=⟨h.1,h.2⟩
theorem rd_V:∀ {n:Nat},RD enc w n 71 (rOf V.c rngV)
 | 0=>Rd.zero
 | n+1=>by
  refine (qdw (Qs:=[qInt .i64,qInt .i64,qStr UB]) bulkB Tryz.underlying71 ?_).mono ?_
  ·
   simp only [Flds];exact ⟨(by first | rfl | trivial),1,by kernel_rfl,rd_I,len_int,(by first | rfl | trivial),1,by kernel_rfl,rd_I64,len_int,(by first | rfl | trivial),1,by kernel_rfl,rd_S,len_str,by first | kernel_rfl | trivial⟩
  ·
   rintro _ ⟨ps,hp0,rfl⟩;obtain ⟨_,_,rfl,⟨k,rfl,_⟩,hp1⟩:=qat hp0;obtain ⟨_,_,rfl,⟨z,rfl,hz⟩,hp2⟩:=qat hp1;obtain ⟨_,_,rfl,⟨s,rfl,hs⟩,hp3⟩:=qat hp2;obtain rfl:=qdx hp3;exact ⟨⟨k,z,s⟩,rfl,i64_of hz,by show s.size≤_;unfold UB at hs;omega⟩
def gP (p:Pr):Prop:=p.key.size≤UB∧rngV p.v
theorem rd_P:∀ {n:Nat},RD enc w n 73 (rOf Pr.c gP)
 | 0=>Rd.zero
 | n+1=>by
  refine (qdw (Qs:=[qStr UB,rOf V.c rngV]) bulkB Tryz.underlying73 ?_).mono ?_
  ·
   simp only [Flds];exact ⟨(by first | rfl | trivial),1,by kernel_rfl,rd_S,len_str,(by first | rfl | trivial),3,by kernel_rfl,rd_V,by rintro _ ⟨v,rfl,_⟩;rfl,by first | kernel_rfl | trivial⟩
  ·
   rintro _ ⟨ps,hp0,rfl⟩;obtain ⟨_,_,rfl,⟨k,rfl,hk⟩,hp1⟩:=qat hp0;obtain ⟨_,_,rfl,⟨v,rfl,hv⟩,hp2⟩:=qat hp1;obtain rfl:=qdx hp2;exact ⟨⟨k,v⟩,rfl,hk,hv⟩
theorem rd_Vs {n:Nat}:RD enc w n 48 (qOf V.c rngV):=rd_of Tryz.underlying48 (sz:=3) (by kernel_rfl) (by decide) (fun _=>rfl) rd_V
theorem rd_Ps {n:Nat}:RD enc w n 23 (qOf Pr.c gP):=rd_of Tryz.underlying23 (sz:=4) (by kernel_rfl) (by decide) (fun _=>rfl) rd_P
theorem rd_Ss {n:Nat}:RD enc w n 41 (qOf qbf gStr):=rd_of Tryz.underlying41 (sz:=1) (by kernel_rfl) (by decide) (fun _=>rfl) (rd_S.mono (by rintro _ ⟨s,rfl,hs⟩;exact ⟨s,rfl,hs⟩))
theorem rd_E:∀ (n:Nat),RD enc w n 119 (rOf Ex.c rngX)
 | 0=>Rd.zero
 | n+1=>by
  have hs:RD enc w n 117 (qOf Ex.c rngX):=rd_of Tryz.underlying117 (sz:=4) (by kernel_rfl) (by decide) (fun e=>by rw [Ex.c_eq];rfl) (rd_E n);refine (qdw (Qs:=[qInt .i64,qInt .i64,qStr UB,qOf Ex.c rngX]) bulkB Tryz.underlying119 ?_).mono ?_
  ·
   simp only [Flds];exact ⟨(by first | rfl | trivial),1,by kernel_rfl,rd_I,len_int,(by first | rfl | trivial),1,by kernel_rfl,rd_I64,len_int,(by first | rfl | trivial),1,by kernel_rfl,rd_S,len_str,(by first | rfl | trivial),1,by kernel_rfl,hs,len_of,by first | kernel_rfl | trivial⟩
  ·
   rintro _ ⟨ps,hp0,rfl⟩;obtain ⟨_,_,rfl,⟨k,rfl,_⟩,hp1⟩:=qat hp0;obtain ⟨_,_,rfl,⟨z,rfl,hz⟩,hp2⟩:=qat hp1;obtain ⟨_,_,rfl,⟨s,rfl,hs⟩,hp3⟩:=qat hp2;obtain ⟨_,_,rfl,⟨l,rfl,hl⟩,hp4⟩:=qat hp3;obtain rfl:=qdx hp4;refine ⟨.mk k z s l,by rw [Ex.c_eq];rfl,(rngX_iff _).2 ⟨⟨i64_of hz,by show s.size≤_;unfold UB at hs;omega⟩,hl.2⟩⟩
theorem rd_T:∀ (n:Nat),RD enc w n 121 (rOf St.c rngS)
 | 0=>Rd.zero
 | n+1=>by
  have hs:RD enc w n 76 (qOf St.c rngS):=rd_of Tryz.underlying76 (sz:=13) (by kernel_rfl) (by decide) (fun e=>by rw [St.c_eq];rfl) (rd_T n);refine (qdw (Qs:=[qInt .i64,qStr UB,qInt .i64,rOf Ex.c rngX,rOf Ex.c rngX,qOf St.c rngS,qOf St.c rngS]) bulkB Tryz.underlying121 ?_).mono ?_
  ·
   simp only [Flds];exact ⟨(by first | rfl | trivial),1,by kernel_rfl,rd_I,len_int,(by first | rfl | trivial),1,by kernel_rfl,rd_S,len_str,(by first | rfl | trivial),1,by kernel_rfl,rd_I,len_int,(by first | rfl | trivial),4,by kernel_rfl,rd_E n,by rintro _ ⟨e,rfl,_⟩;rw [Ex.c_eq];rfl,(by first | rfl | trivial),4,by kernel_rfl,rd_E n,by rintro _ ⟨e,rfl,_⟩;rw [Ex.c_eq];rfl,(by first | rfl | trivial),1,by kernel_rfl,hs,len_of,(by first | rfl | trivial),1,by kernel_rfl,hs,len_of,by first | kernel_rfl | trivial⟩
  ·
   rintro _ ⟨ps,hp0,rfl⟩;obtain ⟨_,_,rfl,⟨k,rfl,_⟩,hp1⟩:=qat hp0;obtain ⟨_,_,rfl,⟨s,rfl,hs⟩,hp2⟩:=qat hp1;obtain ⟨_,_,rfl,⟨m,rfl,_⟩,hp3⟩:=qat hp2;obtain ⟨_,_,rfl,⟨a,rfl,ha⟩,hp4⟩:=qat hp3;obtain ⟨_,_,rfl,⟨b,rfl,hb⟩,hp5⟩:=qat hp4;obtain ⟨_,_,rfl,⟨l,rfl,hl⟩,hp6⟩:=qat hp5;obtain ⟨_,_,rfl,⟨l',rfl,hl'⟩,hp7⟩:=qat hp6;obtain rfl:=qdx hp7;refine ⟨.mk k s m a b l l',?_,(rngS_iff _).2 ⟨ha,hb,hl.2,hl'.2⟩⟩;simp [St.c,St.cl_map]
theorem rd_Ts {n:Nat}:RD enc w n 76 (qOf St.c rngS):=rd_of Tryz.underlying76 (sz:=13) (by kernel_rfl) (by decide) (fun e=>by rw [St.c_eq];rfl) (rd_T n)
theorem rd_M:∀ {n:Nat},RD enc w n 116 (rOf Param.c fun p=>gStr p.name)
 | 0=>Rd.zero
 | n+1=>by
  refine (qdw (Qs:=[qStr UB,qInt .i64]) bulkB Tryz.underlying116 ?_).mono ?_
  ·
   simp only [Flds];exact ⟨(by first | rfl | trivial),1,by kernel_rfl,rd_S,len_str,(by first | rfl | trivial),1,by kernel_rfl,rd_I,len_int,by first | kernel_rfl | trivial⟩
  ·
   rintro _ ⟨ps,hp0,rfl⟩;obtain ⟨_,_,rfl,⟨s,rfl,hs⟩,hp1⟩:=qat hp0;obtain ⟨_,_,rfl,⟨k,rfl,_⟩,hp2⟩:=qat hp1;obtain rfl:=qdx hp2;exact ⟨⟨s,k⟩,rfl,hs⟩
theorem rd_Ms {n:Nat}:RD enc w n 75 (qOf Param.c fun p=>gStr p.name):=rd_of Tryz.underlying75 (sz:=2) (by kernel_rfl) (by decide) (fun _=>rfl) rd_M
def gProc (p:Proc):Prop:=gStr p.name∧gSl (fun x:Param=>gStr x.name) p.params∧gSl rngS p.body
theorem rd_Proc:∀ {n:Nat},RD enc w n 78 (rOf Proc.c gProc)
 | 0=>Rd.zero
 | n+1=>by
  refine (qdw (Qs:=[qStr UB,qOf Param.c fun p=>gStr p.name,qOf St.c rngS]) bulkB Tryz.underlying78 ?_).mono ?_
  ·
   simp only [Flds];exact ⟨(by first | rfl | trivial),1,by kernel_rfl,rd_S,len_str,(by first | rfl | trivial),1,by kernel_rfl,rd_Ms,len_of,(by first | rfl | trivial),1,by kernel_rfl,rd_Ts,len_of,by first | kernel_rfl | trivial⟩
  ·
   rintro _ ⟨ps,hp0,rfl⟩;obtain ⟨_,_,rfl,⟨s,rfl,hs⟩,hp1⟩:=qat hp0;obtain ⟨_,_,rfl,⟨l,rfl,hl⟩,hp2⟩:=qat hp1;obtain ⟨_,_,rfl,⟨b,rfl,hb⟩,hp3⟩:=qat hp2;obtain rfl:=qdx hp3;exact ⟨⟨s,l,b⟩,rfl,hs,hl,hb⟩
def gFoot (f:Foot):Prop:=gSl gStr f.reads∧gSl gStr f.writes
theorem rd_Foot:∀ {n:Nat},RD enc w n 43 (rOf Foot.c gFoot)
 | 0=>Rd.zero
 | n+1=>by
  refine (qdw (Qs:=[qBool,qOf qbf gStr,qOf qbf gStr]) bulkB Tryz.underlying43 ?_).mono ?_
  ·
   simp only [Flds];exact ⟨(by first | rfl | trivial),1,by kernel_rfl,rd_B,len_bool,(by first | rfl | trivial),1,by kernel_rfl,rd_Ss,len_of,(by first | rfl | trivial),1,by kernel_rfl,rd_Ss,len_of,by first | kernel_rfl | trivial⟩
  ·
   rintro _ ⟨ps,hp0,rfl⟩;obtain ⟨_,_,rfl,⟨b,rfl⟩,hp1⟩:=qat hp0;obtain ⟨_,_,rfl,⟨l,rfl,hl⟩,hp2⟩:=qat hp1;obtain ⟨_,_,rfl,⟨l',rfl,hl'⟩,hp3⟩:=qat hp2;obtain rfl:=qdx hp3;exact ⟨⟨b,l,l'⟩,rfl,hl,hl'⟩
structure gEff (e:Eff):Prop where
 out:gSl rngV e.out
 reads:gSl gStr e.reads
 puts:gSl gStr e.puts
 writes:gSl gP e.writes
 miss:gStr e.miss
end
end Go.Proofs.YtbimdamecieomaaGreatDoor

set_option maxRecDepth 8000
namespace Go.Proofs.YtbimdamecieomaaGreatDoor
open Go Go.Abs Go.Cw
section
variable {H:Type} {enc:TypeId×Value→H} {w:World}
structure gTxn (t:Txn):Prop where
 id:i64 t.id
 proc:gStr t.proc
 args:gSl rngV t.args
 ft:gFoot t.ft
 att:i64 t.att
theorem rd_Txn:∀ {n:Nat},RD enc w n 50 (rOf Txn.c gTxn)
 | 0=>Rd.zero
 | n+1=>by
  refine (qdw (Qs:=[qInt .i64,qStr UB,qOf V.c rngV,rOf Foot.c gFoot,qInt .i64]) bulkB Tryz.underlying50 ?_).mono ?_
  ·
   simp only [Flds];exact ⟨(by first | rfl | trivial),1,by kernel_rfl,rd_I64,len_int,(by first | rfl | trivial),1,by kernel_rfl,rd_S,len_str,(by first | rfl | trivial),1,by kernel_rfl,rd_Vs,len_of,(by first | rfl | trivial),3,by kernel_rfl,rd_Foot,by rintro _ ⟨v,rfl,_⟩;rfl,(by first | rfl | trivial),1,by kernel_rfl,rd_I,len_int,by first | kernel_rfl | trivial⟩
  ·
   rintro _ ⟨ps,hp0,rfl⟩;obtain ⟨_,_,rfl,⟨k,rfl,hk⟩,hp1⟩:=qat hp0;obtain ⟨_,_,rfl,⟨s,rfl,hs⟩,hp2⟩:=qat hp1;obtain ⟨_,_,rfl,⟨l,rfl,hl⟩,hp3⟩:=qat hp2;obtain ⟨_,_,rfl,⟨f,rfl,hf⟩,hp4⟩:=qat hp3;obtain ⟨_,_,rfl,⟨z,rfl,hz⟩,hp5⟩:=qat hp4;obtain rfl:=qdx hp5;exact ⟨⟨k,s,l,f,z⟩,rfl,i64_of hk,hs,hl,hf,i64_of hz⟩
theorem rd_Txns {n:Nat}:RD enc w n 24 (qOf Txn.c gTxn):=rd_of Tryz.underlying24 (sz:=7) (by kernel_rfl) (by decide) (fun _=>rfl) rd_Txn
theorem rd_Procs {n:Nat}:RD enc w n 22 (qOf Proc.c gProc):=rd_of Tryz.underlying22 (sz:=3) (by kernel_rfl) (by decide) (fun _=>rfl) rd_Proc
theorem batchIn_of {procs:List Proc} {l:List Txn} (hp:gSl gProc procs) (hl:gSl gTxn l):BatchIn qb6 procs l:=⟨plain_itoa,fun p h=>(hp.2 p h).2.2.2,fun t h=>(hl.2 t h).args.2⟩
theorem rngL_of {s:List Pr} (h:gSl gP s):rngL s:=fun q hq=>(h.2 q hq).2
def gBatch (b:List Proc×List Pr×List Txn):Prop:=gSl gProc b.1∧gSl gP b.2.1∧gSl gTxn b.2.2
end
end Go.Proofs.YtbimdamecieomaaGreatDoor

set_option maxRecDepth 8000
namespace Go.Proofs.YtbimdamecieomaaGreatDoor
open Go Go.Abs Go.Cw Go.ChangeShapes Go.WideShapes Go.ChangeAt Go.RowKit
theorem laidOut:laidOutB Tryz.prog=true:=by kernel_rfl
theorem ownK:ownKnob Tryz.prog.godebug=none:=by kernel_rfl
abbrev laidL:List (String×DataW Unit):=[("math/bits.deBruijn32tab",Rows.laid_math_bits_deBruijn32tab),("math/bits.deBruijn64tab",Rows.laid_math_bits_deBruijn64tab),("internal/strconv.uint64pow10",Rows.laid_internal_strconv_uint64pow10)]
abbrev gTab:Nat:=1
theorem table {W:World} (h:laidMetH Tryz.prog laidL W):Lib.TabIs Tryz.prog W "internal/strconv.uint64pow10" .u64 Lib.pow10Tab :=
 Lib.tabIs_of_head (rest:=[]) (g:=gTab) (n:=20) (by kernel_rfl) (by kernel_rfl) Tryz.underlying340 Tryz.underlying220 (by kernel_rfl) (by kernel_rfl) (laidMet.tail (laidMet.tail (show laidMet Tryz.prog laidL W from h)))
theorem table_heap {W:World} (h:laidMetH Tryz.prog laidL W):∃ T x,W.heap[gTab]?=some (.cells tabV T x):=by
 have h1:=table h;unfold Lib.TabIs World.var? at h1
 rw [show Tryz.prog.globalNamed "internal/strconv.uint64pow10" = some gTab by kernel_rfl] at h1
 simp only [Option.bind_some] at h1;split at h1
 ·
  rename_i cs T x hx;cases h1;exact ⟨T,x,hx⟩
 · cases h1
theorem tab_u64:∀ (j:Nat) (v:Value),tabV[j]?=some v→∃ n,v=.int .u64 n:=by
 intro j v hv;unfold tabV at hv;have:(Lib.pow10Tab.map fun z=>Value.int .u64 z)[j]?=some v:=by simpa using hv
 rw [List.getElem?_map,Option.map_eq_some_iff] at this;obtain ⟨z,_,rfl⟩:=this;exact ⟨z,rfl⟩
def putTab (zs:List Value):Obj→Obj
 | .cells _ t fr=>.cells zs.toArray t fr
 | o=>o
def tabVals (d:DataW Unit):List Value:=match d with
 | .agg ps=>ps.map fun | .lit (.int k n)=>.int k n | _=>undef
 | _=>[]
noncomputable def laidWorld (os:Os):World :=
 { World.holding Tryz.prog os ⟨#[],#[],[]⟩ with heap:=(((World.holding Tryz.prog os ⟨#[],#[],[]⟩).heap.modify gTab (putTab (tabVals Rows.laid_internal_strconv_uint64pow10))).modify 2 (putTab (tabVals Rows.laid_math_bits_deBruijn32tab))).modify 3 (putTab (tabVals Rows.laid_math_bits_deBruijn64tab)) }
section
variable {H:Type} {enc:TypeId×Value→H} {W:World} {base:Nat}
theorem okWide_struct {t:TypeId} {fs:Array Field} (ht:Tryz.prog.underlying t=some (.struct fs)) {v:Value} (h:Value.okWide Tryz.prog W .any base t v):∃ cs,v=.agg cs:=by
 unfold Value.okWide at h;rw [ht] at h;obtain ⟨cs,rfl,_⟩:=h;exact ⟨cs,rfl⟩
theorem okWide_slice {t e:TypeId} (ht:Tryz.prog.underlying t=some (.slice e)) {v:Value} (h:Value.okWide Tryz.prog W .any base t v):v.cells = #[v]:=by
 unfold Value.okWide at h;rw [ht] at h;simp only at h;unfold Cell.okWide at h;rw [ht] at h;cases v<;>first | rfl | skip
 unfold Cell.ok at h;rw [ht] at h;exact h.elim
theorem arg_struct {t:TypeId} {fs:Array Field} (ht:Tryz.prog.underlying t=some (.struct fs)) {v:Value} {d:DataW H} {ps:List MemPlace} (hv:Value.okWide Tryz.prog W .any base t v) (h:DataW.Trod enc Tryz.prog W 0 (fun _=>true) true t v d ps)
  {α:Type} {c:α→List AV} {good:α→Prop} (hr:∀ n,RD enc W n t (rOf c good)) (hb:Rows.uptoBulk d≤UB):∃ a,Rel (ctxR W gTab) (.agg (c a)) v∧good a:=by
 obtain ⟨cs,rfl⟩:=okWide_struct ht hv;obtain ⟨fuel,hf⟩:=h;obtain ⟨_,hd,a,rfl,hg⟩:=hr fuel fuel _ _ _ (Nat.le_refl _) hf hb;exact ⟨a,rel_agg hd,hg⟩
theorem arg_slice {t e:TypeId} (ht:Tryz.prog.underlying t=some (.slice e)) {v:Value} {d:DataW H} {ps:List MemPlace} (hv:Value.okWide Tryz.prog W .any base t v) (h:DataW.Trod enc Tryz.prog W 0 (fun _=>true) true t v d ps)
  {α:Type} {c:α→List AV} {good:α→Prop} (hr:∀ n,RD enc W n t (qOf c good)) (hb:Rows.uptoBulk d≤UB):∃ l:List α,Rel (ctxR W gTab) (.slice (l.map c)) v∧gSl good l:=by
 obtain ⟨fuel,hf⟩:=h;rw [okWide_slice ht hv] at hf;obtain ⟨_,hd,l,rfl,hg⟩:=hr fuel fuel _ _ _ (Nat.le_refl _) hf hb;exact ⟨l,rel_one hd,hg⟩
end
theorem pLaid:laidOutB Tryz.pinned.checked.prog=true:=by kernel_rfl
theorem pMaps:mapsRowed Tryz.pinned.checked.prog=true:=by kernel_rfl
theorem pHeard:Tryz.pinned.checked.prog.stopsHeard=true:=by kernel_rfl
theorem pEnter:Tryz.pinned.checked.prog.mayEnter=true:=by kernel_rfl
end Go.Proofs.YtbimdamecieomaaGreatDoor

set_option maxRecDepth 8000
namespace Go.Proofs.YtbimdamecieomaaGreatDoor
open Go Go.Abs Go.Cw
section
variable {H:Type} {enc:TypeId×Value→H} {w:World} {base:Nat}
theorem okWide_u8 {t:TypeId} (ht:Tryz.prog.underlying t=some (.int .u8)) {v:Value} (h:Value.okWide Tryz.prog w .any base t v):v.cells = #[v]:=by
 unfold Value.okWide at h;rw [ht] at h;simp only at h;unfold Cell.okWide at h;rw [ht] at h;cases v<;>first | rfl | skip
 unfold Cell.ok at h;rw [ht] at h;exact h.elim
theorem arg_u8 {t:TypeId} (ht:Tryz.prog.underlying t=some (.int .u8)) {v:Value} {d:DataW H} {ps:List MemPlace} (hv:Value.okWide Tryz.prog w .any base t v) (h:DataW.Trod enc Tryz.prog w 0 (fun _=>true) true t v d ps)
  (hb:Rows.uptoBulk d≤UB):∃ z:Int,Rel (ctxR w gTab) (.val (.int .u8 z)) v∧0≤z∧z≤255:=by
 obtain ⟨fuel,hf⟩:=h;rw [okWide_u8 ht hv] at hf;obtain ⟨_,hd,z,rfl,h1,h2⟩:=(rd_int (by decide) ht:RD enc w fuel t (qInt .u8)) fuel _ _ _ (Nat.le_refl _) hf hb;exact ⟨z,rel_one hd,h1,h2⟩
end
end Go.Proofs.YtbimdamecieomaaGreatDoor

set_option maxRecDepth 8000
namespace Go.Proofs.YtbimdamecieomaaGreatDoor
open Go Go.Abs Go.Cw
section
variable {H:Type} {enc:TypeId×Value→H} {w:World} {base:Nat}
def batL (b:List Proc×List Pr×List Txn):List AV:=[.slice (b.1.map Proc.c),.slice (b.2.1.map Pr.c),.slice (b.2.2.map Txn.c)]
theorem rd_Foots {n:Nat}:RD enc w n 38 (qOf Foot.c gFoot):=rd_of Tryz.underlying38 (sz:=3) (by kernel_rfl) (by decide) (fun _=>rfl) rd_Foot
theorem rd_Ints {n:Nat}:RD enc w n 27 (qOf qb1 i64):=rd_of Tryz.underlying27 (sz:=1) (by kernel_rfl) (by decide) (fun _=>rfl) (rd_I.mono (by rintro _ ⟨z,rfl,h1,h2⟩;exact ⟨z,rfl,h1,h2⟩))
theorem rd_Batch24:∀ {n:Nat},RD enc w n 26 (rOf batL gBatch)
 | 0=>Rd.zero
 | n+1=>by
  refine (qdw (Qs:=[qOf Proc.c gProc,qOf Pr.c gP,qOf Txn.c gTxn]) bulkB Tryz.underlying26 ?_).mono ?_
  ·
   simp only [Flds];exact ⟨(by first | rfl | trivial),1,by kernel_rfl,rd_Procs,len_of,(by first | rfl | trivial),1,by kernel_rfl,rd_Ps,len_of,(by first | rfl | trivial),1,by kernel_rfl,rd_Txns,len_of,by first | kernel_rfl | trivial⟩
  ·
   rintro _ ⟨ps,hp0,rfl⟩;obtain ⟨_,_,rfl,⟨p,rfl,hp⟩,hp1⟩:=qat hp0;obtain ⟨_,_,rfl,⟨l,rfl,hl⟩,hp2⟩:=qat hp1;obtain ⟨_,_,rfl,⟨t,rfl,ht⟩,hp3⟩:=qat hp2;obtain rfl:=qdx hp3;exact ⟨(p,l,t),rfl,hp,hl,ht⟩
end
end Go.Proofs.YtbimdamecieomaaGreatDoor
