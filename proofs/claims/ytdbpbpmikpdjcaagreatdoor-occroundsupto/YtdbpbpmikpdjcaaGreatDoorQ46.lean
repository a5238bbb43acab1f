/- Part 46 of a proof: W57, OP, OS, LB, OU, OB -/
import Derived.Test.YtdbpbpmikpdjcaaGreatDoorRows
import Derived.KernelRfl
import Derived.Test.YtdbpbpmikpdjcaaGreatDoorCards
import Derived.Test.YtdbpbpmikpdjcaaGreatDoorTie
import Derived.ProofKit
import Derived.OpenShut
import Derived.Carry
import Derived.Deep.DeepHandedRow
import Derived.Lib.LaidTab
import Derived.Stop.LaidErr
import Derived.Test.YtdbpbpmikpdjcaaGreatDoorQ18
import Derived.Test.YtdbpbpmikpdjcaaGreatDoorQ23
import Derived.Test.YtdbpbpmikpdjcaaGreatDoorQ29
import Derived.Test.YtdbpbpmikpdjcaaGreatDoorQ34
import Derived.Test.YtdbpbpmikpdjcaaGreatDoorQ40
import Derived.Test.YtdbpbpmikpdjcaaGreatDoorQ45
set_option linter.all false

set_option maxRecDepth 8000
set_option maxHeartbeats 2000000
namespace Go.Proofs.YtdbpbpmikpdjcaaGreatDoor
open Go Go.Abs Go.Cw
section
variable {tT:TypeId} {tx:Nat×Nat} {g:Nat}
theorem c_law27_OccRounds (procs:List Proc) (s:List Pr) (l:List Txn) (h:qac) (hg:h[g]?=some (tabO tT tx)) (hB:BatchIn qbm procs l) (hs:rngL s) (hL:s.length+64 * l.length≤60000000000) :
  ACalls Tryz.prog 3 [.agg (batC procs s l)] h fun r h'=>r=.ret (Bo true)∧h'=h:=by
 refine qa0 Tryz.func3 Tryz.ntmps3 rfl (by kernel_rfl) rfl fun E hN hh hu hb hb' hua=>?_
 have hgl:g<h.length:=(List.getElem?_eq_some_iff.1 hg).1
 have hg':∀ l:qac,(h++l)[g]?=some (tabO tT tx):=fun l=>by rw [List.getElem?_append_left hgl];exact hg
 have hocc:=fun H hH=>c_occ_Round (g:=g) (tT:=tT) (tx:=tx) procs s l H hH hB hs hL
 have hspec:=fun H hH=>c_occ_Speculate (g:=g) (tT:=tT) (tx:=tx) procs s l H hH hB hs (by omega)
 have hr1:=c_ref27_Round procs s l hB hs hL
 have hr2:=c_ref27_Speculate procs s l hB hs (by omega)
 obtain ⟨hEl,hMl⟩:=occ_len (fmt:=qbm) (procs:=procs) (s:=s) l
 obtain ⟨S0,hS0⟩:∃ S0,(qdo qbm procs s l).1=S0:=⟨_,rfl⟩
 obtain ⟨Es,hEs⟩:∃ Es,(qdo qbm procs s l).2.1=Es:=⟨_,rfl⟩
 obtain ⟨M,hM⟩:∃ M,(qdo qbm procs s l).2.2=M:=⟨_,rfl⟩
 obtain ⟨SP,hSP⟩:∃ SP,specS qbm procs s l=SP:=⟨_,rfl⟩
 simp only [hS0,hEs,hM] at hocc hr1
 simp only [hSP] at hspec hr2
 simp only [hEs,hM] at hEl hMl
 simp [go_sem,batC] at hb
 simp -dsimp [go_sem,hN,batC]
 refine qam (hocc _ (hg' _)) ?_
 rintro r h' ⟨rfl,rfl⟩
 simp -dsimp [go_sem,hN]
 refine qaa hr1 ?_
 simp -dsimp [go_sem,hN]
 refine qah 31 mixed (by kernel_rfl) (by kernel_rfl) ?_
 simp -dsimp [go_sem,hN]
 refine qay (c_same_refl S0) (by simp) ?_
 simp -dsimp [go_sem,hN]
 refine qay (c_effs_refl Es) (by simp) ?_
 simp -dsimp [go_sem,hN]
 refine tdcall_at (fun _=>at_tab (fun h hg=>hspec h hg) (hg' _)) (by simp) ?_
 simp -dsimp [go_sem,hN]
 refine qaf hr2 (by simp) ?_
 simp -dsimp [go_sem,hN]
 refine qaf (c_effs_refl SP) (by simp) ?_
 simp -dsimp [go_sem,hN]
 refine qai M.length (fun n=>True) (fun n=>⟨[(5,.slice (M.map bRow)),(8,.slice (M.map bRow)),(9,I n)],h⟩) trivial (Wk.mk (by simp [hh]) (by simp [go_sem]) (by simp [hu,qab hu,go_sem]) (by simp [go_sem])) ?_
 intro n hn _
 have hw:=qav hn (show _≤68719476736 by omega)
 simp -dsimp [go_sem,hN]
 refine cnd ?_ ?_<;>intro hc<;>simp at hc
 ·
  simp -dsimp [go_sem,hN,hc]
  refine qah 8 mixed (by kernel_rfl) (by kernel_rfl) ?_
  simp -dsimp [go_sem,hN,hc,hw,bRow]
  exact (Wk.mk (by simp [hh]) (by simp [go_sem]) (by simp [hu,qab hu,go_sem]) (by simp [go_sem]))
 ·
  simp -dsimp [go_sem,hN]
  refine qam (c_law27_examples _ hg) ?_
  rintro r h' ⟨rfl,rfl⟩
  simp -dsimp [go_sem,hN]
  exact ⟨_,.refl _,h',by simp [go_sem],hwk.refl _,Nat.le_refl _,hu,rfl,rfl⟩
end
end Go.Proofs.YtdbpbpmikpdjcaaGreatDoor

set_option maxRecDepth 8000
namespace Go.Proofs.YtdbpbpmikpdjcaaGreatDoor
open Go Go.Abs Go.Cw
section
variable {H:Type} {enc:TypeId×Value→H} {w:World}
theorem bulk_part {d:DataW H} {l:List (DataW H)} (h:d∈l):Rows.uptoBulk d≤Rows.uptoBulkAll l:=by
 induction l with
 | nil=>cases h
 | cons x r ih =>
  simp only [Rows.uptoBulkAll]
  rcases List.mem_cons.1 h with rfl | e
  · omega
  · have:=ih e;omega
theorem bulk_one (d:DataW H):1≤Rows.uptoBulk d:=by
 cases d with
 | lit l=>cases l<;>simp [Rows.uptoBulk]
 | nil=>simp [Rows.uptoBulk]
 | ptr d=>simp [Rows.uptoBulk]
 | slice elems spare=>simp [Rows.uptoBulk]
 | agg parts=>simp [Rows.uptoBulk]
 | iface t d=>simp [Rows.uptoBulk]
 | map entries=>simp [Rows.uptoBulk]
 | held h=>simp [Rows.uptoBulk]
theorem bulk_len (l:List (DataW H)):l.length≤Rows.uptoBulkAll l:=by
 induction l with
 | nil=>simp [Rows.uptoBulkAll]
 | cons x r ih=>have:=bulk_one x;simp only [Rows.uptoBulkAll,List.length_cons];omega
theorem bulkB:Bulk (H:=H) Rows.uptoBulk where
 str:=fun s=>by simp [Rows.uptoBulk]
 len:=fun e s=>by have:=bulk_len e;simp only [Rows.uptoBulk];omega
 sl:=fun e s x hx=>by have:=bulk_part hx;simp only [Rows.uptoBulk];omega
 agg:=fun ps x hx=>by have:=bulk_part hx;simp only [Rows.uptoBulk];omega
abbrev UB:Nat:=1048576
variable (enc w) in
abbrev RD (n:Nat) (t:TypeId) (Q:List AV→Prop):Prop:=Rd enc Tryz.prog w Rows.uptoBulk UB n t Q
theorem ub_le:UB≤68719476736:=by decide
def rOf {α:Type} (c:α→List AV) (good:α→Prop) (xs:List AV):Prop:=∃ a,xs=c a∧good a
def gStr (s:qad):Prop:=s.size≤UB
def gSl {α:Type} (good:α→Prop) (l:List α):Prop:=l.length≤UB∧∀ a∈l,good a
def qOf {α:Type} (c:α→List AV) (good:α→Prop) (xs:List AV):Prop:=rOf (fun l:List α=>[.slice (l.map c)]) (gSl good) xs
theorem rd_of {n:Nat} {t e:TypeId} (ht:Tryz.prog.underlying t=some (.slice e)) {sz:Nat} (hsz:Tryz.prog.cellsOf e=sz) (h0:0<sz) {α:Type} {c:α→List AV} {good:α→Prop} (hl:∀ a,(c a).length=sz) (he:RD enc w n e (rOf c good)):RD enc w n t (qOf c good):=by
 refine (rd_slice bulkB ub_le ht hsz h0 (by rintro _ ⟨a,rfl,_⟩;exact hl a) he).mono ?_
 rintro _ ⟨rows,rfl,hlen,hq⟩
 obtain ⟨l,rfl,hg⟩:=rows_list hq
 exact ⟨l,rfl,by simpa using hlen,hg⟩
theorem len_of {α:Type} {c:α→List AV} {good:α→Prop}:∀ xs,qOf c good xs→xs.length=1:=by rintro _ ⟨l,rfl,_⟩;rfl
theorem rd_I {n:Nat}:RD enc w n 3 (qInt .i64):=rd_int (by decide) Tryz.underlying3
theorem rd_I64 {n:Nat}:RD enc w n 2 (qInt .i64):=rd_int (by decide) Tryz.underlying2
theorem rd_S {n:Nat}:RD enc w n 9 (qStr UB):=rd_str bulkB ub_le Tryz.underlying9
theorem rd_B {n:Nat}:RD enc w n 4 qBool:=rd_bool Tryz.underlying4
theorem i64_of {z:Int} (h:IntKind.i64.min≤z∧z≤IntKind.i64.max):i64 z:=⟨h.1,h.2⟩
theorem rd_V:∀ {n:Nat},RD enc w n 77 (rOf V.c qdh)
 | 0=>Rd.zero
 | n+1=>by
  refine (qea (Qs:=[qInt .i64,qInt .i64,qStr UB]) bulkB Tryz.underlying77 ?_).mono ?_
  ·
   simp only [Flds]
   exact ⟨(by first | rfl | trivial),1,by kernel_rfl,rd_I,len_int,(by first | rfl | trivial),1,by kernel_rfl,rd_I64,len_int,(by first | rfl | trivial),1,by kernel_rfl,rd_S,len_str,by first | kernel_rfl | trivial⟩
  ·
   rintro _ ⟨ps,hp0,rfl⟩
   obtain ⟨_,_,rfl,⟨k,rfl,_⟩,hp1⟩:=qaq hp0
   obtain ⟨_,_,rfl,⟨z,rfl,hz⟩,hp2⟩:=qaq hp1
   obtain ⟨_,_,rfl,⟨s,rfl,hs⟩,hp3⟩:=qaq hp2
   obtain rfl:=qeb hp3
   exact ⟨⟨k,z,s⟩,rfl,i64_of hz,by show s.size≤_;unfold UB at hs;omega⟩
def gP (p:Pr):Prop:=p.key.size≤UB∧qdh p.v
theorem rd_P:∀ {n:Nat},RD enc w n 79 (rOf Pr.c gP)
 | 0=>Rd.zero
 | n+1=>by
  refine (qea (Qs:=[qStr UB,rOf V.c qdh]) bulkB Tryz.underlying79 ?_).mono ?_
  ·
   simp only [Flds]
   exact ⟨(by first | rfl | trivial),1,by kernel_rfl,rd_S,len_str,(by first | rfl | trivial),3,by kernel_rfl,rd_V,by rintro _ ⟨v,rfl,_⟩;rfl,by first | kernel_rfl | trivial⟩
  ·
   rintro _ ⟨ps,hp0,rfl⟩
   obtain ⟨_,_,rfl,⟨k,rfl,hk⟩,hp1⟩:=qaq hp0
   obtain ⟨_,_,rfl,⟨v,rfl,hv⟩,hp2⟩:=qaq hp1
   obtain rfl:=qeb hp2
   exact ⟨⟨k,v⟩,rfl,hk,hv⟩
theorem rd_Vs {n:Nat}:RD enc w n 36 (qOf V.c qdh):=rd_of Tryz.underlying36 (sz:=3) (by kernel_rfl) (by decide) (fun _=>rfl) rd_V
theorem rd_Ps {n:Nat}:RD enc w n 23 (qOf Pr.c gP):=rd_of Tryz.underlying23 (sz:=4) (by kernel_rfl) (by decide) (fun _=>rfl) rd_P
theorem rd_Ss {n:Nat}:RD enc w n 37 (qOf qbe gStr):=rd_of Tryz.underlying37 (sz:=1) (by kernel_rfl) (by decide) (fun _=>rfl) (rd_S.mono (by rintro _ ⟨s,rfl,hs⟩;exact ⟨s,rfl,hs⟩))
theorem rd_E:∀ (n:Nat),RD enc w n 114 (rOf Ex.c rngX)
 | 0=>Rd.zero
 | n+1=>by
  have hs:RD enc w n 112 (qOf Ex.c rngX):=rd_of Tryz.underlying112 (sz:=4) (by kernel_rfl) (by decide) (fun e=>by rw [Ex.c_eq];rfl) (rd_E n)
  refine (qea (Qs:=[qInt .i64,qInt .i64,qStr UB,qOf Ex.c rngX]) bulkB Tryz.underlying114 ?_).mono ?_
  ·
   simp only [Flds]
   exact ⟨(by first | rfl | trivial),1,by kernel_rfl,rd_I,len_int,(by first | rfl | trivial),1,by kernel_rfl,rd_I64,len_int,(by first | rfl | trivial),1,by kernel_rfl,rd_S,len_str,(by first | rfl | trivial),1,by kernel_rfl,hs,len_of,by first | kernel_rfl | trivial⟩
  ·
   rintro _ ⟨ps,hp0,rfl⟩
   obtain ⟨_,_,rfl,⟨k,rfl,_⟩,hp1⟩:=qaq hp0
   obtain ⟨_,_,rfl,⟨z,rfl,hz⟩,hp2⟩:=qaq hp1
   obtain ⟨_,_,rfl,⟨s,rfl,hs⟩,hp3⟩:=qaq hp2
   obtain ⟨_,_,rfl,⟨l,rfl,hl⟩,hp4⟩:=qaq hp3
   obtain rfl:=qeb hp4
   refine ⟨.mk k z s l,by rw [Ex.c_eq];rfl,(qd9 _).2 ⟨⟨i64_of hz,by show s.size≤_;unfold UB at hs;omega⟩,hl.2⟩⟩
theorem rd_T:∀ (n:Nat),RD enc w n 118 (rOf St.c rngS)
 | 0=>Rd.zero
 | n+1=>by
  have hs:RD enc w n 66 (qOf St.c rngS):=rd_of Tryz.underlying66 (sz:=13) (by kernel_rfl) (by decide) (fun e=>by rw [St.c_eq];rfl) (rd_T n)
  refine (qea (Qs:=[qInt .i64,qStr UB,qInt .i64,rOf Ex.c rngX,rOf Ex.c rngX,qOf St.c rngS,qOf St.c rngS]) bulkB Tryz.underlying118 ?_).mono ?_
  ·
   simp only [Flds]
   exact ⟨(by first | rfl | trivial),1,by kernel_rfl,rd_I,len_int,(by first | rfl | trivial),1,by kernel_rfl,rd_S,len_str,(by first | rfl | trivial),1,by kernel_rfl,rd_I,len_int,(by first | rfl | trivial),4,by kernel_rfl,rd_E n,by rintro _ ⟨e,rfl,_⟩;rw [Ex.c_eq];rfl,(by first | rfl | trivial),4,by kernel_rfl,rd_E n,by rintro _ ⟨e,rfl,_⟩;rw [Ex.c_eq];rfl,(by first | rfl | trivial),1,by kernel_rfl,hs,len_of,(by first | rfl | trivial),1,by kernel_rfl,hs,len_of,by first | kernel_rfl | trivial⟩
  ·
   rintro _ ⟨ps,hp0,rfl⟩
   obtain ⟨_,_,rfl,⟨k,rfl,_⟩,hp1⟩:=qaq hp0
   obtain ⟨_,_,rfl,⟨s,rfl,hs⟩,hp2⟩:=qaq hp1
   obtain ⟨_,_,rfl,⟨m,rfl,_⟩,hp3⟩:=qaq hp2
   obtain ⟨_,_,rfl,⟨a,rfl,ha⟩,hp4⟩:=qaq hp3
   obtain ⟨_,_,rfl,⟨b,rfl,hb⟩,hp5⟩:=qaq hp4
   obtain ⟨_,_,rfl,⟨l,rfl,hl⟩,hp6⟩:=qaq hp5
   obtain ⟨_,_,rfl,⟨l',rfl,hl'⟩,hp7⟩:=qaq hp6
   obtain rfl:=qeb hp7
   refine ⟨.mk k s m a b l l',?_,(rngS_iff _).2 ⟨ha,hb,hl.2,hl'.2⟩⟩
   simp [St.c,St.cl_map]
theorem rd_Ts {n:Nat}:RD enc w n 66 (qOf St.c rngS):=rd_of Tryz.underlying66 (sz:=13) (by kernel_rfl) (by decide) (fun e=>by rw [St.c_eq];rfl) (rd_T n)
theorem rd_M:∀ {n:Nat},RD enc w n 116 (rOf Param.c fun p=>gStr p.name)
 | 0=>Rd.zero
 | n+1=>by
  refine (qea (Qs:=[qStr UB,qInt .i64]) bulkB Tryz.underlying116 ?_).mono ?_
  ·
   simp only [Flds]
   exact ⟨(by first | rfl | trivial),1,by kernel_rfl,rd_S,len_str,(by first | rfl | trivial),1,by kernel_rfl,rd_I,len_int,by first | kernel_rfl | trivial⟩
  ·
   rintro _ ⟨ps,hp0,rfl⟩
   obtain ⟨_,_,rfl,⟨s,rfl,hs⟩,hp1⟩:=qaq hp0
   obtain ⟨_,_,rfl,⟨k,rfl,_⟩,hp2⟩:=qaq hp1
   obtain rfl:=qeb hp2
   exact ⟨⟨s,k⟩,rfl,hs⟩
theorem rd_Ms {n:Nat}:RD enc w n 65 (qOf Param.c fun p=>gStr p.name):=rd_of Tryz.underlying65 (sz:=2) (by kernel_rfl) (by decide) (fun _=>rfl) rd_M
def gProc (p:Proc):Prop:=gStr p.name∧gSl (fun x:Param=>gStr x.name) p.params∧gSl rngS p.body
theorem rd_Proc:∀ {n:Nat},RD enc w n 68 (rOf Proc.c gProc)
 | 0=>Rd.zero
 | n+1=>by
  refine (qea (Qs:=[qStr UB,qOf Param.c fun p=>gStr p.name,qOf St.c rngS]) bulkB Tryz.underlying68 ?_).mono ?_
  ·
   simp only [Flds]
   exact ⟨(by first | rfl | trivial),1,by kernel_rfl,rd_S,len_str,(by first | rfl | trivial),1,by kernel_rfl,rd_Ms,len_of,(by first | rfl | trivial),1,by kernel_rfl,rd_Ts,len_of,by first | kernel_rfl | trivial⟩
  ·
   rintro _ ⟨ps,hp0,rfl⟩
   obtain ⟨_,_,rfl,⟨s,rfl,hs⟩,hp1⟩:=qaq hp0
   obtain ⟨_,_,rfl,⟨l,rfl,hl⟩,hp2⟩:=qaq hp1
   obtain ⟨_,_,rfl,⟨b,rfl,hb⟩,hp3⟩:=qaq hp2
   obtain rfl:=qeb hp3
   exact ⟨⟨s,l,b⟩,rfl,hs,hl,hb⟩
def gFoot (f:Foot):Prop:=gSl gStr f.reads∧gSl gStr f.writes
theorem rd_Foot:∀ {n:Nat},RD enc w n 39 (rOf Foot.c gFoot)
 | 0=>Rd.zero
 | n+1=>by
  refine (qea (Qs:=[qBool,qOf qbe gStr,qOf qbe gStr]) bulkB Tryz.underlying39 ?_).mono ?_
  ·
   simp only [Flds]
   exact ⟨(by first | rfl | trivial),1,by kernel_rfl,rd_B,len_bool,(by first | rfl | trivial),1,by kernel_rfl,rd_Ss,len_of,(by first | rfl | trivial),1,by kernel_rfl,rd_Ss,len_of,by first | kernel_rfl | trivial⟩
  ·
   rintro _ ⟨ps,hp0,rfl⟩
   obtain ⟨_,_,rfl,⟨b,rfl⟩,hp1⟩:=qaq hp0
   obtain ⟨_,_,rfl,⟨l,rfl,hl⟩,hp2⟩:=qaq hp1
   obtain ⟨_,_,rfl,⟨l',rfl,hl'⟩,hp3⟩:=qaq hp2
   obtain rfl:=qeb hp3
   exact ⟨⟨b,l,l'⟩,rfl,hl,hl'⟩
structure gEff (e:Eff):Prop where
 out:gSl qdh e.out
 reads:gSl gStr e.reads
 puts:gSl gStr e.puts
 writes:gSl gP e.writes
 miss:gStr e.miss
end
end Go.Proofs.YtdbpbpmikpdjcaaGreatDoor

set_option maxRecDepth 8000
namespace Go.Proofs.YtdbpbpmikpdjcaaGreatDoor
open Go Go.Abs Go.Cw
section
variable {H:Type} {enc:TypeId×Value→H} {w:World}
structure gTxn (t:Txn):Prop where
 id:i64 t.id
 proc:gStr t.proc
 args:gSl qdh t.args
 ft:gFoot t.ft
 att:i64 t.att
theorem rd_Txn:∀ {n:Nat},RD enc w n 41 (rOf Txn.c gTxn)
 | 0=>Rd.zero
 | n+1=>by
  refine (qea (Qs:=[qInt .i64,qStr UB,qOf V.c qdh,rOf Foot.c gFoot,qInt .i64]) bulkB Tryz.underlying41 ?_).mono ?_
  ·
   simp only [Flds]
   exact ⟨(by first | rfl | trivial),1,by kernel_rfl,rd_I64,len_int,(by first | rfl | trivial),1,by kernel_rfl,rd_S,len_str,(by first | rfl | trivial),1,by kernel_rfl,rd_Vs,len_of,(by first | rfl | trivial),3,by kernel_rfl,rd_Foot,by rintro _ ⟨v,rfl,_⟩;rfl,(by first | rfl | trivial),1,by kernel_rfl,rd_I,len_int,by first | kernel_rfl | trivial⟩
  ·
   rintro _ ⟨ps,hp0,rfl⟩
   obtain ⟨_,_,rfl,⟨k,rfl,hk⟩,hp1⟩:=qaq hp0
   obtain ⟨_,_,rfl,⟨s,rfl,hs⟩,hp2⟩:=qaq hp1
   obtain ⟨_,_,rfl,⟨l,rfl,hl⟩,hp3⟩:=qaq hp2
   obtain ⟨_,_,rfl,⟨f,rfl,hf⟩,hp4⟩:=qaq hp3
   obtain ⟨_,_,rfl,⟨z,rfl,hz⟩,hp5⟩:=qaq hp4
   obtain rfl:=qeb hp5
   exact ⟨⟨k,s,l,f,z⟩,rfl,i64_of hk,hs,hl,hf,i64_of hz⟩
theorem rd_Txns {n:Nat}:RD enc w n 24 (qOf Txn.c gTxn):=rd_of Tryz.underlying24 (sz:=7) (by kernel_rfl) (by decide) (fun _=>rfl) rd_Txn
theorem rd_Procs {n:Nat}:RD enc w n 22 (qOf Proc.c gProc):=rd_of Tryz.underlying22 (sz:=3) (by kernel_rfl) (by decide) (fun _=>rfl) rd_Proc
theorem batchIn_of {procs:List Proc} {l:List Txn} (hp:gSl gProc procs) (hl:gSl gTxn l):BatchIn qbm procs l:=⟨plain_itoa,fun p h=>(hp.2 p h).2.2.2,fun t h=>(hl.2 t h).args.2⟩
theorem rngL_of {s:List Pr} (h:gSl gP s):rngL s:=fun q hq=>(h.2 q hq).2
def gBatch (b:List Proc×List Pr×List Txn):Prop:=gSl gProc b.1∧gSl gP b.2.1∧gSl gTxn b.2.2
end
end Go.Proofs.YtdbpbpmikpdjcaaGreatDoor

set_option maxRecDepth 8000
namespace Go.Proofs.YtdbpbpmikpdjcaaGreatDoor
open Go Go.Abs Go.Cw Go.ChangeShapes Go.WideShapes Go.ChangeAt Go.RowKit
theorem laidOut:laidOutB Tryz.prog=true:=by kernel_rfl
theorem ownK:ownKnob Tryz.prog.godebug=none:=by kernel_rfl
abbrev laidL:List (String×DataW Unit):=[("math/bits.deBruijn32tab",Rows.laid_math_bits_deBruijn32tab),("math/bits.deBruijn64tab",Rows.laid_math_bits_deBruijn64tab),("internal/strconv.uint64pow10",Rows.laid_internal_strconv_uint64pow10)]
abbrev gTab:Nat:=1
theorem table {W:World} (h:laidMetH Tryz.prog laidL W):Lib.TabIs Tryz.prog W "internal/strconv.uint64pow10" .u64 Lib.pow10Tab :=
 Lib.tabIs_of_head (rest:=[]) (g:=gTab) (n:=20) (by kernel_rfl) (by kernel_rfl) Tryz.underlying298 Tryz.underlying219 (by kernel_rfl) (by kernel_rfl) (laidMet.tail (laidMet.tail (show laidMet Tryz.prog laidL W from h)))
theorem table_heap {W:World} (h:laidMetH Tryz.prog laidL W):∃ T x,W.heap[gTab]?=some (.cells tabV T x):=by
 have h1:=table h
 unfold Lib.TabIs World.var? at h1
 rw [show Tryz.prog.globalNamed "internal/strconv.uint64pow10" = some gTab by kernel_rfl] at h1
 simp only [Option.bind_some] at h1
 split at h1
 ·
  rename_i cs T x hx
  cases h1
  exact ⟨T,x,hx⟩
 · cases h1
theorem tab_u64:∀ (j:Nat) (v:Value),tabV[j]?=some v→∃ n,v=.int .u64 n:=by
 intro j v hv
 unfold tabV at hv
 have:(Lib.pow10Tab.map fun z=>Value.int .u64 z)[j]?=some v:=by simpa using hv
 rw [List.getElem?_map,Option.map_eq_some_iff] at this
 obtain ⟨z,_,rfl⟩:=this
 exact ⟨z,rfl⟩
def putTab (zs:List Value):Obj→Obj
 | .cells _ t fr=>.cells zs.toArray t fr
 | o=>o
def tabVals (d:DataW Unit):List Value:=match d with
 | .agg ps=>ps.map fun | .lit (.int k n)=>.int k n | _=>undef
 | _=>[]
noncomputable def laidWorld (os:Os):World :=
 { World.holding Tryz.prog os ⟨#[],#[],[]⟩ with heap:=(((World.holding Tryz.prog os ⟨#[],#[],[]⟩).heap.modify gTab (putTab (tabVals Rows.laid_internal_strconv_uint64pow10))).modify 2 (putTab (tabVals Rows.laid_math_bits_deBruijn32tab))).modify 3 (putTab (tabVals Rows.laid_math_bits_deBruijn64tab)) }
section
variable {H:Type} {enc:TypeId×Value→H} {W:World} {base:Nat}
theorem okWide_struct {t:TypeId} {fs:Array Field} (ht:Tryz.prog.underlying t=some (.struct fs)) {v:Value} (h:Value.okWide Tryz.prog W .any base t v):∃ cs,v=.agg cs:=by
 unfold Value.okWide at h
 rw [ht] at h
 obtain ⟨cs,rfl,_⟩:=h
 exact ⟨cs,rfl⟩
theorem arg_struct {t:TypeId} {fs:Array Field} (ht:Tryz.prog.underlying t=some (.struct fs)) {v:Value} {d:DataW H} {ps:List MemPlace} (hv:Value.okWide Tryz.prog W .any base t v) (h:DataW.Trod enc Tryz.prog W 0 (fun _=>true) true t v d ps)
  {α:Type} {c:α→List AV} {good:α→Prop} (hr:∀ n,RD enc W n t (rOf c good)) (hb:Rows.uptoBulk d≤UB):∃ a,Rel (ctxR W gTab) (.agg (c a)) v∧good a:=by
 obtain ⟨cs,rfl⟩:=okWide_struct ht hv
 obtain ⟨fuel,hf⟩:=h
 obtain ⟨_,hd,a,rfl,hg⟩:=hr fuel fuel _ _ _ (Nat.le_refl _) hf hb
 exact ⟨a,rel_agg hd,hg⟩
end
theorem pLaid:laidOutB Tryz.pinned.checked.prog=true:=by kernel_rfl
theorem pMaps:mapsRowed Tryz.pinned.checked.prog=true:=by kernel_rfl
theorem pHeard:Tryz.pinned.checked.prog.stopsHeard=true:=by kernel_rfl
theorem pEnter:Tryz.pinned.checked.prog.mayEnter=true:=by kernel_rfl
end Go.Proofs.YtdbpbpmikpdjcaaGreatDoor

set_option maxRecDepth 8000
namespace Go.Proofs.YtdbpbpmikpdjcaaGreatDoor
open Go Go.Abs Go.Cw
section
variable {H:Type} {enc:TypeId×Value→H} {w:World} {base:Nat}
end
end Go.Proofs.YtdbpbpmikpdjcaaGreatDoor

set_option maxRecDepth 8000
namespace Go.Proofs.YtdbpbpmikpdjcaaGreatDoor
open Go Go.Abs Go.Cw
section
variable {H:Type} {enc:TypeId×Value→H} {w:World} {base:Nat}
theorem rd_Batch27:∀ {n:Nat},RD enc w n 26 (rOf (fun b:List Proc×List Pr×List Txn=>batC b.1 b.2.1 b.2.2) gBatch)
 | 0=>Rd.zero
 | n+1=>by
  refine (qea (Qs:=[qOf Proc.c gProc,qOf Pr.c gP,qOf Txn.c gTxn]) bulkB Tryz.underlying26 ?_).mono ?_
  ·
   simp only [Flds]
   exact ⟨(by first | rfl | trivial),1,by kernel_rfl,rd_Procs,len_of,(by first | rfl | trivial),1,by kernel_rfl,rd_Ps,len_of,(by first | rfl | trivial),1,by kernel_rfl,rd_Txns,len_of,by first | kernel_rfl | trivial⟩
  ·
   rintro _ ⟨ps,hp0,rfl⟩
   obtain ⟨_,_,rfl,⟨p,rfl,hp⟩,hp1⟩:=qaq hp0
   obtain ⟨_,_,rfl,⟨l,rfl,hl⟩,hp2⟩:=qaq hp1
   obtain ⟨_,_,rfl,⟨t,rfl,ht⟩,hp3⟩:=qaq hp2
   obtain rfl:=qeb hp3
   exact ⟨(p,l,t),rfl,hp,hl,ht⟩
theorem batch_len {b:List Proc×List Pr×List Txn} (h:gBatch b):b.2.1.length+64 * b.2.2.length≤60000000000:=by
 have h1:=h.2.1.1
 have h2:=h.2.2.1
 unfold UB at h1 h2
 omega
end
end Go.Proofs.YtdbpbpmikpdjcaaGreatDoor
