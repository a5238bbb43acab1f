/- Part 40 of a proof: W31, W32, W55, W54, W56, W40, W44 -/
import Derived.Shelf.Small.Strs
import Derived.Shelf.Strconv.Itoa4
import Derived.Lib.ItoaLen
import Derived.Test.YtdbpbpmikpdjcaaGreatDoorQ13
import Derived.Test.YtdbpbpmikpdjcaaGreatDoorQ14
import Derived.Test.YtdbpbpmikpdjcaaGreatDoorQ15
import Derived.Test.YtdbpbpmikpdjcaaGreatDoorQ18
import Derived.Test.YtdbpbpmikpdjcaaGreatDoorQ19
import Derived.Test.YtdbpbpmikpdjcaaGreatDoorQ20
import Derived.Test.YtdbpbpmikpdjcaaGreatDoorQ21
import Derived.Test.YtdbpbpmikpdjcaaGreatDoorQ23
import Derived.Test.YtdbpbpmikpdjcaaGreatDoorQ25
import Derived.Test.YtdbpbpmikpdjcaaGreatDoorQ28
import Derived.Test.YtdbpbpmikpdjcaaGreatDoorQ29
import Derived.Test.YtdbpbpmikpdjcaaGreatDoorQ30
import Derived.Test.YtdbpbpmikpdjcaaGreatDoorQ31
import Derived.Test.YtdbpbpmikpdjcaaGreatDoorQ33
import Derived.Test.YtdbpbpmikpdjcaaGreatDoorQ34
import Derived.Test.YtdbpbpmikpdjcaaGreatDoorQ39
set_option linter.all false

set_option maxRecDepth 8000
set_option maxHeartbeats 2000000
namespace Go.Proofs.YtdbpbpmikpdjcaaGreatDoor
open Go Go.Abs Go.Cw
def bk:qad:=⟨#[107]⟩
def bn:qad:=⟨#[110]⟩
def bx:qad:=⟨#[120]⟩
def addP:Proc:=⟨⟨#[97,100,100]⟩,[⟨bk,2⟩,⟨bn,1⟩],[.mk 3 em 0 (.mk 3 0 bk []) (.mk 4 0 em [.mk 22 0 em [.mk 3 0 bk []],.mk 3 0 bn []]) [] []]⟩
theorem at_tab {tT:TypeId} {tx:Nat×Nat} {g:Nat} {f:FuncId} {args:List AV} {r:AV} {h:qac} (H:∀ h,h[g]?=some (tabO tT tx)→ACalls Tryz.prog f args h fun e h'=>e=.ret r∧h'=h) (hg:h[g]?=some (tabO tT tx)):APureAt Tryz.prog f args r h:=fun h' hs=>H h' (hs g _ _ _ hg)
theorem ok_digit (k:Nat) (h:k<10):okB (UInt8.ofNat (48+k))=true:=by
 have:∀ k:Fin 10,okB (UInt8.ofNat (48+k.val))=true:=by decide
 exact this ⟨k,h⟩
theorem ok_digits:∀ (u:Nat),∀ b∈Lib.decDigits u,okB b=true:=by
 intro u
 induction u using Nat.strongRecOn with
 | ind u ih =>
  intro b hb
  rw [Lib.decDigits] at hb
  split at hb
  ·
   rename_i h
   simp only [List.mem_singleton] at hb
   subst hb
   exact ok_digit _ h
  ·
   rename_i h
   rw [List.mem_append] at hb
   rcases hb with hb | hb
   · exact ih (u / 10) (by omega) b hb
   ·
    simp only [List.mem_singleton] at hb
    subst hb
    exact ok_digit _ (Nat.mod_lt _ (by decide))
theorem plain_itoa (n:Int) (hn:i64 n):qa6 (qbm n)=true:=by
 have hl:=Lib.itoa_length_le n hn.1 hn.2
 unfold qa6
 rw [Bool.and_eq_true,decide_eq_true_eq,allL_iff]
 refine ⟨fun b hb=>?_,?_⟩
 ·
  have hb:b∈Lib.itoa n:=by simpa [bl,qbm] using hb
  unfold Lib.itoa at hb
  split at hb
  ·
   rcases List.mem_cons.1 hb with rfl | hb
   · decide
   · exact ok_digits _ b hb
  · exact ok_digits _ b hb
 ·
  show (((Lib.itoa n).toArray.size:Nat):Int)≤64
  rw [List.size_toArray]
  omega
section
variable {tT:TypeId} {tx:Nat×Nat} {g:Nat}
end
end Go.Proofs.YtdbpbpmikpdjcaaGreatDoor

set_option maxRecDepth 8000
set_option maxHeartbeats 2000000
namespace Go.Proofs.YtdbpbpmikpdjcaaGreatDoor
open Go Go.Abs Go.Cw
theorem sameL_refl {α:Type} {f:α→α→Bool} (hf:∀ x,f x x=true):∀ l,qc8 f l l=true
 | []=>rfl
 | x::l=>by simp [qc8,hf,sameL_refl hf l]
theorem sameE_refl (e:Eff):sameE e e=true:=by
 simp [sameE,sameL_refl (f:=eqVal) (fun x=>by simp [eqVal]),sameL_refl (f:=eqB) (fun x=>by simp [eqB]),sameL_refl (f:=eqP) (fun x=>by simp [eqP,eqVal])]
variable {tT:TypeId} {tx:Nat×Nat} {g:Nat}
end Go.Proofs.YtdbpbpmikpdjcaaGreatDoor

set_option maxRecDepth 8000
set_option maxHeartbeats 2000000
namespace Go.Proofs.YtdbpbpmikpdjcaaGreatDoor
open Go Go.Abs Go.Cw
theorem sameL_len {α:Type} {f:α→α→Bool}:∀ (a b:List α),qc8 f a b=true→a.length=b.length
 | [],[],_=>rfl
 | x::a,y::b,h=>by
  rw [qc8,Bool.and_eq_true] at h
  simp [sameL_len a b h.2]
 | [],_::_,h=>by simp [qc8] at h
 | _::_,[],h=>by simp [qc8] at h
theorem c_law27_sameEffects (a b:List Eff):APure Tryz.prog 16 [.slice (a.map Eff.c),.slice (b.map Eff.c)] (Bo (qc8 sameE a b)):=by
 refine qak Tryz.func16 Tryz.ntmps16 rfl (by kernel_rfl) rfl rfl fun E h hN hh hu hb=>?_
 simp [go_sem] at hb
 simp -dsimp [go_sem,hN]
 refine cnd ?_ ?_<;>intro h0<;>simp at h0
 ·
  have h1:qc8 sameE a b=false:=by
   rcases Bool.eq_false_or_eq_true (qc8 sameE a b) with g | g
   · exact (h0 (by exact_mod_cast sameL_len a b g)).elim
   · exact g
  simp -dsimp [go_sem,hN,h1]
 have h0:a.length=b.length:=by omega
 simp -dsimp [go_sem,hN]
 refine qai a.length (fun n=>qc8 sameE (a.drop n) (b.drop n)=qc8 sameE a b) (fun n=>⟨[(0,.slice (a.map Eff.c)),(1,.slice (b.map Eff.c)),(5,I n)],h⟩) (by simp) (Wk.mk (by simp [hh]) (by simp [go_sem]) (by simp [hu,qab hu,go_sem]) (by simp [go_sem])) ?_
 intro n hn hI
 have hw:=qav hn (show _≤68719476736 by omega)
 simp -dsimp [go_sem,hN]
 refine cnd ?_ ?_<;>intro hc<;>simp at hc
 ·
  have hc2:n<b.length:=by omega
  rw [qae hc,qae hc2,qc8] at hI
  simp -dsimp [go_sem,hN,hc,hc2]
  refine qah 8 mixed (by kernel_rfl) (by kernel_rfl) ?_
  simp -dsimp [go_sem,hN,hc,hc2,Eff.c]
  refine qaa (c_ref15_Same a[n] b[n]) ?_
  simp -dsimp [go_sem,hN]
  refine cnd ?_ ?_<;>intro h1<;>simp at h1
  ·
   rw [h1] at hI
   simp -dsimp [go_sem,hN,← hI]
  ·
   rw [h1] at hI
   simp -dsimp [go_sem,hN,hw]
   exact ⟨hc,by simpa using hI,(Wk.mk (by simp [hh]) (by simp [go_sem]) (by simp [hu,qab hu,go_sem]) (by simp [go_sem]))⟩
 ·
  rw [List.drop_eq_nil_of_le (show a.length≤n by omega),List.drop_eq_nil_of_le (show b.length≤n by omega),qc8] at hI
  simp -dsimp [go_sem,hN,← hI]
def bAdd:qad:=⟨#[97,100,100]⟩
def bw:qad:=⟨#[121]⟩
def add27:Proc:=⟨bAdd,[⟨bk,2⟩],[.mk 3 em 0 (.mk 3 0 bk []) (.mk 4 0 em [.mk 22 0 em [.mk 3 0 bk []],.mk 1 1 em []]) [] []]⟩
def call27 (id:Int) (k:qad):Txn:=⟨id,bAdd,[vS k],⟨false,[k],[k]⟩,1⟩
theorem c_law27_add:APure Tryz.prog 44 [] (.agg add27.c):=by
 refine qak Tryz.func44 Tryz.ntmps44 rfl (by kernel_rfl) rfl rfl fun E h hN hh hu hb=>?_
 simp -dsimp [go_sem,hN]
 exact ⟨rfl,rfl,rfl⟩
theorem c_law27_call (id:Int) (k:qad):APure Tryz.prog 45 [I id,S k] (.agg (call27 id k).c):=by
 refine qak Tryz.func45 Tryz.ntmps45 rfl (by kernel_rfl) rfl rfl fun E h hN hh hu hb=>?_
 simp -dsimp [go_sem,hN]
 rfl
def E27a:Eff:=⟨1,0,[],[bx],[bx],[⟨bx,vI 1⟩],em,1⟩
def E27b:Eff:=⟨1,0,[],[bx],[bx],[⟨bx,vI 2⟩],em,1⟩
def E27c:Eff:=⟨1,0,[],[bw],[bw],[⟨bw,vI 1⟩],em,1⟩
def st27:List Pr:=[⟨bx,vI 2⟩,⟨bw,vI 1⟩]
def txns27:List Txn:=[call27 1 bx,call27 2 bx,call27 3 bw]
theorem ex27:qdo qbm [add27] [] txns27=(st27,[E27a,E27b,E27c],[false,true,false]):=by kernel_rfl
theorem ex27b:validO E27b [E27a]=false:=by kernel_rfl
theorem ex27c:validO E27c [E27a,E27b]=true:=by kernel_rfl
theorem ex27s:qc8 eqP st27 st27=true:=by kernel_rfl
theorem batch27:BatchIn qbm [add27] txns27:=by
 refine ⟨plain_itoa,?_,?_⟩
 ·
  intro p hp t ht
  simp only [List.mem_singleton] at hp
  subst hp
  simp only [add27,List.mem_singleton] at ht
  subst ht
  have hz:i64 0:=⟨by decide,by decide⟩
  have h1:i64 1:=⟨by decide,by decide⟩
  have hk:rngX (.mk 3 0 bk []):=(qd9 _).2 ⟨⟨hz,by decide⟩,by simp [Ex.args]⟩
  have hn:rngX (.mk 1 1 em []):=(qd9 _).2 ⟨⟨h1,by decide⟩,by simp [Ex.args]⟩
  have hg:rngX (.mk 22 0 em [.mk 3 0 bk []]):=(qd9 _).2 ⟨⟨hz,by decide⟩,by simp [Ex.args,hk]⟩
  refine (rngS_iff _).2 ⟨hk,(qd9 _).2 ⟨⟨hz,by decide⟩,by simp [Ex.args,hg,hn,St.b]⟩,by simp [St.body],by simp [St.els]⟩
 ·
  have h2:∀ s:qad,s.size≤64→qdh (vS s):=fun s hs=>⟨⟨by simp [vS],by simp [vS]⟩,by simp only [vS];omega⟩
  intro t ht v hv
  simp only [txns27,List.mem_cons,List.not_mem_nil,or_false] at ht
  rcases ht with rfl | rfl | rfl<;>simp only [call27,List.mem_singleton] at hv<;>subst hv<;>exact h2 _ (by decide)
section
variable {tT:TypeId} {tx:Nat×Nat} {g:Nat}
theorem c_law27_examples (h:qac) (hg:h[g]?=some (tabO tT tx)):ACalls Tryz.prog 19 [] h fun r h'=>r=.ret (Bo true)∧h'=h:=by
 refine qa0 Tryz.func19 Tryz.ntmps19 rfl (by kernel_rfl) rfl fun E hN hh hu hb hb' hua=>?_
 have hgl:g<h.length:=(List.getElem?_eq_some_iff.1 hg).1
 have hg':∀ l:qac,(h++l)[g]?=some (tabO tT tx):=fun l=>by rw [List.getElem?_append_left hgl];exact hg
 have hround:=fun H hH=>c_occ_Round (g:=g) (tT:=tT) (tx:=tx) [add27] [] txns27 H hH batch27 (by intro q hq;cases hq) (by simp [txns27])
 simp only [ex27] at hround
 have hvb:=c_occ_Valid E27b [E27a]
 have hvc:=c_occ_Valid E27c [E27a,E27b]
 have hsm:=c_ref06_Same st27 st27
 rw [ex27b] at hvb
 rw [ex27c] at hvc
 rw [ex27s] at hsm
 simp -dsimp [go_sem,hN]
 refine qaa c_law27_add ?_
 simp -dsimp [go_sem,hN]
 refine qaa (c_law27_call 1 bx) ?_
 simp -dsimp [go_sem,hN]
 refine qaa (c_law27_call 2 bx) ?_
 simp -dsimp [go_sem,hN]
 refine qaa (c_law27_call 3 bw) ?_
 simp -dsimp [go_sem,hN,Txn.c,call27]
 refine qam (hround h hg) ?_
 rintro r h' ⟨rfl,rfl⟩
 simp -dsimp [go_sem,hN]
 refine qah 49 mixed (by kernel_rfl) (by kernel_rfl) ?_
 simp -dsimp [go_sem,hN,bRow,E27a,E27b,E27c,Eff.c]
 refine qay hsm (by simp) ?_
 simp -dsimp [go_sem,hN]
 refine qay hvb (by simp) ?_
 simp -dsimp [go_sem,hN]
 refine qaf hvc (by simp) ?_
 simp -dsimp [go_sem,hN]
 exact ⟨_,.refl _,h',by simp [go_sem],hwk.app0 _,Nat.le_refl _,hu,rfl,rfl⟩
end
end Go.Proofs.YtdbpbpmikpdjcaaGreatDoor

set_option maxRecDepth 4000
set_option maxHeartbeats 2000000
namespace Go.Proofs.YtdbpbpmikpdjcaaGreatDoor
open Go Go.Abs Go.Cw
variable {tT:TypeId} {tx:Nat×Nat} {g:Nat}
end Go.Proofs.YtdbpbpmikpdjcaaGreatDoor

set_option maxRecDepth 8000
set_option maxHeartbeats 2000000
namespace Go.Proofs.YtdbpbpmikpdjcaaGreatDoor
open Go Go.Abs Go.Cw
def batC (procs:List Proc) (s:List Pr) (l:List Txn):List AV:=[.slice (procs.map Proc.c),.slice (s.map Pr.c),.slice (l.map Txn.c)]
section
variable {tT:TypeId} {tx:Nat×Nat} {g:Nat}
theorem c_same_refl (l:List Pr):APure Tryz.prog 15 [.slice (l.map Pr.c),.slice (l.map Pr.c)] (Bo true):=by
 have:=c_ref06_Same l l
 rwa [sameL_refl (f:=eqP) (fun x=>by simp [eqP,eqVal])] at this
theorem c_effs_refl (l:List Eff):APure Tryz.prog 16 [.slice (l.map Eff.c),.slice (l.map Eff.c)] (Bo true):=by
 have:=c_law27_sameEffects l l
 rwa [sameL_refl (f:=sameE) sameE_refl] at this
end
end Go.Proofs.YtdbpbpmikpdjcaaGreatDoor

set_option maxRecDepth 4000
set_option maxHeartbeats 1000000
namespace Go.Proofs.YtdbpbpmikpdjcaaGreatDoor
open Go Go.Abs Go.Cw
def kwL:List qad:=[⟨#[112,114,111,99]⟩,⟨#[108,101,116]⟩,⟨#[112,117,116]⟩,⟨#[100,101,108,101,116,101]⟩,⟨#[105,102]⟩,⟨#[101,108,115,101]⟩,⟨#[102,111,114]⟩,⟨#[116,111]⟩,⟨#[109,97,120]⟩,⟨#[101,109,105,116]⟩,⟨#[97,98,111,114,116]⟩,⟨#[110,111,116]⟩,⟨#[97,110,100]⟩,⟨#[111,114]⟩,⟨#[105,110,116]⟩,⟨#[115,116,114]⟩,⟨#[98,111,111,108]⟩,⟨#[116,101,120,116]⟩,⟨#[108,101,110]⟩,⟨#[103,101,116,105,110,116]⟩,⟨#[103,101,116,115,116,114]⟩,⟨#[104,97,115]⟩,⟨#[110,111,119]⟩,⟨#[114,97,110,100,111,109]⟩,⟨#[110,111,100,101]⟩]
theorem kw_has (s:qad):hasK kwL s=kw s:=by
 have e:∀ a:qad,decide (a=s)=decide (s=a):=fun a=>decide_eq_decide.2 ⟨Eq.symm,Eq.symm⟩
 simp only [hasK,kwL,anyL,kw,Bool.or_false,e,Bool.or_assoc]
theorem c_ref07_has (l:List qad) (k:qad):APure Tryz.prog 237 [.slice (l.map qbe),S k] (Bo (hasK l k)):=by
 refine qak Tryz.func237 Tryz.ntmps237 rfl (by kernel_rfl) rfl rfl fun E h hN hh hu hb=>?_
 simp [go_sem] at hb
 simp -dsimp [go_sem,hN]
 refine qai l.length (fun n=>hasK (l.drop n) k=hasK l k) (fun n=>⟨[(0,.slice (l.map qbe)),(1,S k),(5,I n)],h⟩) (by simp) (Wk.mk (by simp [hh]) (by simp [go_sem]) (by simp [hu,qab hu,go_sem]) (by simp [go_sem])) ?_
 intro n hn hI
 have hw:=qav hn hb.1.1
 simp -dsimp [go_sem,hN]
 refine cnd ?_ ?_<;>intro hc<;>simp at hc
 ·
  rw [qae hc,hasK,anyL] at hI
  simp -dsimp [go_sem,hN,hc]
  refine cnd ?_ ?_<;>intro hg<;>simp at hg
  ·
   simp -dsimp [go_sem,hN]
   simp [← hI,hg]
  ·
   simp -dsimp [go_sem,hN,hw]
   exact ⟨hc,by simpa [hg,hasK] using hI,(Wk.mk (by simp [hh]) (by simp [go_sem]) (by simp [hu,qab hu,go_sem]) (by simp [go_sem]))⟩
 ·
  rw [List.drop_eq_nil_of_le (by omega),hasK,anyL] at hI
  simp -dsimp [go_sem,hN,← hI]
theorem c_ref07_Keywords:APure Tryz.prog 238 [] (.slice (kwL.map qbe)):=by
 refine qak Tryz.func238 Tryz.ntmps238 rfl (by kernel_rfl) rfl rfl fun E h hN hh hu hb=>?_
 simp -dsimp [go_sem,hN]
 simp [kwL,qbe]
theorem c_ref07_IsKeyword (s:qad):APure Tryz.prog 195 [S s] (Bo (kw s)):=by
 refine qak Tryz.func195 Tryz.ntmps195 rfl (by kernel_rfl) rfl rfl fun E h hN hh hu hb=>?_
 simp -dsimp [go_sem,hN]
 refine qaa c_ref07_Keywords ?_
 simp -dsimp [go_sem,hN]
 refine qaa (c_ref07_has kwL s) ?_
 simp -dsimp [go_sem,hN,kw_has]
theorem c_ref07_letter (c:UInt8):APure Tryz.prog 193 [U8 c.toNat] (Bo (ltr c.toNat)):=by
 refine qak Tryz.func193 Tryz.ntmps193 rfl (by kernel_rfl) rfl rfl fun E h hN hh hu hb=>?_
 simp -dsimp [go_sem,hN,ltr]
theorem c_ref07_digit (c:UInt8):APure Tryz.prog 266 [U8 c.toNat] (Bo (decide ((48:Int)≤c.toNat)&&decide ((c.toNat:Int)≤57))):=by
 refine qak Tryz.func266 Tryz.ntmps266 rfl (by kernel_rfl) rfl rfl fun E h hN hh hu hb=>?_
 simp -dsimp [go_sem,hN]
theorem c_ref07_part (c:UInt8):APure Tryz.prog 236 [U8 c.toNat] (Bo (wordI c.toNat)):=by
 refine qak Tryz.func236 Tryz.ntmps236 rfl (by kernel_rfl) rfl rfl fun E h hN hh hu hb=>?_
 simp -dsimp [go_sem,hN]
 refine qaa (c_ref07_letter c) ?_
 simp -dsimp [go_sem,hN]
 refine qaf (c_ref07_digit c) (by simp) ?_
 simp -dsimp [go_sem,hN,wordI]
 grind
theorem c_ref07_word (s:qad):APure Tryz.prog 194 [S s,I 0] (I (wordLen (bl s))):=by
 refine qak Tryz.func194 Tryz.ntmps194 rfl (by kernel_rfl) rfl rfl fun E h hN hh hu hb=>?_
 simp [go_sem] at hb
 simp -dsimp [go_sem,hN]
 refine qai s.size (fun n=>n+wordLen ((bl s).drop n)=wordLen (bl s)) (fun n=>⟨[(0,S s),(1,I n)],h⟩) (by simp) (Wk.mk (by simp [hh]) (by simp [go_sem]) (by simp [hu,qab hu,go_sem]) (by simp [go_sem])) ?_
 intro n hn hI
 have hw:=qav hn hb
 simp -dsimp [go_sem,hN]
 by_cases hc:n<s.size
 ·
  rw [bdrop hc,wordLen] at hI
  simp -dsimp [go_sem,hN,hc]
  refine qaf (c_ref07_part (bAt s n)) (by simp [hc]) ?_
  simp -dsimp [go_sem,hN,hc]
  refine cnd ?_ ?_<;>intro hg<;>try simp at hg
  ·
   simp -dsimp [go_sem,hN,hw]
   exact ⟨hc,by rw [if_pos hg] at hI;omega,(Wk.mk (by simp [hh]) (by simp [go_sem]) (by simp [hu,qab hu,go_sem]) (by simp [go_sem]))⟩
  ·
   simp -dsimp [go_sem,hN]
   rw [if_neg (by simp [hg])] at hI
   omega
 ·
  rw [bend hc,wordLen] at hI
  simp -dsimp [go_sem,hN,hc]
  refine tgcall_if .top (by simp) (by simp) ?_
  simp -dsimp [go_sem,hN]
  omega
theorem c_ref07_IsName (s:qad):APure Tryz.prog 156 [S s] (Bo (nameOk s)):=by
 refine qak Tryz.func156 Tryz.ntmps156 rfl (by kernel_rfl) rfl rfl fun E h hN hh hu hb=>?_
 rcases sz_em s with rfl | h1
 ·
  simp -dsimp [go_sem,hN,nameOk]
  refine tgcall_if .top (by simp) (by simp) ?_
  simp -dsimp [go_sem,hN]
  refine tgcall_if .top (by simp) (by simp) ?_
  simp -dsimp [go_sem,hN]
  refine tgcall_if .top (by simp) (by simp) ?_
  simp -dsimp [go_sem,hN,nameOk]
 ·
  have h1':0<s.size:=by omega
  have he:¬ s=em:=by rintro rfl;simp at h1
  simp -dsimp [go_sem,hN,h1',he]
  refine qaf (c_ref07_letter _) (by simp) ?_
  simp -dsimp [go_sem,hN]
  refine qaf (c_ref07_word s) (by simp) ?_
  simp -dsimp [go_sem,hN]
  refine qaf (c_ref07_IsKeyword s) (by simp) ?_
  simp -dsimp [go_sem,hN,nameOk,he,h1]
theorem c_ref08_Arity (op:Int):APure Tryz.prog 268 [I op] (I (qby op)):=by
 refine qak Tryz.func268 Tryz.ntmps268 rfl (by kernel_rfl) rfl rfl fun E h hN hh hu hb=>?_
 by_cases h1:op=1
 · subst h1;simp -dsimp [go_sem,hN,qby]
 by_cases h2:op=2
 · subst h2;simp -dsimp [go_sem,hN,qby]
 by_cases h3:op=3
 · subst h3;simp -dsimp [go_sem,hN,qby]
 by_cases h25:op=25
 · subst h25;simp -dsimp [go_sem,hN,qby]
 by_cases h26:op=26
 · subst h26;simp -dsimp [go_sem,hN,qby]
 by_cases h27:op=27
 · subst h27;simp -dsimp [go_sem,hN,qby]
 by_cases h9:op=9
 · subst h9;simp -dsimp [go_sem,hN,qby]
 by_cases h18:op=18
 · subst h18;simp -dsimp [go_sem,hN,qby]
 by_cases h20:op=20
 · subst h20;simp -dsimp [go_sem,hN,qby]
 by_cases h21:op=21
 · subst h21;simp -dsimp [go_sem,hN,qby]
 by_cases h22:op=22
 · subst h22;simp -dsimp [go_sem,hN,qby]
 by_cases h23:op=23
 · subst h23;simp -dsimp [go_sem,hN,qby]
 by_cases h24:op=24
 · subst h24;simp -dsimp [go_sem,hN,qby]
 simp -dsimp [go_sem,hN,h1,h2,h3,h25,h26,h27,h9,h18,h20,h21,h22,h23,h24]
 refine cnd ?_ ?_<;>intro hg<;>simp at hg
 ·
  simp -dsimp [go_sem,hN]
  unfold qby
  rw [if_neg (by omega),if_neg (by omega),if_neg (by omega)]
 ·
  simp -dsimp [go_sem,hN]
  unfold qby
  rw [if_pos (by omega)]
theorem qdp (e:Ex):APure Tryz.prog 198 [.agg e.x] (Bo (absE e)):=by
 refine qak Tryz.func198 Tryz.ntmps198 rfl (by kernel_rfl) rfl rfl fun E h hN hh hu hb=>?_
 simp -dsimp [go_sem,hN,absE]
theorem c_ref08_Plain (s:qad):APure Tryz.prog 130 [S s] (Bo (qa6 s)):=by
 refine qak Tryz.func130 Tryz.ntmps130 rfl (by kernel_rfl) rfl rfl fun E h hN hh hu hb=>?_
 simp [go_sem] at hb
 simp -dsimp [go_sem,hN]
 refine cnd ?_ ?_<;>intro h0<;>simp at h0
 ·
  simp -dsimp [go_sem,hN]
  simp [qa6,Int.not_le.2 h0]
 simp -dsimp [go_sem,hN]
 refine qai s.size (fun n=>allL okB ((bl s).drop n)=allL okB (bl s)) (fun n=>⟨[(0,S s),(3,I n)],h⟩) (by simp) (Wk.mk (by simp [hh]) (by simp [go_sem]) (by simp [hu,qab hu,go_sem]) (by simp [go_sem])) ?_
 intro n hn hI
 have hw:=qav hn hb
 simp -dsimp [go_sem,hN]
 refine cnd ?_ ?_<;>intro hc<;>simp at hc
 ·
  rw [bdrop hc,allL] at hI
  simp -dsimp [go_sem,hN,hc]
  refine cnd (fun hg=>?_) (fun hg=>?_)
  ·
   simp -dsimp [go_sem,hN]
   simp [qa6,← hI,okB,hg]
  ·
   simp -dsimp [go_sem,hN,hw]
   exact ⟨hc,by simpa [okB,hg] using hI,(Wk.mk (by simp [hh]) (by simp [go_sem]) (by simp [hu,qab hu,go_sem]) (by simp [go_sem]))⟩
 ·
  rw [bend (by omega),allL] at hI
  simp -dsimp [go_sem,hN,qa6,← hI,h0]
theorem c_ref08_node (op n:Int) (s:qad) (args:List Ex) (d:Nat):APure Tryz.prog 267 [.agg [I op,I n,S s,.slice (args.map Ex.c)],I d] (I (qb7 op n s args.length d)):=by
 refine qak Tryz.func267 Tryz.ntmps267 rfl (by kernel_rfl) rfl rfl fun E h hN hh hu hb=>?_
 simp -dsimp [go_sem,hN]
 refine qaa (c_ref08_Arity _) ?_
 simp -dsimp [go_sem,hN]
 repeat refine ⟨by grind,?_⟩
 refine cnd (fun h0=>?_) (fun h0=>?_)
 ·
  simp -dsimp [go_sem,hN]
  simp at h0
  rw [qb7,if_pos (by grind)]
 have h0':¬ (qby op<0∨(op≠1∧n≠0)∨(op≠2∧op≠3∧s≠em)):=by simp at h0;grind
 simp -dsimp [go_sem,hN]
 refine qaf (c_ref07_IsName s) (by simp) ?_
 simp -dsimp [go_sem,hN]
 refine cnd (fun h1=>?_) (fun h1=>?_)
 ·
  simp -dsimp [go_sem,hN]
  simp at h1
  rw [qb7,if_neg h0',if_pos (by grind)]
 have h1':¬ (op=3∧nameOk s=false):=by simp at h1;grind
 simp -dsimp [go_sem,hN]
 refine qah 21 mixed (by kernel_rfl) (by kernel_rfl) ?_
 simp -dsimp [go_sem,hN]
 refine qay (c_ref08_Plain s) (by simp) ?_
 simp -dsimp [go_sem,hN]
 refine ⟨by grind,?_⟩
 refine qay (c_ref08_Arity op) (by simp) ?_
 simp -dsimp [go_sem,hN]
 repeat refine ⟨by grind,?_⟩
 refine cnd (fun h2=>?_) (fun h2=>?_)
 ·
  simp -dsimp [go_sem,hN]
  simp at h2
  rw [qb7,if_neg h0',if_neg h1',if_pos (by grind)]
 have h2':¬ ((op=1∧n<0)∨(op=2∧qa6 s=false)∨(args.length:Int)≠qby op):=by simp at h2;grind
 simp -dsimp [go_sem,hN]
 refine cnd ?_ ?_<;>intro h3<;>simp at h3
 ·
  simp -dsimp [go_sem,hN]
  rw [qb7,if_neg h0',if_neg h1',if_neg h2',if_pos (by omega)]
 ·
  simp -dsimp [go_sem,hN]
  rw [qb7,if_neg h0',if_neg h1',if_neg h2',if_neg (by omega)]
theorem c_ref08_valid (e:Ex) (d:Nat):APure Tryz.prog 240 [.agg e.x,I d] (I (chkE e d)):=by
 refine qak Tryz.func240 Tryz.ntmps240 rfl (by kernel_rfl) rfl rfl fun E h hN hh hu hb=>?_
 simp [go_sem] at hb
 simp -dsimp [go_sem,hN]
 refine qaa (c_ref08_node _ _ _ _ _) ?_
 simp -dsimp [go_sem,hN]
 refine cnd ?_ ?_<;>intro h0<;>simp at h0
 ·
  simp -dsimp [go_sem,hN]
  rw [chkE_eq,if_neg h0]
 have hd:d≤12:=by
  unfold qb7 at h0
  grind
 simp -dsimp [go_sem,hN]
 refine qai e.args.length (fun n=>chkL (e.args.drop n) (d+1)=chkL e.args (d+1)) (fun n=>⟨[(1,I d),(2,.ptr h.length 0),(6,I n)],h++[.cells e.x]⟩) (by simp) (Wk.mk (by simp [hh]) (by simp [go_sem]) (by simp [hu,qab hu,go_sem]) (by simp [go_sem])) ?_
 intro n hn hI
 have hw:=qav hn hb.2.1
 have hw2:IntKind.i64.wrap ((d:Int)+1)=((d+1:Nat):Int):=by rw [wrapI (by omega) (by omega)];rfl
 simp -dsimp [go_sem,hN]
 refine cnd ?_ ?_<;>intro hc<;>simp at hc
 ·
  rw [qae hc,chkL] at hI
  simp -dsimp [go_sem,hN,hc,hw2]
  have hlt:SizeOf.sizeOf e.args[n]<SizeOf.sizeOf e:=Ex.arg_lt (List.getElem_mem hc)
  refine qaa (c_ref08_valid e.args[n] (d+1)) ?_
  simp -dsimp [go_sem,hN]
  refine cnd ?_ ?_<;>intro hg<;>simp at hg
  ·
   simp -dsimp [go_sem,hN]
   rw [chkE_eq e,if_pos h0,← hI,if_neg hg]
  ·
   simp -dsimp [go_sem,hN,hw]
   exact ⟨hc,by simpa [hg] using hI,(Wk.mk (by simp [hh]) (by simp [go_sem]) (by simp [hu,qab hu,go_sem]) (by simp [go_sem]))⟩
 ·
  rw [List.drop_eq_nil_of_le (by omega),chkL] at hI
  simp -dsimp [go_sem,hN]
  rw [chkE_eq e,if_pos h0,← hI]
termination_by SizeOf.sizeOf e
theorem qdg (e:Ex):APure Tryz.prog 199 [.agg e.x] (I (chkE e 1)):=by
 refine qak Tryz.func199 Tryz.ntmps199 rfl (by kernel_rfl) rfl rfl fun E h hN hh hu hb=>?_
 simp -dsimp [go_sem,hN]
 refine qaa (c_ref08_valid e 1) ?_
 simp -dsimp [go_sem,hN]
def usesR (op:Int):Uses :=
 if op=1∨op=2 then ⟨true,true,false,false,false,false⟩
 else if op=3 then ⟨false,true,true,false,false,false⟩
 else if op=4∨op=7 then ⟨false,true,false,false,false,false⟩
 else if op=5 then ⟨false,true,false,false,true,true⟩
 else if op=6 then ⟨true,true,true,true,true,false⟩
 else ⟨false,false,false,true,false,false⟩
theorem c_ref08_uses (op:Int):APure Tryz.prog 197 [I op] (.tuple [Bo (usesR op).name,Bo (usesR op).max,Bo (usesR op).a,Bo (usesR op).b,Bo (usesR op).body,Bo (usesR op).other]):=by
 refine qak Tryz.func197 Tryz.ntmps197 rfl (by kernel_rfl) rfl rfl fun E h hN hh hu hb=>?_
 by_cases h1:op=1
 · subst h1;simp -dsimp [go_sem,hN,usesR]
 by_cases h2:op=2
 · subst h2;simp -dsimp [go_sem,hN,usesR]
 by_cases h3:op=3
 · subst h3;simp -dsimp [go_sem,hN,usesR]
 by_cases h4:op=4
 · subst h4;simp -dsimp [go_sem,hN,usesR]
 by_cases h7:op=7
 · subst h7;simp -dsimp [go_sem,hN,usesR]
 by_cases h5:op=5
 · subst h5;simp -dsimp [go_sem,hN,usesR]
 by_cases h6:op=6
 · subst h6;simp -dsimp [go_sem,hN,usesR]
 simp -dsimp [go_sem,hN,usesR,h1,h2,h3,h4,h5,h6,h7]
end Go.Proofs.YtdbpbpmikpdjcaaGreatDoor

set_option maxRecDepth 4000
set_option maxHeartbeats 2000000
namespace Go.Proofs.YtdbpbpmikpdjcaaGreatDoor
open Go Go.Abs Go.Cw
theorem c_ref01_Add (a b:Int) (ha:i64 a) (hb2:i64 b):APure Tryz.prog 290 [I a,I b] (.tuple [I (numAdd a b).1,I (numAdd a b).2]):=by
 have hr:=add_ref ha hb2
 refine qak Tryz.func290 Tryz.ntmps290 rfl (by kernel_rfl) rfl rfl fun E h hN hh hu hb=>?_
 simp -dsimp [go_sem,hN]
 repeat refine ⟨by grind,?_⟩
 refine cnd (fun h0=>?_) (fun h0=>?_)
 ·
  have h1:(0<b∧W64 (a+b)<a)∨(b<0∧a<W64 (a+b)):=hr.1 (by simp at h0;grind)
  simp -dsimp [go_sem,hN,numAdd,h1]
 ·
  have h1:¬ ((0<b∧W64 (a+b)<a)∨(b<0∧a<W64 (a+b))):=fun g=>by have:=hr.2 g;simp at h0;grind
  simp -dsimp [go_sem,hN,numAdd,h1]
theorem c_ref01_Sub (a b:Int) (ha:i64 a) (hb2:i64 b):APure Tryz.prog 209 [I a,I b] (.tuple [I (qco a b).1,I (qco a b).2]):=by
 have hr:=sub_ref ha hb2
 refine qak Tryz.func209 Tryz.ntmps209 rfl (by kernel_rfl) rfl rfl fun E h hN hh hu hb=>?_
 simp -dsimp [go_sem,hN]
 repeat refine ⟨by grind,?_⟩
 refine cnd (fun h0=>?_) (fun h0=>?_)
 ·
  have h1:(0<b∧a<W64 (a - b))∨(b<0∧W64 (a - b)<a):=hr.1 (by simp at h0;grind)
  simp -dsimp [go_sem,hN,qco,h1]
 ·
  have h1:¬ ((0<b∧a<W64 (a - b))∨(b<0∧W64 (a - b)<a)):=fun g=>by have:=hr.2 g;simp at h0;grind
  simp -dsimp [go_sem,hN,qco,h1]
theorem c_ref01_Neg (a:Int) (ha:i64 a):APure Tryz.prog 276 [I a] (.tuple [I (qdi a).1,I (qdi a).2]):=by
 rw [← neg_ref ha]
 refine qak Tryz.func276 Tryz.ntmps276 rfl (by kernel_rfl) rfl rfl fun E h hN hh hu hb=>?_
 simp -dsimp [go_sem,hN]
 refine qaa (c_ref01_Sub 0 a ⟨by decide,by decide⟩ ha) ?_
 simp -dsimp [go_sem,hN]
theorem c_ref01_size (a:Int) (ha:i64 a):APure Tryz.prog 294 [I a] (.val (.int .u64 (absI a))):=by
 refine qak Tryz.func294 Tryz.ntmps294 rfl (by kernel_rfl) rfl rfl fun E h hN hh hu hb=>?_
 simp -dsimp [go_sem,hN]
 refine cnd ?_ ?_<;>intro h0<;>simp at h0
 ·
  simp -dsimp [go_sem,hN]
  have hz:=U64_abs ha
  rw [Int.zero_sub] at hz
  rw [hz,if_pos h0]
  simp [absI,h0]
 ·
  simp -dsimp [go_sem,hN]
  rw [U64_in h0 (by have:=ha.2;omega)]
  simp [absI,Int.not_lt.2 h0]
theorem tdiv_rng {L m:Int} (hL:0≤L) (hm:0<m):0≤L.tdiv m∧L.tdiv m≤L:=by
 rw [Int.tdiv_eq_ediv_of_nonneg hL]
 exact ⟨Int.ediv_nonneg hL (Int.le_of_lt hm),Int.ediv_le_self m hL⟩
theorem c_ref01_Mul (a b:Int) (ha:i64 a) (hb2:i64 b):APure Tryz.prog 291 [I a,I b] (.tuple [I (numMul a b).1,I (numMul a b).2]):=by
 refine qak Tryz.func291 Tryz.ntmps291 rfl (by kernel_rfl) rfl rfl fun E h hN hh hu hb=>?_
 simp -dsimp [go_sem,hN]
 repeat refine ⟨by grind,?_⟩
 refine cnd (fun h0=>?_) (fun h0=>?_)
 ·
  have h1:a=0∨b=0:=by simpa using h0
  simp -dsimp [go_sem,hN,numMul,h1]
 have h1:a≠0∧b≠0:=by simpa using h0
 obtain ⟨s1,s2⟩:=numMul_spec ha hb2 h1.1 h1.2
 have hbp:absI b≠0:=by unfold absI;split<;>omega
 simp -dsimp [go_sem,hN]
 have hbp':0<absI b:=by unfold absI;split<;>omega
 refine cnd (fun hs=>?_) (fun hs=>?_)
 ·
  have hs':decide (a<0)≠decide (b<0):=by simpa using hs
  have hm:=mul_ref ha hb2 h1.1 h1.2 9223372036854775808 (by rw [if_pos hs'])
  have ht:=tdiv_rng (L:=9223372036854775808) (by decide) hbp'
  simp -dsimp [go_sem,hN]
  refine qaa (c_ref01_size a ha) ?_
  simp -dsimp [go_sem,hN]
  refine qaa (c_ref01_size b hb2) ?_
  simp -dsimp [go_sem,hN,hbp]
  rw [U64_in ht.1 (by omega)]
  refine cnd ?_ ?_<;>intro h2<;>simp at h2
  ·
   have e:=s2 (hm.1 h2)
   simp -dsimp [go_sem,hN,e]
  ·
   have hi:i64 (a * b):=by
    by_cases hi:i64 (a * b)
    · exact hi
    · exact absurd (hm.2 hi) (by omega)
   have e:=s1 hi
   have hwr:IntKind.i64.wrap (a * b)=a * b:=wrapI hi.1 (by have:=hi.2;omega)
   simp -dsimp [go_sem,hN,e,hwr]
 ·
  have hs':¬ (decide (a<0)≠decide (b<0)):=by simpa using hs
  have hm:=mul_ref ha hb2 h1.1 h1.2 9223372036854775807 (by rw [if_neg hs'])
  have ht:=tdiv_rng (L:=9223372036854775807) (by decide) hbp'
  simp -dsimp [go_sem,hN]
  refine qaa (c_ref01_size a ha) ?_
  simp -dsimp [go_sem,hN]
  refine qaa (c_ref01_size b hb2) ?_
  simp -dsimp [go_sem,hN,hbp]
  rw [U64_in ht.1 (by omega)]
  refine cnd ?_ ?_<;>intro h2<;>simp at h2
  ·
   have e:=s2 (hm.1 h2)
   simp -dsimp [go_sem,hN,e]
  ·
   have hi:i64 (a * b):=by
    by_cases hi:i64 (a * b)
    · exact hi
    · exact absurd (hm.2 hi) (by omega)
   have e:=s1 hi
   have hwr:IntKind.i64.wrap (a * b)=a * b:=wrapI hi.1 (by have:=hi.2;omega)
   simp -dsimp [go_sem,hN,e,hwr]
theorem c_ref01_Div (a b:Int) (ha:i64 a) (hb2:i64 b):APure Tryz.prog 292 [I a,I b] (.tuple [I (numDiv a b).1,I (numDiv a b).2]):=by
 refine qak Tryz.func292 Tryz.ntmps292 rfl (by kernel_rfl) rfl rfl fun E h hN hh hu hb=>?_
 simp -dsimp [go_sem,hN]
 refine cnd ?_ ?_<;>intro h0<;>simp at h0<;>simp -dsimp [go_sem,hN]
 · grind [numDiv]
 refine cnd ?_ ?_<;>intro h1<;>simp at h1<;>simp -dsimp [go_sem,hN]
 ·
  refine qaa (c_ref01_Neg a ha) ?_
  simp -dsimp [go_sem,hN]
  grind [numDiv]
 repeat refine ⟨by grind,?_⟩
 refine cnd ?_ ?_<;>intro h3<;>simp at h3<;>simp -dsimp [go_sem,hN]<;>grind [numDiv]
theorem c_ref01_Mod (a b:Int):APure Tryz.prog 293 [I a,I b] (.tuple [I (numMod a b).1,I (numMod a b).2]):=by
 refine qak Tryz.func293 Tryz.ntmps293 rfl (by kernel_rfl) rfl rfl fun E h hN hh hu hb=>?_
 simp -dsimp [go_sem,hN]
 refine cnd ?_ ?_<;>intro h0<;>simp at h0<;>simp -dsimp [go_sem,hN]
 · grind [numMod]
 refine cnd ?_ ?_<;>intro h1<;>simp at h1<;>simp -dsimp [go_sem,hN]
 · grind [numMod]
 repeat refine ⟨by grind,?_⟩
 refine cnd ?_ ?_<;>intro h3<;>simp at h3<;>simp -dsimp [go_sem,hN]<;>grind [numMod]
theorem itoa_abs (n:Int):Lib.itoa n=if n<0 then 45::Lib.decDigits (absI n).toNat else Lib.decDigits (absI n).toNat:=by
 unfold Lib.itoa absI
 split
 · congr 2;omega
 · rfl
theorem c_ref01_Format (n:Int) (hn:i64 n):APure Tryz.prog 277 [I n] (S (qbm n)):=by
 refine qak Tryz.func277 Tryz.ntmps277 rfl (by kernel_rfl) rfl rfl fun E h hN hh hu hb=>?_
 simp -dsimp [go_sem,hN]
 refine qaa (c_ref01_size n hn) ?_
 simp -dsimp [go_sem,hN]
 obtain ⟨U,hU⟩:∃ U:Nat,absI n=U:=⟨(absI n).toNat,by unfold absI;split<;>omega⟩
 have hUl:(Lib.decDigits U).length≤21:=by
  have h1:=Lib.itoa_length_le n hn.1 hn.2
  rw [itoa_abs,hU] at h1
  split at h1
  · simp at h1;omega
  · simpa using h1
 have hU64:U≤18446744073709551615:=by
  have:=hn.1
  have:=hn.2
  have:absI n≤9223372036854775808:=by unfold absI;split<;>omega
  omega
 refine awp_loopM (α:=Nat×qad) (fun x=>digL x.1 x.2=Lib.decDigits U∧x.1≤18446744073709551615) (fun x=>⟨[(0,I n),(3,.val (.int .u64 x.1)),(4,S x.2)],h⟩) (fun x=>x.1+if x.2=em then 1 else 0) (U,em) ⟨by simp [digL,bl],hU64⟩ (Wk.mk (by simp [hh]) (by simp [go_sem]) (by simp [hu,qab hu,go_sem]) (by simp [go_sem,hU])) ?_
 rintro ⟨u,s⟩ ⟨hI,hle⟩
 dsimp only at hI hle
 have hsl:=digL_len u s
 rw [hI] at hsl
 simp -dsimp [go_sem,hN]
 have htm:((u:Int).tmod 10)=((u % 10:Nat):Int):=rfl
 have hd:IntKind.u8.wrap (IntKind.u64.wrap (48+(u:Int).tmod 10))=((48+u % 10:Nat):Int):=by
  rw [htm,U64_in (by omega) (by omega)]
  simp only [IntKind.wrap,IntKind.bits,IntKind.signed]
  simp
  omega
 have hq:IntKind.u64.wrap ((u:Int) / 10)=((u / 10:Nat):Int):=by
  rw [U64_in (by omega) (by omega)]
  simp
 refine cnd (fun hc=>?_) (fun hc=>?_)
 ·
  have hc':0<u∨s=em:=by simpa [em] using hc
  have hne:dig u++s≠em:=fun e=>by
   have:=congrArg ByteArray.size e
   rw [ByteArray.size_append] at this
   have h1:(dig u).size=1:=rfl
   have h2:ByteArray.size em=0:=rfl
   omega
  have hdg:({ data:=#[UInt8.ofNat (48+u % 10)] }:ByteArray)=dig u:=rfl
  simp -dsimp [go_sem,hN,hd,hq]
  refine ⟨?_,by omega,u / 10,dig u++s,⟨by rw [digL_step hc'];exact hI,by omega⟩,?_,?_⟩
  · simp [byteSl,go_sem]
  ·
   rw [if_neg hne]
   rcases hc' with h1 | h1
   · omega
   · rw [if_pos h1];omega
  ·
   have hx:({ data:=#[UInt8.ofNat (48+(u:Int) % 10).toNat] }:ByteArray)=dig u:=by
    unfold dig
    have:(48+(u:Int) % 10).toNat=48+u % 10:=by omega
    rw [this]
   exact Wk.mk (by simp [hh]) (by simp [go_sem]) (by simp [hu,qab hu,go_sem]) (by simp [go_sem,hx])
 ·
  have hc':u=0∧s≠em:=by simp at hc;exact ⟨by omega,by simpa [em] using hc.2⟩
  obtain ⟨rfl,hne⟩:=hc'
  rw [digL_end hne] at hI
  simp -dsimp [go_sem,hN]
  refine cnd ?_ ?_<;>intro h2<;>simp at h2
  ·
   simp -dsimp [go_sem,hN]
   refine ⟨by omega,?_⟩
   refine bl_inj ?_
   have e1:bl (qbm n)=Lib.itoa n:=by simp [bl,qbm]
   have e2:bl (({ data:=#[45] }:ByteArray)++s)=45::bl s:=by simp [bl]
   rw [e1,e2,itoa_abs,if_pos h2,hI,hU]
   rfl
  ·
   simp -dsimp [go_sem,hN]
   refine bl_inj ?_
   have e1:bl (qbm n)=Lib.itoa n:=by simp [bl,qbm]
   rw [e1,itoa_abs,if_neg (by omega),hI,hU]
   rfl
end Go.Proofs.YtdbpbpmikpdjcaaGreatDoor
