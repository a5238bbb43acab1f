/- Part 31 of a proof: W2, W4, W5, W6 -/
import Derived.Test.YtdbpbpmikpdjcaaGreatDoorQ19
import Derived.Test.YtdbpbpmikpdjcaaGreatDoorQ30
set_option linter.all false

set_option maxRecDepth 4000
namespace Go.Proofs.YtdbpbpmikpdjcaaGreatDoor
open Go Go.Abs Go.Cw
theorem c_ref05_Plain (s:qad):APure Tryz.prog 135 [S s] (Bo (qa6 s)):=by
 refine qak Tryz.func135 Tryz.ntmps135 rfl (by kernel_rfl) rfl rfl fun E h hN hh hu hb=>?_
 simp [go_sem] at hb
 simp -dsimp [go_sem,hN]
 refine cnd ?_ ?_<;>intro h0<;>simp at h0
 ·
  simp -dsimp [go_sem,hN]
  simp [qa6,Int.not_le.2 h0]
 simp -dsimp [go_sem,hN]
 refine qai s.size (fun n=>allL okB ((bl s).drop n)=allL okB (bl s)) (fun n=>⟨[(0,S s),(3,I n)],h⟩) (by simp) (Wk.mk (by simp [hh]) (by simp [go_sem]) (by simp [hu,qab hu,go_sem]) (by simp [go_sem])) ?_
 intro n hn hI
 have hw:=qav hn hb
 simp -dsimp [go_sem,hN]
 refine cnd ?_ ?_<;>intro hc<;>simp at hc
 ·
  rw [bdrop hc,allL] at hI
  simp -dsimp [go_sem,hN,hc]
  refine cnd (fun hg=>?_) (fun hg=>?_)
  ·
   simp -dsimp [go_sem,hN]
   simp [qa6,← hI,okB,hg]
  ·
   simp -dsimp [go_sem,hN,hw]
   exact ⟨hc,by simpa [okB,hg] using hI,(Wk.mk (by simp [hh]) (by simp [go_sem]) (by simp [hu,qab hu,go_sem]) (by simp [go_sem]))⟩
 ·
  rw [bend (by omega),allL] at hI
  simp -dsimp [go_sem,hN,qa6,← hI,h0]
theorem c_ref04_Valid (s:qad):APure Tryz.prog 136 [S s] (Bo (keyOk s)):=by
 refine qak Tryz.func136 Tryz.ntmps136 rfl (by kernel_rfl) rfl rfl fun E h hN hh hu hb=>?_
 simp [go_sem] at hb
 simp -dsimp [go_sem,hN]
 refine qai s.size (fun n=>allL keyB ((bl s).drop n)=allL keyB (bl s)) (fun n=>⟨[(0,S s),(3,I n)],h⟩) (by simp) (Wk.mk (by simp [hh]) (by simp [go_sem]) (by simp [hu,qab hu,go_sem]) (by simp [go_sem])) ?_
 intro n hn hI
 have hw:=qav hn hb
 simp -dsimp [go_sem,hN]
 refine cnd ?_ ?_<;>intro hc<;>simp at hc
 ·
  rw [bdrop hc,allL] at hI
  simp -dsimp [go_sem,hN,hc]
  refine ⟨by omega,cnd (fun hg=>?_) (fun hg=>?_)⟩
  ·
   simp -dsimp [go_sem,hN]
   have:keyB (bAt s n)=false:=by
    simp [keyB] at hg ⊢
    omega
   simp [keyOk,← hI,this]
  ·
   simp -dsimp [go_sem,hN,hw]
   have:keyB (bAt s n)=true:=by
    simp [keyB] at hg ⊢
    omega
   exact ⟨hc,by simpa [this] using hI,(Wk.mk (by simp [hh]) (by simp [go_sem]) (by simp [hu,qab hu,go_sem]) (by simp [go_sem]))⟩
 ·
  rw [bend (by omega),allL] at hI
  have e1:s=em∨1≤(s.size:Int):=sz_em s
  rcases e1 with rfl | e1
  · simp -dsimp [go_sem,hN,keyOk]
  ·
   have e2:¬ s=em:=by rintro rfl;simp at e1
   simp -dsimp [go_sem,hN,keyOk,← hI,e1,e2]
theorem c_ref05_Valid (k n:Int) (s:qad):APure Tryz.prog 106 [.agg [I k,I n,S s]] (Bo (valOk k n s)):=by
 refine qak Tryz.func106 Tryz.ntmps106 rfl (by kernel_rfl) rfl rfl fun E h hN hh hu hb=>?_
 simp -dsimp [go_sem,hN]
 refine cnd ?_ ?_<;>intro h0<;>simp at h0<;>simp -dsimp [go_sem,hN,valOk,h0]
 refine cnd ?_ ?_<;>intro h1<;>simp at h1<;>simp -dsimp [go_sem,hN,valOk,h0,h1]
 refine qaf (c_ref05_Plain s) (by simp) ?_
 by_cases h2:k=2<;>simp -dsimp [go_sem,hN,valOk,h0,h1,h2]
theorem c_ref06_ascending (l:List Pr):APure Tryz.prog 107 [.slice (l.map Pr.c)] (Bo (ascP none l)):=by
 refine qak Tryz.func107 Tryz.ntmps107 rfl (by kernel_rfl) rfl rfl fun E h hN hh hu hb=>?_
 simp [go_sem] at hb
 simp -dsimp [go_sem,hN]
 refine qai l.length (fun n=>ascP ((qcn l n).map Pr.key) (l.drop n)=ascP none l) (fun n=>⟨[(0,.slice (l.map Pr.c)),(3,I n)],h⟩) (by simp [qcn]) (Wk.mk (by simp [hh]) (by simp [go_sem]) (by simp [hu,qab hu,go_sem]) (by simp [go_sem])) ?_
 intro n hn hI
 have hw:=qav hn hb.1
 simp -dsimp [go_sem,hN]
 refine cnd ?_ ?_<;>intro hc<;>simp at hc
 ·
  rw [qae hc,ascP] at hI
  simp -dsimp [go_sem,hN,hc]
  refine qah 22 mixed (by kernel_rfl) (by kernel_rfl) ?_
  simp -dsimp [go_sem,hN,hc]
  refine qay (c_ref04_Valid _) (by simp) ?_
  cases n with
  | zero =>
   simp -dsimp [go_sem,hN]
   refine cnd ?_ ?_<;>intro hg<;>try simp at hg
   ·
    simp -dsimp [go_sem,hN]
    grind [qcn,after]
   ·
    simp -dsimp [go_sem,hN,hw]
    exact ⟨hc,by simpa [hg,qcn,hc,after] using hI,(Wk.mk (by simp [hh]) (by simp [go_sem]) (by simp [hu,qab hu,go_sem]) (by simp [go_sem]))⟩
  | succ m =>
   have hm:m<l.length:=by omega
   have hw2:=wrapN (Nat.le_of_lt hm) hb.1
   simp at hw
   simp -dsimp [go_sem,hN,hw2,hm,hc]
   refine ⟨fun hk=>⟨hk,by omega⟩,cnd (fun hg=>?_) (fun hg=>?_)⟩<;>rw [sLe_not] at hg<;>simp at hg
   ·
    simp -dsimp [go_sem,hN]
    rw [← hI]
    rcases hg with h1 | h1<;>simp [qcn,hm,after,h1]
   ·
    simp -dsimp [go_sem,hN,hw]
    simp [hg,qcn,hm,after] at hI
    exact ⟨hc,by simpa [qcn,hc] using hI,(Wk.mk (by simp [hh]) (by simp [go_sem]) (by simp [hu,qab hu,go_sem]) (by simp [go_sem]))⟩
 ·
  rw [List.drop_eq_nil_of_le (by omega),ascP] at hI
  simp -dsimp [go_sem,hN,← hI]
theorem c_ref06_ValidWrites (l:List Pr):APure Tryz.prog 63 [.slice (l.map Pr.c)] (Bo (qb0 l)):=by
 refine qak Tryz.func63 Tryz.ntmps63 rfl (by kernel_rfl) rfl rfl fun E h hN hh hu hb=>?_
 simp [go_sem] at hb
 simp -dsimp [go_sem,hN]
 refine qai l.length (fun n=>valsOk (l.drop n)=valsOk l) (fun n=>⟨[(0,.slice (l.map Pr.c)),(3,I n)],h⟩) (by simp) (Wk.mk (by simp [hh]) (by simp [go_sem]) (by simp [hu,qab hu,go_sem]) (by simp [go_sem])) ?_
 intro n hn hI
 have hw:=qav hn hb.1
 simp -dsimp [go_sem,hN]
 refine cnd ?_ ?_<;>intro hc<;>simp at hc
 ·
  rw [qae hc,valsOk,allL] at hI
  simp -dsimp [go_sem,hN,hc]
  refine qaa (c_ref05_Valid _ _ _) ?_
  simp -dsimp [go_sem,hN]
  refine cnd ?_ ?_<;>intro hg<;>simp at hg
  ·
   simp -dsimp [go_sem,hN]
   simp [qb0,← hI,hg]
  ·
   simp -dsimp [go_sem,hN,hw]
   exact ⟨hc,by simpa [hg,valsOk] using hI,(Wk.mk (by simp [hh]) (by simp [go_sem]) (by simp [hu,qab hu,go_sem]) (by simp [go_sem]))⟩
 ·
  rw [List.drop_eq_nil_of_le (by omega),valsOk,allL] at hI
  simp -dsimp [go_sem,hN]
  refine qaa (c_ref06_ascending l) ?_
  simp -dsimp [go_sem,hN,qb0,← hI]
theorem c_ref06_Valid (l:List Pr):APure Tryz.prog 62 [.slice (l.map Pr.c)] (Bo (qbb l)):=by
 rw [← stateOkR_eq]
 refine qak Tryz.func62 Tryz.ntmps62 rfl (by kernel_rfl) rfl rfl fun E h hN hh hu hb=>?_
 simp [go_sem] at hb
 simp -dsimp [go_sem,hN]
 refine qai l.length (fun n=>anyL (fun p=>decide (p.v.k=0)) (l.drop n)=anyL (fun p=>decide (p.v.k=0)) l) (fun n=>⟨[(0,.slice (l.map Pr.c)),(3,I n)],h⟩) (by simp) (Wk.mk (by simp [hh]) (by simp [go_sem]) (by simp [hu,qab hu,go_sem]) (by simp [go_sem])) ?_
 intro n hn hI
 have hw:=qav hn hb.1
 simp -dsimp [go_sem,hN]
 refine cnd ?_ ?_<;>intro hc<;>simp at hc
 ·
  rw [qae hc,anyL] at hI
  simp -dsimp [go_sem,hN,hc]
  refine cnd ?_ ?_<;>intro hg<;>simp at hg
  ·
   simp -dsimp [go_sem,hN]
   simp [stateOkR,← hI,hg]
  ·
   simp -dsimp [go_sem,hN,hw]
   exact ⟨hc,by simpa [hg] using hI,(Wk.mk (by simp [hh]) (by simp [go_sem]) (by simp [hu,qab hu,go_sem]) (by simp [go_sem]))⟩
 ·
  rw [List.drop_eq_nil_of_le (by omega),anyL] at hI
  simp -dsimp [go_sem,hN]
  refine qaa (c_ref06_ValidWrites l) ?_
  simp -dsimp [go_sem,hN,stateOkR,← hI]
theorem c_ref06_Has (l:List Pr) (k:qad):APure Tryz.prog 64 [.slice (l.map Pr.c),S k] (Bo (hasP l k)):=by
 refine qak Tryz.func64 Tryz.ntmps64 rfl (by kernel_rfl) rfl rfl fun E h hN hh hu hb=>?_
 simp [go_sem] at hb
 simp -dsimp [go_sem,hN]
 refine qai l.length (fun n=>hasP (l.drop n) k=hasP l k) (fun n=>⟨[(0,.slice (l.map Pr.c)),(1,S k),(5,I n)],h⟩) (by simp) (Wk.mk (by simp [hh]) (by simp [go_sem]) (by simp [hu,qab hu,go_sem]) (by simp [go_sem])) ?_
 intro n hn hI
 have hw:=qav hn hb.1.1
 simp -dsimp [go_sem,hN]
 refine cnd ?_ ?_<;>intro hc<;>simp at hc
 ·
  rw [qae hc,hasP,anyL] at hI
  simp -dsimp [go_sem,hN,hc]
  refine cnd ?_ ?_<;>intro hg<;>simp at hg
  ·
   simp -dsimp [go_sem,hN]
   simp [← hI,hg]
  ·
   simp -dsimp [go_sem,hN,hw]
   exact ⟨hc,by simpa [hg,hasP] using hI,(Wk.mk (by simp [hh]) (by simp [go_sem]) (by simp [hu,qab hu,go_sem]) (by simp [go_sem]))⟩
 ·
  rw [List.drop_eq_nil_of_le (by omega),hasP,anyL] at hI
  simp -dsimp [go_sem,hN,← hI]
theorem c_ref06_Get (l:List Pr) (k:qad):APure Tryz.prog 204 [.slice (l.map Pr.c),S k] (.agg (getP l k).c):=by
 refine qak Tryz.func204 Tryz.ntmps204 rfl (by kernel_rfl) rfl rfl fun E h hN hh hu hb=>?_
 simp [go_sem] at hb
 simp -dsimp [go_sem,hN]
 refine qai l.length (fun n=>getP (l.drop n) k=getP l k) (fun n=>⟨[(0,.slice (l.map Pr.c)),(1,S k),(4,P0 h.length),(5,I n)],h++[.cells [I 0,I 0,S em]]⟩) (by simp) (Wk.mk (by simp [hh]) (by simp [go_sem]) (by simp [hu,qab hu,go_sem]) (by simp [go_sem])) ?_
 intro n hn hI
 have hw:=qav hn hb.1.1
 simp -dsimp [go_sem,hN]
 refine cnd ?_ ?_<;>intro hc<;>simp at hc
 ·
  rw [qae hc,getP] at hI
  simp -dsimp [go_sem,hN,hc]
  refine cnd ?_ ?_<;>intro hg<;>simp at hg
  ·
   simp -dsimp [go_sem,hN,hc]
   simp [← hI,hg]
  ·
   simp -dsimp [go_sem,hN,hw]
   exact ⟨hc,by simpa [hg] using hI,(Wk.mk (by simp [hh]) (by simp [go_sem]) (by simp [hu,qab hu,go_sem]) (by simp [go_sem]))⟩
 ·
  rw [List.drop_eq_nil_of_le (by omega),getP] at hI
  simp -dsimp [go_sem,hN,← hI]
theorem c_ref06_with (l:List Pr) (p:Pr) (hB:l.length<68719476736):APure Tryz.prog 65 [.slice (l.map Pr.c),.agg p.c] (.slice ((withP l p).map Pr.c)):=by
 refine qak Tryz.func65 Tryz.ntmps65 rfl (by kernel_rfl) rfl rfl fun E h hN hh hu hb=>?_
 simp [go_sem] at hb
 simp -dsimp [go_sem,hN]
 refine qai l.length (fun n=>n+posP p.key (l.drop n)=posP p.key l) (fun n=>⟨[(0,.slice (l.map Pr.c)),(3,P0 h.length),(5,I n)],h++[.cells p.c]⟩) (by simp) (Wk.mk (by simp [hh]) (by simp [go_sem]) (by simp [hu,qab hu,go_sem]) (by simp [go_sem])) ?_
 intro n hn hI
 have hw:=qav hn (Nat.le_of_lt hB)
 simp -dsimp [go_sem,hN]
 refine qah 12 mixed (by kernel_rfl) (by kernel_rfl) ?_
 by_cases hc:n<l.length
 ·
  rw [qae hc,posP] at hI
  simp -dsimp [go_sem,hN,hc]
  refine cnd ?_ ?_<;>intro hg<;>try simp at hg
  ·
   simp -dsimp [go_sem,hN,hw]
   rw [if_pos hg] at hI
   exact ⟨hc,by omega,(Wk.mk (by simp [hh]) (by simp [go_sem]) (by simp [hu,qab hu,go_sem]) (by simp [go_sem]))⟩
  ·
   rw [if_neg (by simp [hg])] at hI
   simp -dsimp [go_sem,hN]
   refine ⟨by omega,by omega,by omega,by omega,by omega,?_⟩
   rw [if_pos (by omega)]
   simp [withP,← hI,Pr.c,List.map_take,List.map_drop]
 ·
  rw [List.drop_eq_nil_of_le (by omega),posP] at hI
  simp -dsimp [go_sem,hN,hc]
  refine ⟨by omega,by omega,by omega,by omega,by omega,?_⟩
  rw [if_pos (by omega)]
  simp [withP,← hI,Pr.c,List.map_take,List.map_drop]
theorem c_ref06_Apply (l w:List Pr) (hB:l.length+w.length<68719476736):APure Tryz.prog 30 [.slice (l.map Pr.c),.slice (w.map Pr.c)]
  (if qbb l&&qb0 w then .tuple [.slice ((qdr l w).map Pr.c),I 0] else .tuple [.slice [],I 1]):=by
 refine qd3 Tryz.func30 rfl (by kernel_rfl) (by simp [Tryz.ntmps30]) (by split<;>rfl) ?_
 intro E h hN hh hu hb
 rw [Tryz.ntmps30] at hN
 refine qa3 _ _ _ ?_
 simp [go_sem] at hb
 simp -dsimp [go_sem,hN]
 refine qaa (c_ref06_Valid l) ?_
 simp -dsimp [go_sem,hN]
 refine qaf (c_ref06_ValidWrites w) (by simp) ?_
 simp -dsimp [go_sem,hN]
 refine cnd ?_ ?_<;>intro h0<;>simp at h0
 ·
  simp -dsimp [go_sem,hN]
  grind
 rw [h0.1,h0.2]
 simp -dsimp [go_sem,hN]
 refine qat (α:=List Pr) l.length (fun n o=>o++keepP w (l.drop n)=keepP w l∧o.length≤n) (fun n o=>⟨[(0,.slice (l.map Pr.c)),(1,.slice (w.map Pr.c)),(6,.own h.length o.length),(7,I n)],h++[.arr 79 4 (o.map Pr.c)]⟩) [] (by simp) ((nil_wk E _ 6 79 4 rfl).trans (Wk.mk (by simp [hh]) (by simp [go_sem]) (by simp [hu,qab hu,go_sem]) (by simp [go_sem]))) ?_
 intro n o hn ⟨hI,hol⟩
 have hw:=qav hn hb.1.1
 simp -dsimp [go_sem,hN]
 refine cnd ?_ ?_<;>intro hc<;>simp at hc
 ·
  rw [qae hc,keepP] at hI
  simp -dsimp [go_sem,hN,hc]
  refine qaa (c_ref06_Has w _) ?_
  simp -dsimp [go_sem,hN]
  refine cnd ?_ ?_<;>intro hg<;>simp at hg
  ·
   simp -dsimp [go_sem,hN,hc]
   refine ⟨by omega,?_⟩
   simp -dsimp [go_sem,hN,hw]
   exact ⟨o++[l[n]],⟨by simpa [hg] using hI,by simp;omega⟩,(Wk.mk (by simp [hh]) (by simp [go_sem]) (by simp [hu,qab hu,go_sem]) (by simp [go_sem]))⟩
  ·
   simp -dsimp [go_sem,hN,hw]
   exact ⟨hc,o,⟨by simpa [hg] using hI,by omega⟩,(Wk.mk (by simp [hh]) (by simp [go_sem]) (by simp [hu,qab hu,go_sem]) (by simp [go_sem]))⟩
 rw [List.drop_eq_nil_of_le (by omega),keepP,List.append_nil] at hI
 simp -dsimp [go_sem,hN]
 subst hI
 refine qat (α:=List Pr) w.length (fun n o=>addP o (w.drop n)=qdr l w∧o.length≤l.length+n) (fun n o=>⟨[(1,.slice (w.map Pr.c)),(6,.slice (o.map Pr.c)),(8,I n)],h⟩) (keepP w l) (by simp [qdr];omega) ((norm_wk E _).trans (Wk.mk (by simp [hh]) (by simp [go_sem]) (by simp [hu,qab hu,go_sem]) (by simp [go_sem]))) ?_
 intro n o hn ⟨hI,hol⟩
 have hw:=qav hn hb.2.1
 simp -dsimp [go_sem,hN]
 refine cnd ?_ ?_<;>intro hc<;>simp at hc
 ·
  rw [qae hc,addP] at hI
  simp -dsimp [go_sem,hN,hc]
  refine cnd ?_ ?_<;>intro hg<;>simp at hg
  ·
   simp -dsimp [go_sem,hN,hc]
   refine qaa (c_ref06_with o _ (by omega)) ?_
   simp -dsimp [go_sem,hN,hw]
   exact ⟨hc,withP o w[n],⟨by simpa [hg] using hI,by rw [withP_len];omega⟩,(Wk.mk (by simp [hh]) (by simp [go_sem]) (by simp [hu,qab hu,go_sem]) (by simp [go_sem]))⟩
  ·
   simp -dsimp [go_sem,hN,hw]
   exact ⟨hc,o,⟨by simpa [hg] using hI,by omega⟩,(Wk.mk (by simp [hh]) (by simp [go_sem]) (by simp [hu,qab hu,go_sem]) (by simp [go_sem]))⟩
 ·
  rw [List.drop_eq_nil_of_le (by omega),addP] at hI
  simp -dsimp [go_sem,hN,hI]
end Go.Proofs.YtdbpbpmikpdjcaaGreatDoor

set_option maxRecDepth 4000
namespace Go.Proofs.YtdbpbpmikpdjcaaGreatDoor
open Go Go.Abs Go.Cw
theorem c_lexer_letter (c:Int):APure Tryz.prog 244 [.val (.int .i32 c)] (Bo (ltr c)):=by
 refine qak Tryz.func244 Tryz.ntmps244 rfl (by kernel_rfl) rfl rfl fun E h hN hh hu hb=>?_
 simp -dsimp [go_sem,hN,ltr]
theorem c_lexer_word (s:qad):APure Tryz.prog 245 [S s] (I (wordLen (bl s))):=by
 refine qak Tryz.func245 Tryz.ntmps245 rfl (by kernel_rfl) rfl rfl fun E h hN hh hu hb=>?_
 simp [go_sem] at hb
 simp -dsimp [go_sem,hN]
 refine qai s.size (fun n=>n+wordLen ((bl s).drop n)=wordLen (bl s)) (fun n=>⟨[(0,S s),(6,P0 h.length)],h++[.iter s n]⟩) (by simp) (Wk.mk (by simp [hh]) (by simp [go_sem]) (by simp [hu,qab hu,go_sem]) (by simp [go_sem])) ?_
 intro n hn hI
 have hw:=qav hn hb
 simp -dsimp [go_sem,hN]
 by_cases hc:n<s.size
 ·
  rw [bdrop hc,wordLen] at hI
  simp -dsimp [go_sem,hN,hc]
  refine qaa (c_lexer_letter _) ?_
  simp -dsimp [go_sem,hN]
  by_cases h8:(bAt s n).toNat<128
  ·
   simp only [dec_lo hc h8]
   refine ⟨by grind,cnd (fun hg=>?_) (fun hg=>?_)⟩
   ·
    have hg':wordI ((bAt s n).toNat:Int)=false:=by simp [wordI] at hg ⊢;grind
    simp -dsimp [go_sem,hN]
    rw [← hI]
    simp [hg']
   ·
    have hg':wordI ((bAt s n).toNat:Int)=true:=by simp [wordI] at hg ⊢;grind
    simp -dsimp [go_sem,hN,hw]
    exact ⟨hc,by rw [if_pos hg'] at hI;omega,(Wk.mk (by simp [hh]) (by simp [go_sem]) (by simp [hu,qab hu,go_sem]) (by simp [go_sem]))⟩
  ·
   have h9:=dec_hi hc h8
   have hg':wordI ((bAt s n).toNat:Int)=false:=by simp [wordI,ltr];omega
   have hl:ltr ((Utf8.decode s n).1:Int)=false:=by simp [ltr];omega
   refine ⟨by grind,cnd (fun hg=>?_) (fun hg=>?_)⟩
   ·
    simp -dsimp [go_sem,hN]
    rw [← hI]
    simp [hg']
   ·
    simp [hl] at hg
    omega
 ·
  rw [bend hc,wordLen] at hI
  simp -dsimp [go_sem,hN,hc]
  have:wordLen (bl s)=s.size:=by omega
  simp [this]
theorem c_lexer_IsKeyword (s:qad):APure Tryz.prog 246 [S s] (Bo (kw s)):=by
 refine qak Tryz.func246 Tryz.ntmps246 rfl (by kernel_rfl) rfl rfl fun E h hN hh hu hb=>?_
 simp -dsimp [go_sem,hN]
 iterate 25
  refine cnd (fun hg=>?_) (fun hg=>?_)
  ·
   simp at hg
   subst hg
   simp -dsimp [go_sem,hN]
   rfl
  simp -dsimp [go_sem,hN]
  try simp at hg
 simp [kw, *]
theorem c_ast_plain (s:qad):APure Tryz.prog 307 [S s] (Bo (qa6 s)):=by
 refine qak Tryz.func307 Tryz.ntmps307 rfl (by kernel_rfl) rfl rfl fun E h hN hh hu hb=>?_
 simp [go_sem] at hb
 simp -dsimp [go_sem,hN]
 refine qai s.size (fun n=>allL okB ((bl s).drop n)=allL okB (bl s)) (fun n=>⟨[(0,S s),(3,I n)],h⟩) (by simp) (Wk.mk (by simp [hh]) (by simp [go_sem]) (by simp [hu,qab hu,go_sem]) (by simp [go_sem])) ?_
 intro n hn hI
 have hw:=qav hn hb
 simp -dsimp [go_sem,hN]
 refine cnd ?_ ?_<;>intro hc<;>simp at hc
 ·
  rw [bdrop hc,allL] at hI
  simp -dsimp [go_sem,hN,hc]
  refine cnd (fun hg=>?_) (fun hg=>?_)
  ·
   simp -dsimp [go_sem,hN]
   simp [qa6,← hI,okB,hg]
  ·
   simp -dsimp [go_sem,hN,hw]
   exact ⟨hc,by simpa [okB,hg] using hI,(Wk.mk (by simp [hh]) (by simp [go_sem]) (by simp [hu,qab hu,go_sem]) (by simp [go_sem]))⟩
 ·
  rw [bend (by omega),allL] at hI
  simp -dsimp [go_sem,hN,qa6,← hI]
theorem c_ast_Arity (op:Int):APure Tryz.prog 306 [I op] (I (qby op)):=by
 refine qak Tryz.func306 Tryz.ntmps306 rfl (by kernel_rfl) rfl rfl fun E h hN hh hu hb=>?_
 simp -dsimp [go_sem,hN]
 refine cnd ?_ ?_<;>intro h0<;>simp at h0<;>simp -dsimp [go_sem,hN,qby,h0]
 refine cnd ?_ ?_<;>intro h1<;>simp at h1<;>simp -dsimp [go_sem,hN,qby,h0,h1]
 refine cnd ?_ ?_<;>intro h2<;>simp at h2<;>simp -dsimp [go_sem,hN,qby]
 · rw [if_neg (by omega),if_neg (by omega),if_pos (by omega)]
 · rw [if_neg (by omega),if_neg (by omega),if_neg (by omega)]
theorem c_lexer_IsName (s:qad):APure Tryz.prog 210 [S s] (Bo (nameOk s)):=by
 refine qak Tryz.func210 Tryz.ntmps210 rfl (by kernel_rfl) rfl rfl fun E h hN hh hu hb=>?_
 rcases sz_em s with rfl | h1
 ·
  simp -dsimp [go_sem,hN,nameOk]
  refine tgcall_if .top (by simp) (by simp) ?_
  simp -dsimp [go_sem,hN]
  refine tgcall_if .top (by simp) (by simp) ?_
  simp -dsimp [go_sem,hN]
  refine tgcall_if .top (by simp) (by simp) ?_
  simp -dsimp [go_sem,hN,nameOk]
 ·
  have h1':0<s.size:=by omega
  have he:¬ s=em:=by rintro rfl;simp at h1
  simp -dsimp [go_sem,hN,h1',he]
  refine qaf (c_lexer_letter _) (by simp) ?_
  simp -dsimp [go_sem,hN]
  refine qaf (c_lexer_word s) (by simp) ?_
  simp -dsimp [go_sem,hN]
  refine qaf (c_lexer_IsKeyword s) (by simp) ?_
  simp -dsimp [go_sem,hN,nameOk,he]
theorem c_ast_node (op n:Int) (s:qad) (args:List Ex) (d:Nat):APure Tryz.prog 296 [.agg [I op,I n,S s,.slice (args.map Ex.c)],I d] (I (qb7 op n s args.length d)):=by
 refine qak Tryz.func296 Tryz.ntmps296 rfl (by kernel_rfl) rfl rfl fun E h hN hh hu hb=>?_
 simp -dsimp [go_sem,hN]
 refine qaa (c_ast_Arity _) ?_
 simp -dsimp [go_sem,hN]
 repeat refine ⟨by grind,?_⟩
 refine cnd (fun h0=>?_) (fun h0=>?_)
 ·
  simp -dsimp [go_sem,hN]
  simp at h0
  rw [qb7,if_pos (by grind)]
 have h0':¬ (qby op<0∨(op≠1∧n≠0)∨(op≠2∧op≠3∧s≠em)):=by simp at h0;grind
 simp -dsimp [go_sem,hN]
 refine qaf (c_lexer_IsName s) (by simp) ?_
 simp -dsimp [go_sem,hN]
 refine cnd (fun h1=>?_) (fun h1=>?_)
 ·
  simp -dsimp [go_sem,hN]
  simp at h1
  rw [qb7,if_neg h0',if_pos (by grind)]
 have h1':¬ (op=3∧nameOk s=false):=by simp at h1;grind
 simp -dsimp [go_sem,hN]
 repeat refine ⟨by grind,?_⟩
 refine qaf (c_ast_plain s) (by simp) ?_
 simp -dsimp [go_sem,hN]
 repeat refine ⟨by grind,?_⟩
 refine cnd (fun h2=>?_) (fun h2=>?_)
 ·
  simp -dsimp [go_sem,hN]
  simp at h2
  rw [qb7,if_neg h0',if_neg h1',if_pos (by grind)]
 have h2':¬ ((op=1∧n<0)∨(op=2∧qa6 s=false)∨(args.length:Int)≠qby op):=by simp at h2;grind
 simp -dsimp [go_sem,hN]
 refine cnd ?_ ?_<;>intro h3<;>simp at h3
 ·
  simp -dsimp [go_sem,hN]
  rw [qb7,if_neg h0',if_neg h1',if_neg h2',if_pos (by omega)]
 ·
  simp -dsimp [go_sem,hN]
  rw [qb7,if_neg h0',if_neg h1',if_neg h2',if_neg (by omega)]
theorem c_ast_check (e:Ex) (d:Nat):APure Tryz.prog 282 [.agg [I e.op,I e.n,S e.s,.slice (e.args.map Ex.c)],I d] (I (chkE e d)):=by
 refine qak Tryz.func282 Tryz.ntmps282 rfl (by kernel_rfl) rfl rfl fun E h hN hh hu hb=>?_
 simp [go_sem] at hb
 simp -dsimp [go_sem,hN]
 refine qaa (c_ast_node _ _ _ _ _) ?_
 simp -dsimp [go_sem,hN]
 refine cnd ?_ ?_<;>intro h0<;>simp at h0
 ·
  simp -dsimp [go_sem,hN]
  rw [chkE_eq,if_neg h0]
 have hd:d≤12:=by
  unfold qb7 at h0
  grind
 simp -dsimp [go_sem,hN]
 refine qai e.args.length (fun n=>chkL (e.args.drop n) (d+1)=chkL e.args (d+1)) (fun n=>⟨[(1,I d),(16,.slice (e.args.map Ex.c)),(17,I e.args.length),(18,I n)],h⟩) (by simp) (Wk.mk (by simp [hh]) (by simp [go_sem]) (by simp [hu,qab hu,go_sem]) (by simp [go_sem])) ?_
 intro n hn hI
 have hw:=qav hn hb.2.1
 have hw2:IntKind.i64.wrap ((d:Int)+1)=((d+1:Nat):Int):=by rw [wrapI (by omega) (by omega)];rfl
 simp -dsimp [go_sem,hN]
 refine cnd ?_ ?_<;>intro hc<;>simp at hc
 ·
  rw [qae hc,chkL] at hI
  simp -dsimp [go_sem,hN,hc,hw2]
  have hlt:SizeOf.sizeOf e.args[n]<SizeOf.sizeOf e:=Ex.arg_lt (List.getElem_mem hc)
  refine qaa (c_ast_check e.args[n] (d+1)) ?_
  simp -dsimp [go_sem,hN]
  refine cnd ?_ ?_<;>intro hg<;>simp at hg
  ·
   simp -dsimp [go_sem,hN]
   rw [chkE_eq e,if_pos h0,← hI,if_neg hg]
  ·
   simp -dsimp [go_sem,hN,hw]
   exact ⟨hc,by simpa [hg] using hI,(Wk.mk (by simp [hh]) (by simp [go_sem]) (by simp [hu,qab hu,go_sem]) (by simp [go_sem]))⟩
 ·
  rw [List.drop_eq_nil_of_le (by omega),chkL] at hI
  simp -dsimp [go_sem,hN]
  rw [chkE_eq e,if_pos h0,← hI]
termination_by SizeOf.sizeOf e
theorem c_ast_ValidExpr (e:Ex):APure Tryz.prog 252 [.agg [I e.op,I e.n,S e.s,.slice (e.args.map Ex.c)]] (I (chkE e 1)):=by
 refine qak Tryz.func252 Tryz.ntmps252 rfl (by kernel_rfl) rfl rfl fun E h hN hh hu hb=>?_
 simp -dsimp [go_sem,hN]
 refine qaa (c_ast_check e 1) ?_
 simp -dsimp [go_sem,hN]
end Go.Proofs.YtdbpbpmikpdjcaaGreatDoor

set_option maxRecDepth 4000
namespace Go.Proofs.YtdbpbpmikpdjcaaGreatDoor
open Go Go.Abs Go.Cw
theorem c_ast_usesOf (op:Int):APure Tryz.prog 250 [I op] (.tuple [.agg (qa9 op).1.c,Bo (qa9 op).2]):=by
 refine qak Tryz.func250 Tryz.ntmps250 rfl (by kernel_rfl) rfl rfl fun E h hN hh hu hb=>?_
 by_cases h1:op=1
 · subst h1;simp -dsimp [go_sem,hN,qa9]
 by_cases h2:op=2
 · subst h2;simp -dsimp [go_sem,hN,qa9]
 by_cases h3:op=3
 · subst h3;simp -dsimp [go_sem,hN,qa9]
 by_cases h4:op=4
 · subst h4;simp -dsimp [go_sem,hN,qa9]
 by_cases h7:op=7
 · subst h7;simp -dsimp [go_sem,hN,qa9]
 by_cases h5:op=5
 · subst h5;simp -dsimp [go_sem,hN,qa9]
 by_cases h6:op=6
 · subst h6;simp -dsimp [go_sem,hN,qa9]
 by_cases h8:op=8
 · subst h8;simp -dsimp [go_sem,hN,qa9]
 simp -dsimp [go_sem,hN,qa9,h1,h2,h3,h4,h5,h6,h7,h8]
theorem c_ast_absent (e:Ex):APure Tryz.prog 281 [.agg e.x] (Bo (absE e)):=by
 refine qak Tryz.func281 Tryz.ntmps281 rfl (by kernel_rfl) rfl rfl fun E h hN hh hu hb=>?_
 simp -dsimp [go_sem,hN,absE]
 try grind
theorem c_ast_shape (s:St) (u:Uses):APure Tryz.prog 251 [.agg s.x,.agg u.c] (Bo (qb1 s u)):=by
 refine qak Tryz.func251 Tryz.ntmps251 rfl (by kernel_rfl) rfl rfl fun E h hN hh hu hb=>?_
 simp -dsimp [go_sem,hN]
 repeat refine ⟨by grind,?_⟩
 refine qaf (c_ast_absent s.a) (by simp) ?_
 simp -dsimp [go_sem,hN]
 repeat refine ⟨by grind,?_⟩
 refine qaf (c_ast_absent s.b) (by simp) ?_
 simp -dsimp [go_sem,hN]
 repeat refine ⟨by grind,?_⟩
 refine cnd (fun h0=>?_) (fun h0=>?_)
 ·
  simp -dsimp [go_sem,hN]
  simp [qb1] at h0 ⊢
  grind
 ·
  simp -dsimp [go_sem,hN]
  refine cnd ?_ ?_<;>intro h1<;>simp at h1<;>simp -dsimp [go_sem,hN,h1]
  ·
   simp [qb1,h1] at h0 ⊢
   grind
  ·
   refine cnd ?_ ?_<;>intro h2<;>simp at h2<;>simp -dsimp [go_sem,hN,h2]
   ·
    simp [qb1,h1,h2] at h0 ⊢
    grind
   ·
    simp [qb1,h1,h2] at h0 ⊢
    grind
end Go.Proofs.YtdbpbpmikpdjcaaGreatDoor

set_option maxRecDepth 4000
namespace Go.Proofs.YtdbpbpmikpdjcaaGreatDoor
open Go Go.Abs Go.Cw
theorem c_ast_statement (s:St) (d:Int):APure Tryz.prog 214 [.agg s.x,I d] (I (qbk s d)):=by
 refine qak Tryz.func214 Tryz.ntmps214 rfl (by kernel_rfl) rfl rfl fun E h hN hh hu hb=>?_
 simp -dsimp [go_sem,hN]
 refine qaa (c_ast_usesOf _) ?_
 simp -dsimp [go_sem,hN]
 refine qaf (c_ast_shape s (qa9 s.op).1) (by simp) ?_
 simp -dsimp [go_sem,hN]
 refine cnd (fun h0=>?_) (fun h0=>?_)
 ·
  simp -dsimp [go_sem,hN]
  simp at h0
  rw [qbk,if_pos (by grind)]
 have h0':¬ ((qa9 s.op).2=false∨qb1 s (qa9 s.op).1=false):=by simp at h0;grind
 simp -dsimp [go_sem,hN]
 refine qaf (c_lexer_IsName _) (by simp) ?_
 simp -dsimp [go_sem,hN]
 refine cnd (fun h1=>?_) (fun h1=>?_)
 ·
  simp -dsimp [go_sem,hN]
  simp at h1
  rw [qbk,if_neg h0',if_pos (by grind)]
 have h1':¬ ((qa9 s.op).1.name=true∧nameOk s.name=false):=by simp at h1;grind
 simp -dsimp [go_sem,hN]
 have tail:¬ ((qa9 s.op).1.a=true∧chkE s.a 1≠0)→¬ ((qa9 s.op).1.b=true∧chkE s.b 1≠0)→∀ x:Int,x=(if 12<d then 2 else 0)→x=qbk s d:=by
  intro g1 g2 x hx
  rw [qbk,if_neg h0',if_neg h1',if_neg g1,if_neg g2,hx]
 have tailb:¬ ((qa9 s.op).1.a=true∧chkE s.a 1≠0)→((qa9 s.op).1.b=true∧chkE s.b 1≠0)→chkE s.b 1=qbk s d:=by
  intro g1 g2
  rw [qbk,if_neg h0',if_neg h1',if_neg g1,if_pos g2]
 refine cnd (fun h2=>?_) (fun h2=>?_)
 ·
  simp -dsimp [go_sem,hN]
  refine qaa (c_ast_ValidExpr s.a) ?_
  simp -dsimp [go_sem,hN]
  refine cnd ?_ ?_<;>intro h3<;>simp at h3
  ·
   simp -dsimp [go_sem,hN]
   rw [qbk,if_neg h0',if_neg h1',if_pos ⟨h2,h3⟩]
  simp -dsimp [go_sem,hN]
  refine cnd (fun h4=>?_) (fun h4=>?_)
  ·
   simp -dsimp [go_sem,hN]
   refine qaa (c_ast_ValidExpr s.b) ?_
   simp -dsimp [go_sem,hN]
   refine cnd ?_ ?_<;>intro h5<;>simp at h5
   ·
    simp -dsimp [go_sem,hN]
    exact tailb (by grind) ⟨h4,h5⟩
   simp -dsimp [go_sem,hN]
   refine cnd ?_ ?_<;>intro h6<;>simp at h6<;>simp -dsimp [go_sem,hN]<;>refine tail (by grind) (by grind) _ (by rw [eq_comm];first | exact if_pos h6 | exact if_neg (by omega))
  ·
   simp -dsimp [go_sem,hN]
   refine cnd ?_ ?_<;>intro h6<;>simp at h6<;>simp -dsimp [go_sem,hN]<;>refine tail (by grind) (by grind) _ (by rw [eq_comm];first | exact if_pos h6 | exact if_neg (by omega))
 ·
  simp -dsimp [go_sem,hN]
  refine cnd (fun h4=>?_) (fun h4=>?_)
  ·
   simp -dsimp [go_sem,hN]
   refine qaa (c_ast_ValidExpr s.b) ?_
   simp -dsimp [go_sem,hN]
   refine cnd ?_ ?_<;>intro h5<;>simp at h5
   ·
    simp -dsimp [go_sem,hN]
    exact tailb (by grind) ⟨h4,h5⟩
   simp -dsimp [go_sem,hN]
   refine cnd ?_ ?_<;>intro h6<;>simp at h6<;>simp -dsimp [go_sem,hN]<;>refine tail (by grind) (by grind) _ (by rw [eq_comm];first | exact if_pos h6 | exact if_neg (by omega))
  ·
   simp -dsimp [go_sem,hN]
   refine cnd ?_ ?_<;>intro h6<;>simp at h6<;>simp -dsimp [go_sem,hN]<;>refine tail (by grind) (by grind) _ (by rw [eq_comm];first | exact if_pos h6 | exact if_neg (by omega))
theorem c_ast_params1 (x:Param) (h:qac) (i:Nat) (p:Param) (hi:h[i]?=some (.cells p.c)):ACalls Tryz.prog 248 [.agg x.c,.ptr i 0] h fun r h'=>r=.ret (Bo (decide (x.name=p.name)))∧h'=h:=by
 refine qa0 Tryz.func248 Tryz.ntmps248 rfl (by kernel_rfl) rfl fun E hN hh hu hb hb' hua=>?_
 have hi':i<h.length:=(List.getElem?_eq_some_iff.1 hi).1
 have a1:∀ l,(h++l)[i]?=some (.cells p.c):=fun l=>by rw [List.getElem?_append_left hi'];exact hi
 simp -dsimp [go_sem,hN,a1,hu]
 exact ⟨_,.refl _,h,by simp [go_sem],by simp [go_sem],by simp,by simp [hu,go_sem],rfl,rfl⟩
theorem c_IndexFunc_Param (l:List Param) (f:FuncId) (caps:List AV) (q:Param→Bool) (h:qac) (hcn:qbg h caps=caps) (hp:∀ x:Param,ACalls Tryz.prog f ([.agg x.c]++caps) h fun r h'=>r=.ret (Bo (q x))∧h'=h) :
  ACalls Tryz.prog 279 [.slice (l.map Param.c),.fn (.func f) [] caps] h fun r h'=>r=.ret (I (idxOf q l))∧h'=h:=by
 refine qa0 Tryz.func279 Tryz.ntmps279 rfl (by kernel_rfl) rfl fun E hN hh hu hb hb' hua=>?_
 simp [go_sem] at hb
 simp -dsimp [go_sem,hN]
 refine qai l.length (fun n=>qcm q n (l.drop n)=idxOf q l) (fun n=>⟨[(0,.slice (l.map Param.c)),(1,.fn (.func f) [] caps),(7,I l.length),(8,I n)],h⟩) (by simp [idxOf]) (Wk.mk (by simp [hh]) (by simp) (by simp [hu]) (by simp [go_sem];simpa [go_sem] using hua)) ?_
 intro n hn hI
 have hw:=qav hn hb.1
 simp -dsimp [go_sem,hN]
 refine cnd ?_ ?_<;>intro hc<;>simp at hc
 ·
  rw [qae hc,qcm] at hI
  simp -dsimp [go_sem,hN,hc,hcn]
  refine qam (hp l[n]) ?_
  rintro r h' ⟨rfl,rfl⟩
  simp -dsimp [go_sem,hN]
  refine cnd ?_ ?_<;>intro hg<;>try simp at hg
  ·
   simp -dsimp [go_sem,hN]
   rw [if_pos hg] at hI
   rw [hI]
   exact ⟨_,.refl _,h',by simp [go_sem],by simp [go_sem],by simp,by simp [hu,go_sem],rfl,rfl⟩
  ·
   simp -dsimp [go_sem,hN,hw]
   exact ⟨hc,by simpa [hg] using hI,Wk.mk (by simp [hh]) (by simp) (by simp [hu]) (by simp [go_sem];simpa [go_sem] using hua)⟩
 ·
  rw [List.drop_eq_nil_of_le (by omega),qcm] at hI
  simp -dsimp [go_sem,hN,← hI]
  exact ⟨_,.refl _,h,by simp [go_sem],by simp [go_sem],by simp,by simp [hu,go_sem],rfl,rfl⟩
theorem c_ContainsFunc_Param (l:List Param) (f:FuncId) (caps:List AV) (q:Param→Bool) (h:qac) (hcn:qbg h caps=caps) (hp:∀ x:Param,ACalls Tryz.prog f ([.agg x.c]++caps) h fun r h'=>r=.ret (Bo (q x))∧h'=h) :
  ACalls Tryz.prog 247 [.slice (l.map Param.c),.fn (.func f) [] caps] h fun r h'=>r=.ret (Bo (anyL q l))∧h'=h:=by
 refine qa0 Tryz.func247 Tryz.ntmps247 rfl (by kernel_rfl) rfl fun E hN hh hu hb hb' hua=>?_
 simp -dsimp [go_sem,hN]
 refine qam (c_IndexFunc_Param l f caps q h hcn hp) ?_
 rintro r h' ⟨rfl,rfl⟩
 simp -dsimp [go_sem,hN,idxOf_nonneg]
 exact ⟨_,.refl _,h',by simp [go_sem],by simp [go_sem],by simp,by simp [hu,go_sem],rfl,rfl⟩
theorem c_ast_params (l:List Param):APure Tryz.prog 211 [.slice (l.map Param.c)] (I (paramsE l)):=by
 refine qak Tryz.func211 Tryz.ntmps211 rfl (by kernel_rfl) rfl rfl fun E h hN hh hu hb=>?_
 unfold paramsE
 simp [go_sem] at hb
 simp -dsimp [go_sem,hN]
 refine cnd ?_ ?_<;>intro h0<;>simp at h0
 ·
  simp -dsimp [go_sem,hN]
  omega
 simp -dsimp [go_sem,hN]
 rw [if_neg (by omega)]
 refine qai l.length (fun n=>qc0 (l.take n) (l.drop n)=qc0 [] l) (fun n=>⟨[(0,.slice (l.map Param.c)),(8,.slice (l.map Param.c)),(9,I l.length),(10,I n)],h⟩) (by simp) (Wk.mk (by simp [hh]) (by simp [go_sem]) (by simp [hu,qab hu,go_sem]) (by simp [go_sem])) ?_
 intro n hn hI
 have hw:=qav hn hb.1
 simp -dsimp [go_sem,hN]
 refine cnd ?_ ?_<;>intro hc<;>simp at hc
 ·
  rw [qae hc,qc0] at hI
  simp -dsimp [go_sem,hN,hc]
  refine qaa (c_lexer_IsName _) ?_
  simp -dsimp [go_sem,hN]
  refine cnd ?_ ?_<;>intro h1<;>simp at h1
  ·
   simp -dsimp [go_sem,hN]
   simpa [h1] using hI
  simp -dsimp [go_sem,hN]
  refine cnd ?_ ?_<;>intro h2<;>simp at h2
  ·
   simp -dsimp [go_sem,hN]
   simpa [h1,h2] using hI
  have h2':¬ (l[n].ty<1∨3<l[n].ty):=by omega
  simp -dsimp [go_sem,hN,hn]
  have ecl:(List.map Param.c l).take n=(l.take n).map Param.c:=by simp
  rw [ecl]
  refine qam (c_ContainsFunc_Param (l.take n) _ _ (fun x=>decide (x.name=l[n].name)) _ (by simp [qbg,AV.norm]) (fun x=>c_ast_params1 x _ _ l[n] (by simp [Param.c]))) ?_
  rintro r h' ⟨rfl,rfl⟩
  simp -dsimp [go_sem,hN]
  refine cnd ?_ ?_<;>intro h3<;>try simp at h3
  ·
   simp -dsimp [go_sem,hN]
   simpa [h1,h2',h3] using hI
  ·
   simp -dsimp [go_sem,hN,hw]
   refine ⟨hc,?_,(Wk.mk (by simp [hh]) (by simp [go_sem]) (by simp [hu,qab hu,go_sem]) (by simp [go_sem]))⟩
   rw [List.take_succ_eq_append_getElem hc]
   simpa [h1,h2',h3] using hI
 ·
  rw [List.drop_eq_nil_of_le (by omega),qc0] at hI
  simp -dsimp [go_sem,hN,← hI]
end Go.Proofs.YtdbpbpmikpdjcaaGreatDoor
