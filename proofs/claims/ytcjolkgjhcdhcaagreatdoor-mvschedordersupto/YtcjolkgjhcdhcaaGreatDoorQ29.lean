/- Part 29 of a proof: W2, W4, W5, W6 -/
import Derived.Test.YtcjolkgjhcdhcaaGreatDoorQ20
import Derived.Test.YtcjolkgjhcdhcaaGreatDoorQ28
set_option linter.all false

set_option maxRecDepth 4000
namespace Go.Proofs.YtcjolkgjhcdhcaaGreatDoor
open Go Go.Abs Go.Cw
theorem c_ref05_Plain (s:qag):APure Tryz.prog 110 [S s] (Bo (qbf s)):=by
 refine qad Tryz.func110 rfl (by kernel_rfl) (by simp [Tryz.ntmps110]) rfl ?_
 intro E h hN hh hu hb
 rw [Tryz.ntmps110] at hN
 refine qab _ _ _ ?_
 simp [go_sem] at hb
 simp -dsimp [go_sem,hN]
 refine cnd ?_ ?_<;>intro h0<;>simp at h0
 ·
  simp -dsimp [go_sem,hN]
  simp [qbf,Int.not_le.2 h0]
 simp -dsimp [go_sem,hN]
 refine qah s.size (fun n=>allL okB ((bl s).drop n)=allL okB (bl s)) (fun n=>⟨[(0,S s),(3,I n)],h⟩) (by simp) (Wk.mk (by simp [hh]) (by simp [go_sem]) (by simp [hu,qaa hu,go_sem]) (by simp [go_sem])) ?_
 intro n hn hI
 have hw:=qax hn hb
 simp -dsimp [go_sem,hN]
 refine cnd ?_ ?_<;>intro hc<;>simp at hc
 ·
  rw [bdrop hc,allL] at hI
  simp -dsimp [go_sem,hN,hc]
  refine cnd (fun hg=>?_) (fun hg=>?_)
  ·
   simp -dsimp [go_sem,hN]
   simp [qbf,← hI,okB,hg]
  ·
   simp -dsimp [go_sem,hN,hw]
   exact ⟨hc,by simpa [okB,hg] using hI,(Wk.mk (by simp [hh]) (by simp [go_sem]) (by simp [hu,qaa hu,go_sem]) (by simp [go_sem]))⟩
 ·
  rw [bend (by omega),allL] at hI
  simp -dsimp [go_sem,hN,qbf,← hI,h0]
theorem c_ref04_Valid (s:qag):APure Tryz.prog 104 [S s] (Bo (keyOk s)):=by
 refine qad Tryz.func104 rfl (by kernel_rfl) (by simp [Tryz.ntmps104]) rfl ?_
 intro E h hN hh hu hb
 rw [Tryz.ntmps104] at hN
 refine qab _ _ _ ?_
 simp [go_sem] at hb
 simp -dsimp [go_sem,hN]
 refine qah s.size (fun n=>allL keyB ((bl s).drop n)=allL keyB (bl s)) (fun n=>⟨[(0,S s),(3,I n)],h⟩) (by simp) (Wk.mk (by simp [hh]) (by simp [go_sem]) (by simp [hu,qaa hu,go_sem]) (by simp [go_sem])) ?_
 intro n hn hI
 have hw:=qax hn hb
 simp -dsimp [go_sem,hN]
 refine cnd ?_ ?_<;>intro hc<;>simp at hc
 ·
  rw [bdrop hc,allL] at hI
  simp -dsimp [go_sem,hN,hc]
  refine ⟨by omega,cnd (fun hg=>?_) (fun hg=>?_)⟩
  ·
   simp -dsimp [go_sem,hN]
   have:keyB (bAt s n)=false:=by
    simp [keyB] at hg ⊢
    omega
   simp [keyOk,← hI,this]
  ·
   simp -dsimp [go_sem,hN,hw]
   have:keyB (bAt s n)=true:=by
    simp [keyB] at hg ⊢
    omega
   exact ⟨hc,by simpa [this] using hI,(Wk.mk (by simp [hh]) (by simp [go_sem]) (by simp [hu,qaa hu,go_sem]) (by simp [go_sem]))⟩
 ·
  rw [bend (by omega),allL] at hI
  have e1:s=em∨1≤(s.size:Int):=sz_em s
  rcases e1 with rfl | e1
  · simp -dsimp [go_sem,hN,keyOk]
  ·
   have e2:¬ s=em:=by rintro rfl;simp at e1
   simp -dsimp [go_sem,hN,keyOk,← hI,e1,e2]
theorem c_ref05_Valid (k n:Int) (s:qag):APure Tryz.prog 86 [.agg [I k,I n,S s]] (Bo (valOk k n s)):=by
 refine qad Tryz.func86 rfl (by kernel_rfl) (by simp [Tryz.ntmps86]) rfl ?_
 intro E h hN hh hu hb
 rw [Tryz.ntmps86] at hN
 refine qab _ _ _ ?_
 simp -dsimp [go_sem,hN]
 refine cnd ?_ ?_<;>intro h0<;>simp at h0<;>simp -dsimp [go_sem,hN,valOk,h0]
 refine cnd ?_ ?_<;>intro h1<;>simp at h1<;>simp -dsimp [go_sem,hN,valOk,h0,h1]
 refine qai (c_ref05_Plain s) (by simp) ?_
 by_cases h2:k=2<;>simp -dsimp [go_sem,hN,valOk,h0,h1,h2]
theorem c_ref06_ascending (l:List Pr):APure Tryz.prog 87 [.slice (l.map Pr.c)] (Bo (ascP none l)):=by
 refine qad Tryz.func87 rfl (by kernel_rfl) (by simp [Tryz.ntmps87]) rfl ?_
 intro E h hN hh hu hb
 rw [Tryz.ntmps87] at hN
 refine qab _ _ _ ?_
 simp [go_sem] at hb
 simp -dsimp [go_sem,hN]
 refine qah l.length (fun n=>ascP ((qbk l n).map Pr.key) (l.drop n)=ascP none l) (fun n=>⟨[(0,.slice (l.map Pr.c)),(3,I n)],h⟩) (by simp [qbk]) (Wk.mk (by simp [hh]) (by simp [go_sem]) (by simp [hu,qaa hu,go_sem]) (by simp [go_sem])) ?_
 intro n hn hI
 have hw:=qax hn hb.1
 simp -dsimp [go_sem,hN]
 refine cnd ?_ ?_<;>intro hc<;>simp at hc
 ·
  rw [qaj hc,ascP] at hI
  simp -dsimp [go_sem,hN,hc]
  refine qan 22 mixed (by kernel_rfl) (by kernel_rfl) ?_
  simp -dsimp [go_sem,hN,hc]
  refine qcr (c_ref04_Valid _) (by simp) ?_
  cases n with
  | zero =>
   simp -dsimp [go_sem,hN]
   refine cnd ?_ ?_<;>intro hg<;>try simp at hg
   ·
    simp -dsimp [go_sem,hN]
    grind [qbk,after]
   ·
    simp -dsimp [go_sem,hN,hw]
    exact ⟨hc,by simpa [hg,qbk,hc,after] using hI,(Wk.mk (by simp [hh]) (by simp [go_sem]) (by simp [hu,qaa hu,go_sem]) (by simp [go_sem]))⟩
  | succ m =>
   have hm:m<l.length:=by omega
   have hw2:=wrapN (Nat.le_of_lt hm) hb.1
   simp at hw
   simp -dsimp [go_sem,hN,hw2,hm,hc]
   refine ⟨fun hk=>⟨hk,by omega⟩,cnd (fun hg=>?_) (fun hg=>?_)⟩<;>rw [sLe_not] at hg<;>simp at hg
   ·
    simp -dsimp [go_sem,hN]
    rw [← hI]
    rcases hg with h1 | h1<;>simp [qbk,hm,after,h1]
   ·
    simp -dsimp [go_sem,hN,hw]
    simp [hg,qbk,hm,after] at hI
    exact ⟨hc,by simpa [qbk,hc] using hI,(Wk.mk (by simp [hh]) (by simp [go_sem]) (by simp [hu,qaa hu,go_sem]) (by simp [go_sem]))⟩
 ·
  rw [List.drop_eq_nil_of_le (by omega),ascP] at hI
  simp -dsimp [go_sem,hN,← hI]
theorem c_ref06_ValidWrites (l:List Pr):APure Tryz.prog 66 [.slice (l.map Pr.c)] (Bo (qbn l)):=by
 refine qad Tryz.func66 rfl (by kernel_rfl) (by simp [Tryz.ntmps66]) rfl ?_
 intro E h hN hh hu hb
 rw [Tryz.ntmps66] at hN
 refine qab _ _ _ ?_
 simp [go_sem] at hb
 simp -dsimp [go_sem,hN]
 refine qah l.length (fun n=>valsOk (l.drop n)=valsOk l) (fun n=>⟨[(0,.slice (l.map Pr.c)),(3,I n)],h⟩) (by simp) (Wk.mk (by simp [hh]) (by simp [go_sem]) (by simp [hu,qaa hu,go_sem]) (by simp [go_sem])) ?_
 intro n hn hI
 have hw:=qax hn hb.1
 simp -dsimp [go_sem,hN]
 refine cnd ?_ ?_<;>intro hc<;>simp at hc
 ·
  rw [qaj hc,valsOk,allL] at hI
  simp -dsimp [go_sem,hN,hc]
  refine qac (c_ref05_Valid _ _ _) ?_
  simp -dsimp [go_sem,hN]
  refine cnd ?_ ?_<;>intro hg<;>simp at hg
  ·
   simp -dsimp [go_sem,hN]
   simp [qbn,← hI,hg]
  ·
   simp -dsimp [go_sem,hN,hw]
   exact ⟨hc,by simpa [hg,valsOk] using hI,(Wk.mk (by simp [hh]) (by simp [go_sem]) (by simp [hu,qaa hu,go_sem]) (by simp [go_sem]))⟩
 ·
  rw [List.drop_eq_nil_of_le (by omega),valsOk,allL] at hI
  simp -dsimp [go_sem,hN]
  refine qac (c_ref06_ascending l) ?_
  simp -dsimp [go_sem,hN,qbn,← hI]
theorem c_ref06_Valid (l:List Pr):APure Tryz.prog 65 [.slice (l.map Pr.c)] (Bo (qay l)):=by
 rw [← stateOkR_eq]
 refine qad Tryz.func65 rfl (by kernel_rfl) (by simp [Tryz.ntmps65]) rfl ?_
 intro E h hN hh hu hb
 rw [Tryz.ntmps65] at hN
 refine qab _ _ _ ?_
 simp [go_sem] at hb
 simp -dsimp [go_sem,hN]
 refine qah l.length (fun n=>anyL (fun p=>decide (p.v.k=0)) (l.drop n)=anyL (fun p=>decide (p.v.k=0)) l) (fun n=>⟨[(0,.slice (l.map Pr.c)),(3,I n)],h⟩) (by simp) (Wk.mk (by simp [hh]) (by simp [go_sem]) (by simp [hu,qaa hu,go_sem]) (by simp [go_sem])) ?_
 intro n hn hI
 have hw:=qax hn hb.1
 simp -dsimp [go_sem,hN]
 refine cnd ?_ ?_<;>intro hc<;>simp at hc
 ·
  rw [qaj hc,anyL] at hI
  simp -dsimp [go_sem,hN,hc]
  refine cnd ?_ ?_<;>intro hg<;>simp at hg
  ·
   simp -dsimp [go_sem,hN]
   simp [stateOkR,← hI,hg]
  ·
   simp -dsimp [go_sem,hN,hw]
   exact ⟨hc,by simpa [hg] using hI,(Wk.mk (by simp [hh]) (by simp [go_sem]) (by simp [hu,qaa hu,go_sem]) (by simp [go_sem]))⟩
 ·
  rw [List.drop_eq_nil_of_le (by omega),anyL] at hI
  simp -dsimp [go_sem,hN]
  refine qac (c_ref06_ValidWrites l) ?_
  simp -dsimp [go_sem,hN,stateOkR,← hI]
theorem c_ref06_Has (l:List Pr) (k:qag):APure Tryz.prog 67 [.slice (l.map Pr.c),S k] (Bo (hasP l k)):=by
 refine qad Tryz.func67 rfl (by kernel_rfl) (by simp [Tryz.ntmps67]) rfl ?_
 intro E h hN hh hu hb
 rw [Tryz.ntmps67] at hN
 refine qab _ _ _ ?_
 simp [go_sem] at hb
 simp -dsimp [go_sem,hN]
 refine qah l.length (fun n=>hasP (l.drop n) k=hasP l k) (fun n=>⟨[(0,.slice (l.map Pr.c)),(1,S k),(5,I n)],h⟩) (by simp) (Wk.mk (by simp [hh]) (by simp [go_sem]) (by simp [hu,qaa hu,go_sem]) (by simp [go_sem])) ?_
 intro n hn hI
 have hw:=qax hn hb.1.1
 simp -dsimp [go_sem,hN]
 refine cnd ?_ ?_<;>intro hc<;>simp at hc
 ·
  rw [qaj hc,hasP,anyL] at hI
  simp -dsimp [go_sem,hN,hc]
  refine cnd ?_ ?_<;>intro hg<;>simp at hg
  ·
   simp -dsimp [go_sem,hN]
   simp [← hI,hg]
  ·
   simp -dsimp [go_sem,hN,hw]
   exact ⟨hc,by simpa [hg,hasP] using hI,(Wk.mk (by simp [hh]) (by simp [go_sem]) (by simp [hu,qaa hu,go_sem]) (by simp [go_sem]))⟩
 ·
  rw [List.drop_eq_nil_of_le (by omega),hasP,anyL] at hI
  simp -dsimp [go_sem,hN,← hI]
theorem c_ref06_with (l:List Pr) (p:Pr) (hB:l.length<68719476736):APure Tryz.prog 68 [.slice (l.map Pr.c),.agg p.c] (.slice ((withP l p).map Pr.c)):=by
 refine qad Tryz.func68 rfl (by kernel_rfl) (by simp [Tryz.ntmps68]) rfl ?_
 intro E h hN hh hu hb
 rw [Tryz.ntmps68] at hN
 refine qab _ _ _ ?_
 simp [go_sem] at hb
 simp -dsimp [go_sem,hN]
 refine qah l.length (fun n=>n+posP p.key (l.drop n)=posP p.key l) (fun n=>⟨[(0,.slice (l.map Pr.c)),(3,P0 h.length),(5,I n)],h++[.cells p.c]⟩) (by simp) (Wk.mk (by simp [hh]) (by simp [go_sem]) (by simp [hu,qaa hu,go_sem]) (by simp [go_sem])) ?_
 intro n hn hI
 have hw:=qax hn (Nat.le_of_lt hB)
 simp -dsimp [go_sem,hN]
 refine qan 12 mixed (by kernel_rfl) (by kernel_rfl) ?_
 by_cases hc:n<l.length
 ·
  rw [qaj hc,posP] at hI
  simp -dsimp [go_sem,hN,hc]
  refine cnd ?_ ?_<;>intro hg<;>try simp at hg
  ·
   simp -dsimp [go_sem,hN,hw]
   rw [if_pos hg] at hI
   exact ⟨hc,by omega,(Wk.mk (by simp [hh]) (by simp [go_sem]) (by simp [hu,qaa hu,go_sem]) (by simp [go_sem]))⟩
  ·
   rw [if_neg (by simp [hg])] at hI
   simp -dsimp [go_sem,hN]
   refine ⟨by omega,by omega,by omega,by omega,by omega,?_⟩
   rw [if_pos (by omega)]
   simp [withP,← hI,Pr.c,List.map_take,List.map_drop]
 ·
  rw [List.drop_eq_nil_of_le (by omega),posP] at hI
  simp -dsimp [go_sem,hN,hc]
  refine ⟨by omega,by omega,by omega,by omega,by omega,?_⟩
  rw [if_pos (by omega)]
  simp [withP,← hI,Pr.c,List.map_take,List.map_drop]
theorem c_ref06_Apply (l w:List Pr) (hB:l.length+w.length<68719476736):APure Tryz.prog 36 [.slice (l.map Pr.c),.slice (w.map Pr.c)]
  (if qay l&&qbn w then .tuple [.slice ((qc9 l w).map Pr.c),I 0] else .tuple [.slice [],I 1]):=by
 refine qad Tryz.func36 rfl (by kernel_rfl) (by simp [Tryz.ntmps36]) (by split<;>rfl) ?_
 intro E h hN hh hu hb
 rw [Tryz.ntmps36] at hN
 refine qab _ _ _ ?_
 simp [go_sem] at hb
 simp -dsimp [go_sem,hN]
 refine qac (c_ref06_Valid l) ?_
 simp -dsimp [go_sem,hN]
 refine qai (c_ref06_ValidWrites w) (by simp) ?_
 simp -dsimp [go_sem,hN]
 refine cnd ?_ ?_<;>intro h0<;>simp at h0
 ·
  simp -dsimp [go_sem,hN]
  grind
 rw [h0.1,h0.2]
 simp -dsimp [go_sem,hN]
 refine qa7 (α:=List Pr) l.length (fun n o=>o++keepP w (l.drop n)=keepP w l∧o.length≤n) (fun n o=>⟨[(0,.slice (l.map Pr.c)),(1,.slice (w.map Pr.c)),(6,.own h.length o.length),(7,I n)],h++[.arr 73 4 (o.map Pr.c)]⟩) [] (by simp) ((nil_wk E _ 6 73 4 rfl).trans (Wk.mk (by simp [hh]) (by simp [go_sem]) (by simp [hu,qaa hu,go_sem]) (by simp [go_sem]))) ?_
 intro n o hn ⟨hI,hol⟩
 have hw:=qax hn hb.1.1
 simp -dsimp [go_sem,hN]
 refine cnd ?_ ?_<;>intro hc<;>simp at hc
 ·
  rw [qaj hc,keepP] at hI
  simp -dsimp [go_sem,hN,hc]
  refine qac (c_ref06_Has w _) ?_
  simp -dsimp [go_sem,hN]
  refine cnd ?_ ?_<;>intro hg<;>simp at hg
  ·
   simp -dsimp [go_sem,hN,hc]
   refine ⟨by omega,?_⟩
   simp -dsimp [go_sem,hN,hw]
   exact ⟨o++[l[n]],⟨by simpa [hg] using hI,by simp;omega⟩,(Wk.mk (by simp [hh]) (by simp [go_sem]) (by simp [hu,qaa hu,go_sem]) (by simp [go_sem]))⟩
  ·
   simp -dsimp [go_sem,hN,hw]
   exact ⟨hc,o,⟨by simpa [hg] using hI,by omega⟩,(Wk.mk (by simp [hh]) (by simp [go_sem]) (by simp [hu,qaa hu,go_sem]) (by simp [go_sem]))⟩
 rw [List.drop_eq_nil_of_le (by omega),keepP,List.append_nil] at hI
 simp -dsimp [go_sem,hN]
 subst hI
 refine qa7 (α:=List Pr) w.length (fun n o=>addP o (w.drop n)=qc9 l w∧o.length≤l.length+n) (fun n o=>⟨[(1,.slice (w.map Pr.c)),(6,.slice (o.map Pr.c)),(8,I n)],h⟩) (keepP w l) (by simp [qc9];omega) ((norm_wk E _).trans (Wk.mk (by simp [hh]) (by simp [go_sem]) (by simp [hu,qaa hu,go_sem]) (by simp [go_sem]))) ?_
 intro n o hn ⟨hI,hol⟩
 have hw:=qax hn hb.2.1
 simp -dsimp [go_sem,hN]
 refine cnd ?_ ?_<;>intro hc<;>simp at hc
 ·
  rw [qaj hc,addP] at hI
  simp -dsimp [go_sem,hN,hc]
  refine cnd ?_ ?_<;>intro hg<;>simp at hg
  ·
   simp -dsimp [go_sem,hN,hc]
   refine qac (c_ref06_with o _ (by omega)) ?_
   simp -dsimp [go_sem,hN,hw]
   exact ⟨hc,withP o w[n],⟨by simpa [hg] using hI,by rw [withP_len];omega⟩,(Wk.mk (by simp [hh]) (by simp [go_sem]) (by simp [hu,qaa hu,go_sem]) (by simp [go_sem]))⟩
  ·
   simp -dsimp [go_sem,hN,hw]
   exact ⟨hc,o,⟨by simpa [hg] using hI,by omega⟩,(Wk.mk (by simp [hh]) (by simp [go_sem]) (by simp [hu,qaa hu,go_sem]) (by simp [go_sem]))⟩
 ·
  rw [List.drop_eq_nil_of_le (by omega),addP] at hI
  simp -dsimp [go_sem,hN,hI]
end Go.Proofs.YtcjolkgjhcdhcaaGreatDoor

set_option maxRecDepth 4000
namespace Go.Proofs.YtcjolkgjhcdhcaaGreatDoor
open Go Go.Abs Go.Cw
theorem c_lexer_letter (c:Int):APure Tryz.prog 228 [.val (.int .i32 c)] (Bo (ltr c)):=by
 refine qad Tryz.func228 rfl (by kernel_rfl) (by simp [Tryz.ntmps228]) rfl ?_
 intro E h hN hh hu hb
 rw [Tryz.ntmps228] at hN
 refine qab _ _ _ ?_
 simp -dsimp [go_sem,hN,ltr]
theorem c_lexer_word (s:qag):APure Tryz.prog 229 [S s] (I (wordLen (bl s))):=by
 refine qad Tryz.func229 rfl (by kernel_rfl) (by simp [Tryz.ntmps229]) rfl ?_
 intro E h hN hh hu hb
 rw [Tryz.ntmps229] at hN
 refine qab _ _ _ ?_
 simp [go_sem] at hb
 simp -dsimp [go_sem,hN]
 refine qah s.size (fun n=>n+wordLen ((bl s).drop n)=wordLen (bl s)) (fun n=>⟨[(0,S s),(6,P0 h.length)],h++[.iter s n]⟩) (by simp) (Wk.mk (by simp [hh]) (by simp [go_sem]) (by simp [hu,qaa hu,go_sem]) (by simp [go_sem])) ?_
 intro n hn hI
 have hw:=qax hn hb
 simp -dsimp [go_sem,hN]
 by_cases hc:n<s.size
 ·
  rw [bdrop hc,wordLen] at hI
  simp -dsimp [go_sem,hN,hc]
  refine qac (c_lexer_letter _) ?_
  simp -dsimp [go_sem,hN]
  by_cases h8:(bAt s n).toNat<128
  ·
   simp only [dec_lo hc h8]
   refine ⟨by grind,cnd (fun hg=>?_) (fun hg=>?_)⟩
   ·
    have hg':wordI ((bAt s n).toNat:Int)=false:=by simp [wordI] at hg ⊢;grind
    simp -dsimp [go_sem,hN]
    rw [← hI]
    simp [hg']
   ·
    have hg':wordI ((bAt s n).toNat:Int)=true:=by simp [wordI] at hg ⊢;grind
    simp -dsimp [go_sem,hN,hw]
    exact ⟨hc,by rw [if_pos hg'] at hI;omega,(Wk.mk (by simp [hh]) (by simp [go_sem]) (by simp [hu,qaa hu,go_sem]) (by simp [go_sem]))⟩
  ·
   have h9:=dec_hi hc h8
   have hg':wordI ((bAt s n).toNat:Int)=false:=by simp [wordI,ltr];omega
   have hl:ltr ((Utf8.decode s n).1:Int)=false:=by simp [ltr];omega
   refine ⟨by grind,cnd (fun hg=>?_) (fun hg=>?_)⟩
   ·
    simp -dsimp [go_sem,hN]
    rw [← hI]
    simp [hg']
   ·
    simp [hl] at hg
    omega
 ·
  rw [bend hc,wordLen] at hI
  simp -dsimp [go_sem,hN,hc]
  have:wordLen (bl s)=s.size:=by omega
  simp [this]
theorem c_lexer_IsKeyword (s:qag):APure Tryz.prog 230 [S s] (Bo (kw s)):=by
 refine qad Tryz.func230 rfl (by kernel_rfl) (by simp [Tryz.ntmps230]) rfl ?_
 intro E h hN hh hu hb
 rw [Tryz.ntmps230] at hN
 refine qab _ _ _ ?_
 simp -dsimp [go_sem,hN]
 iterate 25
  refine cnd (fun hg=>?_) (fun hg=>?_)
  ·
   simp at hg
   subst hg
   simp -dsimp [go_sem,hN]
   rfl
  simp -dsimp [go_sem,hN]
  try simp at hg
 simp [kw, *]
theorem c_ast_plain (s:qag):APure Tryz.prog 298 [S s] (Bo (qbf s)):=by
 refine qad Tryz.func298 rfl (by kernel_rfl) (by simp [Tryz.ntmps298]) rfl ?_
 intro E h hN hh hu hb
 rw [Tryz.ntmps298] at hN
 refine qab _ _ _ ?_
 simp [go_sem] at hb
 simp -dsimp [go_sem,hN]
 refine qah s.size (fun n=>allL okB ((bl s).drop n)=allL okB (bl s)) (fun n=>⟨[(0,S s),(3,I n)],h⟩) (by simp) (Wk.mk (by simp [hh]) (by simp [go_sem]) (by simp [hu,qaa hu,go_sem]) (by simp [go_sem])) ?_
 intro n hn hI
 have hw:=qax hn hb
 simp -dsimp [go_sem,hN]
 refine cnd ?_ ?_<;>intro hc<;>simp at hc
 ·
  rw [bdrop hc,allL] at hI
  simp -dsimp [go_sem,hN,hc]
  refine cnd (fun hg=>?_) (fun hg=>?_)
  ·
   simp -dsimp [go_sem,hN]
   simp [qbf,← hI,okB,hg]
  ·
   simp -dsimp [go_sem,hN,hw]
   exact ⟨hc,by simpa [okB,hg] using hI,(Wk.mk (by simp [hh]) (by simp [go_sem]) (by simp [hu,qaa hu,go_sem]) (by simp [go_sem]))⟩
 ·
  rw [bend (by omega),allL] at hI
  simp -dsimp [go_sem,hN,qbf,← hI]
theorem c_ast_Arity (op:Int):APure Tryz.prog 297 [I op] (I (arity op)):=by
 refine qad Tryz.func297 rfl (by kernel_rfl) (by simp [Tryz.ntmps297]) rfl ?_
 intro E h hN hh hu hb
 rw [Tryz.ntmps297] at hN
 refine qab _ _ _ ?_
 simp -dsimp [go_sem,hN]
 refine cnd ?_ ?_<;>intro h0<;>simp at h0<;>simp -dsimp [go_sem,hN,arity,h0]
 refine cnd ?_ ?_<;>intro h1<;>simp at h1<;>simp -dsimp [go_sem,hN,arity,h0,h1]
 refine cnd ?_ ?_<;>intro h2<;>simp at h2<;>simp -dsimp [go_sem,hN,arity]
 · rw [if_neg (by omega),if_neg (by omega),if_pos (by omega)]
 · rw [if_neg (by omega),if_neg (by omega),if_neg (by omega)]
theorem c_lexer_IsName (s:qag):APure Tryz.prog 182 [S s] (Bo (nameOk s)):=by
 refine qad Tryz.func182 rfl (by kernel_rfl) (by simp [Tryz.ntmps182]) rfl ?_
 intro E h hN hh hu hb
 rw [Tryz.ntmps182] at hN
 refine qab _ _ _ ?_
 rcases sz_em s with rfl | h1
 ·
  simp -dsimp [go_sem,hN,nameOk]
  refine tgcall_if .top (by simp) (by simp) ?_
  simp -dsimp [go_sem,hN]
  refine tgcall_if .top (by simp) (by simp) ?_
  simp -dsimp [go_sem,hN]
  refine tgcall_if .top (by simp) (by simp) ?_
  simp -dsimp [go_sem,hN,nameOk]
 ·
  have h1':0<s.size:=by omega
  have he:¬ s=em:=by rintro rfl;simp at h1
  simp -dsimp [go_sem,hN,h1',he]
  refine qai (c_lexer_letter _) (by simp) ?_
  simp -dsimp [go_sem,hN]
  refine qai (c_lexer_word s) (by simp) ?_
  simp -dsimp [go_sem,hN]
  refine qai (c_lexer_IsKeyword s) (by simp) ?_
  simp -dsimp [go_sem,hN,nameOk,he]
theorem c_ast_node (op n:Int) (s:qag) (args:List Ex) (d:Nat):APure Tryz.prog 282 [.agg [I op,I n,S s,.slice (args.map Ex.c)],I d] (I (qc4 op n s args.length d)):=by
 refine qad Tryz.func282 rfl (by kernel_rfl) (by simp [Tryz.ntmps282]) rfl ?_
 intro E h hN hh hu hb
 rw [Tryz.ntmps282] at hN
 refine qab _ _ _ ?_
 simp -dsimp [go_sem,hN]
 refine qac (c_ast_Arity _) ?_
 simp -dsimp [go_sem,hN]
 repeat refine ⟨by grind,?_⟩
 refine cnd (fun h0=>?_) (fun h0=>?_)
 ·
  simp -dsimp [go_sem,hN]
  simp at h0
  rw [qc4,if_pos (by grind)]
 have h0':¬ (arity op<0∨(op≠1∧n≠0)∨(op≠2∧op≠3∧s≠em)):=by simp at h0;grind
 simp -dsimp [go_sem,hN]
 refine qai (c_lexer_IsName s) (by simp) ?_
 simp -dsimp [go_sem,hN]
 refine cnd (fun h1=>?_) (fun h1=>?_)
 ·
  simp -dsimp [go_sem,hN]
  simp at h1
  rw [qc4,if_neg h0',if_pos (by grind)]
 have h1':¬ (op=3∧nameOk s=false):=by simp at h1;grind
 simp -dsimp [go_sem,hN]
 repeat refine ⟨by grind,?_⟩
 refine qai (c_ast_plain s) (by simp) ?_
 simp -dsimp [go_sem,hN]
 repeat refine ⟨by grind,?_⟩
 refine cnd (fun h2=>?_) (fun h2=>?_)
 ·
  simp -dsimp [go_sem,hN]
  simp at h2
  rw [qc4,if_neg h0',if_neg h1',if_pos (by grind)]
 have h2':¬ ((op=1∧n<0)∨(op=2∧qbf s=false)∨(args.length:Int)≠arity op):=by simp at h2;grind
 simp -dsimp [go_sem,hN]
 refine cnd ?_ ?_<;>intro h3<;>simp at h3
 ·
  simp -dsimp [go_sem,hN]
  rw [qc4,if_neg h0',if_neg h1',if_neg h2',if_pos (by omega)]
 ·
  simp -dsimp [go_sem,hN]
  rw [qc4,if_neg h0',if_neg h1',if_neg h2',if_neg (by omega)]
theorem c_ast_check (e:Ex) (d:Nat):APure Tryz.prog 261 [.agg [I e.op,I e.n,S e.s,.slice (e.args.map Ex.c)],I d] (I (chkE e d)):=by
 refine qad Tryz.func261 rfl (by kernel_rfl) (by simp [Tryz.ntmps261]) rfl ?_
 intro E h hN hh hu hb
 rw [Tryz.ntmps261] at hN
 refine qab _ _ _ ?_
 simp [go_sem] at hb
 simp -dsimp [go_sem,hN]
 refine qac (c_ast_node _ _ _ _ _) ?_
 simp -dsimp [go_sem,hN]
 refine cnd ?_ ?_<;>intro h0<;>simp at h0
 ·
  simp -dsimp [go_sem,hN]
  rw [chkE_eq,if_neg h0]
 have hd:d≤12:=by
  unfold qc4 at h0
  grind
 simp -dsimp [go_sem,hN]
 refine qah e.args.length (fun n=>chkL (e.args.drop n) (d+1)=chkL e.args (d+1)) (fun n=>⟨[(1,I d),(16,.slice (e.args.map Ex.c)),(17,I e.args.length),(18,I n)],h⟩) (by simp) (Wk.mk (by simp [hh]) (by simp [go_sem]) (by simp [hu,qaa hu,go_sem]) (by simp [go_sem])) ?_
 intro n hn hI
 have hw:=qax hn hb.2.1
 have hw2:IntKind.i64.wrap ((d:Int)+1)=((d+1:Nat):Int):=by rw [wrapI (by omega) (by omega)];rfl
 simp -dsimp [go_sem,hN]
 refine cnd ?_ ?_<;>intro hc<;>simp at hc
 ·
  rw [qaj hc,chkL] at hI
  simp -dsimp [go_sem,hN,hc,hw2]
  have hlt:SizeOf.sizeOf e.args[n]<SizeOf.sizeOf e:=Ex.arg_lt (List.getElem_mem hc)
  refine qac (c_ast_check e.args[n] (d+1)) ?_
  simp -dsimp [go_sem,hN]
  refine cnd ?_ ?_<;>intro hg<;>simp at hg
  ·
   simp -dsimp [go_sem,hN]
   rw [chkE_eq e,if_pos h0,← hI,if_neg hg]
  ·
   simp -dsimp [go_sem,hN,hw]
   exact ⟨hc,by simpa [hg] using hI,(Wk.mk (by simp [hh]) (by simp [go_sem]) (by simp [hu,qaa hu,go_sem]) (by simp [go_sem]))⟩
 ·
  rw [List.drop_eq_nil_of_le (by omega),chkL] at hI
  simp -dsimp [go_sem,hN]
  rw [chkE_eq e,if_pos h0,← hI]
termination_by SizeOf.sizeOf e
theorem c_ast_ValidExpr (e:Ex):APure Tryz.prog 236 [.agg [I e.op,I e.n,S e.s,.slice (e.args.map Ex.c)]] (I (chkE e 1)):=by
 refine qad Tryz.func236 rfl (by kernel_rfl) (by simp [Tryz.ntmps236]) rfl ?_
 intro E h hN hh hu hb
 rw [Tryz.ntmps236] at hN
 refine qab _ _ _ ?_
 simp -dsimp [go_sem,hN]
 refine qac (c_ast_check e 1) ?_
 simp -dsimp [go_sem,hN]
end Go.Proofs.YtcjolkgjhcdhcaaGreatDoor

set_option maxRecDepth 4000
namespace Go.Proofs.YtcjolkgjhcdhcaaGreatDoor
open Go Go.Abs Go.Cw
theorem c_ast_usesOf (op:Int):APure Tryz.prog 234 [I op] (.tuple [.agg (qb5 op).1.c,Bo (qb5 op).2]):=by
 refine qad Tryz.func234 rfl (by kernel_rfl) (by simp [Tryz.ntmps234]) rfl ?_
 intro E h hN hh hu hb
 rw [Tryz.ntmps234] at hN
 refine qab _ _ _ ?_
 by_cases h1:op=1
 · subst h1;simp -dsimp [go_sem,hN,qb5]
 by_cases h2:op=2
 · subst h2;simp -dsimp [go_sem,hN,qb5]
 by_cases h3:op=3
 · subst h3;simp -dsimp [go_sem,hN,qb5]
 by_cases h4:op=4
 · subst h4;simp -dsimp [go_sem,hN,qb5]
 by_cases h7:op=7
 · subst h7;simp -dsimp [go_sem,hN,qb5]
 by_cases h5:op=5
 · subst h5;simp -dsimp [go_sem,hN,qb5]
 by_cases h6:op=6
 · subst h6;simp -dsimp [go_sem,hN,qb5]
 by_cases h8:op=8
 · subst h8;simp -dsimp [go_sem,hN,qb5]
 simp -dsimp [go_sem,hN,qb5,h1,h2,h3,h4,h5,h6,h7,h8]
theorem c_ast_absent (e:Ex):APure Tryz.prog 260 [.agg e.x] (Bo (absE e)):=by
 refine qad Tryz.func260 rfl (by kernel_rfl) (by simp [Tryz.ntmps260]) rfl ?_
 intro E h hN hh hu hb
 rw [Tryz.ntmps260] at hN
 refine qab _ _ _ ?_
 simp -dsimp [go_sem,hN,absE]
 try grind
theorem c_ast_shape (s:St) (u:Uses):APure Tryz.prog 235 [.agg s.x,.agg u.c] (Bo (shapeOk s u)):=by
 refine qad Tryz.func235 rfl (by kernel_rfl) (by simp [Tryz.ntmps235]) rfl ?_
 intro E h hN hh hu hb
 rw [Tryz.ntmps235] at hN
 refine qab _ _ _ ?_
 simp -dsimp [go_sem,hN]
 repeat refine ⟨by grind,?_⟩
 refine qai (c_ast_absent s.a) (by simp) ?_
 simp -dsimp [go_sem,hN]
 repeat refine ⟨by grind,?_⟩
 refine qai (c_ast_absent s.b) (by simp) ?_
 simp -dsimp [go_sem,hN]
 repeat refine ⟨by grind,?_⟩
 refine cnd (fun h0=>?_) (fun h0=>?_)
 ·
  simp -dsimp [go_sem,hN]
  simp [shapeOk] at h0 ⊢
  grind
 ·
  simp -dsimp [go_sem,hN]
  refine cnd ?_ ?_<;>intro h1<;>simp at h1<;>simp -dsimp [go_sem,hN,h1]
  ·
   simp [shapeOk,h1] at h0 ⊢
   grind
  ·
   refine cnd ?_ ?_<;>intro h2<;>simp at h2<;>simp -dsimp [go_sem,hN,h2]
   ·
    simp [shapeOk,h1,h2] at h0 ⊢
    grind
   ·
    simp [shapeOk,h1,h2] at h0 ⊢
    grind
end Go.Proofs.YtcjolkgjhcdhcaaGreatDoor

set_option maxRecDepth 4000
namespace Go.Proofs.YtcjolkgjhcdhcaaGreatDoor
open Go Go.Abs Go.Cw
theorem c_ast_statement (s:St) (d:Int):APure Tryz.prog 186 [.agg s.x,I d] (I (qce s d)):=by
 refine qad Tryz.func186 rfl (by kernel_rfl) (by simp [Tryz.ntmps186]) rfl ?_
 intro E h hN hh hu hb
 rw [Tryz.ntmps186] at hN
 refine qab _ _ _ ?_
 simp -dsimp [go_sem,hN]
 refine qac (c_ast_usesOf _) ?_
 simp -dsimp [go_sem,hN]
 refine qai (c_ast_shape s (qb5 s.op).1) (by simp) ?_
 simp -dsimp [go_sem,hN]
 refine cnd (fun h0=>?_) (fun h0=>?_)
 ·
  simp -dsimp [go_sem,hN]
  simp at h0
  rw [qce,if_pos (by grind)]
 have h0':¬ ((qb5 s.op).2=false∨shapeOk s (qb5 s.op).1=false):=by simp at h0;grind
 simp -dsimp [go_sem,hN]
 refine qai (c_lexer_IsName _) (by simp) ?_
 simp -dsimp [go_sem,hN]
 refine cnd (fun h1=>?_) (fun h1=>?_)
 ·
  simp -dsimp [go_sem,hN]
  simp at h1
  rw [qce,if_neg h0',if_pos (by grind)]
 have h1':¬ ((qb5 s.op).1.name=true∧nameOk s.name=false):=by simp at h1;grind
 simp -dsimp [go_sem,hN]
 have tail:¬ ((qb5 s.op).1.a=true∧chkE s.a 1≠0)→¬ ((qb5 s.op).1.b=true∧chkE s.b 1≠0)→∀ x:Int,x=(if 12<d then 2 else 0)→x=qce s d:=by
  intro g1 g2 x hx
  rw [qce,if_neg h0',if_neg h1',if_neg g1,if_neg g2,hx]
 have tailb:¬ ((qb5 s.op).1.a=true∧chkE s.a 1≠0)→((qb5 s.op).1.b=true∧chkE s.b 1≠0)→chkE s.b 1=qce s d:=by
  intro g1 g2
  rw [qce,if_neg h0',if_neg h1',if_neg g1,if_pos g2]
 refine cnd (fun h2=>?_) (fun h2=>?_)
 ·
  simp -dsimp [go_sem,hN]
  refine qac (c_ast_ValidExpr s.a) ?_
  simp -dsimp [go_sem,hN]
  refine cnd ?_ ?_<;>intro h3<;>simp at h3
  ·
   simp -dsimp [go_sem,hN]
   rw [qce,if_neg h0',if_neg h1',if_pos ⟨h2,h3⟩]
  simp -dsimp [go_sem,hN]
  refine cnd (fun h4=>?_) (fun h4=>?_)
  ·
   simp -dsimp [go_sem,hN]
   refine qac (c_ast_ValidExpr s.b) ?_
   simp -dsimp [go_sem,hN]
   refine cnd ?_ ?_<;>intro h5<;>simp at h5
   ·
    simp -dsimp [go_sem,hN]
    exact tailb (by grind) ⟨h4,h5⟩
   simp -dsimp [go_sem,hN]
   refine cnd ?_ ?_<;>intro h6<;>simp at h6<;>simp -dsimp [go_sem,hN]<;>refine tail (by grind) (by grind) _ (by rw [eq_comm];first | exact if_pos h6 | exact if_neg (by omega))
  ·
   simp -dsimp [go_sem,hN]
   refine cnd ?_ ?_<;>intro h6<;>simp at h6<;>simp -dsimp [go_sem,hN]<;>refine tail (by grind) (by grind) _ (by rw [eq_comm];first | exact if_pos h6 | exact if_neg (by omega))
 ·
  simp -dsimp [go_sem,hN]
  refine cnd (fun h4=>?_) (fun h4=>?_)
  ·
   simp -dsimp [go_sem,hN]
   refine qac (c_ast_ValidExpr s.b) ?_
   simp -dsimp [go_sem,hN]
   refine cnd ?_ ?_<;>intro h5<;>simp at h5
   ·
    simp -dsimp [go_sem,hN]
    exact tailb (by grind) ⟨h4,h5⟩
   simp -dsimp [go_sem,hN]
   refine cnd ?_ ?_<;>intro h6<;>simp at h6<;>simp -dsimp [go_sem,hN]<;>refine tail (by grind) (by grind) _ (by rw [eq_comm];first | exact if_pos h6 | exact if_neg (by omega))
  ·
   simp -dsimp [go_sem,hN]
   refine cnd ?_ ?_<;>intro h6<;>simp at h6<;>simp -dsimp [go_sem,hN]<;>refine tail (by grind) (by grind) _ (by rw [eq_comm];first | exact if_pos h6 | exact if_neg (by omega))
theorem c_ast_params1 (x:Param) (h:qae) (i:Nat) (p:Param) (hi:h[i]?=some (.cells p.c)):ACalls Tryz.prog 232 [.agg x.c,.ptr i 0] h fun r h'=>r=.ret (Bo (decide (x.name=p.name)))∧h'=h:=by
 refine qaf Tryz.func232 rfl (by kernel_rfl) (by simp [Tryz.ntmps232]) ?_
 intro E hN hh hu hb hb' hua
 rw [Tryz.ntmps232] at hN
 refine qab _ _ _ ?_
 have hi':i<h.length:=(List.getElem?_eq_some_iff.1 hi).1
 have a1:∀ l,(h++l)[i]?=some (.cells p.c):=fun l=>by rw [List.getElem?_append_left hi'];exact hi
 simp -dsimp [go_sem,hN,a1,hu]
 exact ⟨_,.refl _,h,by simp [go_sem],by simp [go_sem],by simp,by simp [hu,go_sem],rfl,rfl⟩
theorem c_IndexFunc_Param (l:List Param) (f:FuncId) (caps:List AV) (q:Param→Bool) (h:qae) (hcn:qa6 h caps=caps) (hp:∀ x:Param,ACalls Tryz.prog f ([.agg x.c]++caps) h fun r h'=>r=.ret (Bo (q x))∧h'=h) :
  ACalls Tryz.prog 258 [.slice (l.map Param.c),.fn (.func f) [] caps] h fun r h'=>r=.ret (I (idxOf q l))∧h'=h:=by
 refine qaf Tryz.func258 rfl (by kernel_rfl) (by simp [Tryz.ntmps258]) ?_
 intro E hN hh hu hb hb' hua
 rw [Tryz.ntmps258] at hN
 refine qab _ _ _ ?_
 simp [go_sem] at hb
 simp -dsimp [go_sem,hN]
 refine qah l.length (fun n=>qbj q n (l.drop n)=idxOf q l) (fun n=>⟨[(0,.slice (l.map Param.c)),(1,.fn (.func f) [] caps),(7,I l.length),(8,I n)],h⟩) (by simp [idxOf]) (Wk.mk (by simp [hh]) (by simp) (by simp [hu]) (by simp [go_sem];simpa [go_sem] using hua)) ?_
 intro n hn hI
 have hw:=qax hn hb.1
 simp -dsimp [go_sem,hN]
 refine cnd ?_ ?_<;>intro hc<;>simp at hc
 ·
  rw [qaj hc,qbj] at hI
  simp -dsimp [go_sem,hN,hc,hcn]
  refine qap (hp l[n]) ?_
  rintro r h' ⟨rfl,rfl⟩
  simp -dsimp [go_sem,hN]
  refine cnd ?_ ?_<;>intro hg<;>try simp at hg
  ·
   simp -dsimp [go_sem,hN]
   rw [if_pos hg] at hI
   rw [hI]
   exact ⟨_,.refl _,h',by simp [go_sem],by simp [go_sem],by simp,by simp [hu,go_sem],rfl,rfl⟩
  ·
   simp -dsimp [go_sem,hN,hw]
   exact ⟨hc,by simpa [hg] using hI,Wk.mk (by simp [hh]) (by simp) (by simp [hu]) (by simp [go_sem];simpa [go_sem] using hua)⟩
 ·
  rw [List.drop_eq_nil_of_le (by omega),qbj] at hI
  simp -dsimp [go_sem,hN,← hI]
  exact ⟨_,.refl _,h,by simp [go_sem],by simp [go_sem],by simp,by simp [hu,go_sem],rfl,rfl⟩
theorem c_ContainsFunc_Param (l:List Param) (f:FuncId) (caps:List AV) (q:Param→Bool) (h:qae) (hcn:qa6 h caps=caps) (hp:∀ x:Param,ACalls Tryz.prog f ([.agg x.c]++caps) h fun r h'=>r=.ret (Bo (q x))∧h'=h) :
  ACalls Tryz.prog 231 [.slice (l.map Param.c),.fn (.func f) [] caps] h fun r h'=>r=.ret (Bo (anyL q l))∧h'=h:=by
 refine qaf Tryz.func231 rfl (by kernel_rfl) (by simp [Tryz.ntmps231]) ?_
 intro E hN hh hu hb hb' hua
 rw [Tryz.ntmps231] at hN
 refine qab _ _ _ ?_
 simp -dsimp [go_sem,hN]
 refine qap (c_IndexFunc_Param l f caps q h hcn hp) ?_
 rintro r h' ⟨rfl,rfl⟩
 simp -dsimp [go_sem,hN,idxOf_nonneg]
 exact ⟨_,.refl _,h',by simp [go_sem],by simp [go_sem],by simp,by simp [hu,go_sem],rfl,rfl⟩
theorem c_ast_params (l:List Param):APure Tryz.prog 183 [.slice (l.map Param.c)] (I (paramsE l)):=by
 refine qad Tryz.func183 rfl (by kernel_rfl) (by simp [Tryz.ntmps183]) rfl ?_
 intro E h hN hh hu hb
 rw [Tryz.ntmps183] at hN
 refine qab _ _ _ ?_
 unfold paramsE
 simp [go_sem] at hb
 simp -dsimp [go_sem,hN]
 refine cnd ?_ ?_<;>intro h0<;>simp at h0
 ·
  simp -dsimp [go_sem,hN]
  omega
 simp -dsimp [go_sem,hN]
 rw [if_neg (by omega)]
 refine qah l.length (fun n=>paramsErr (l.take n) (l.drop n)=paramsErr [] l) (fun n=>⟨[(0,.slice (l.map Param.c)),(8,.slice (l.map Param.c)),(9,I l.length),(10,I n)],h⟩) (by simp) (Wk.mk (by simp [hh]) (by simp [go_sem]) (by simp [hu,qaa hu,go_sem]) (by simp [go_sem])) ?_
 intro n hn hI
 have hw:=qax hn hb.1
 simp -dsimp [go_sem,hN]
 refine cnd ?_ ?_<;>intro hc<;>simp at hc
 ·
  rw [qaj hc,paramsErr] at hI
  simp -dsimp [go_sem,hN,hc]
  refine qac (c_lexer_IsName _) ?_
  simp -dsimp [go_sem,hN]
  refine cnd ?_ ?_<;>intro h1<;>simp at h1
  ·
   simp -dsimp [go_sem,hN]
   simpa [h1] using hI
  simp -dsimp [go_sem,hN]
  refine cnd ?_ ?_<;>intro h2<;>simp at h2
  ·
   simp -dsimp [go_sem,hN]
   simpa [h1,h2] using hI
  have h2':¬ (l[n].ty<1∨3<l[n].ty):=by omega
  simp -dsimp [go_sem,hN,hn]
  have ecl:(List.map Param.c l).take n=(l.take n).map Param.c:=by simp
  rw [ecl]
  refine qap (c_ContainsFunc_Param (l.take n) _ _ (fun x=>decide (x.name=l[n].name)) _ (by simp [qa6,AV.norm]) (fun x=>c_ast_params1 x _ _ l[n] (by simp [Param.c]))) ?_
  rintro r h' ⟨rfl,rfl⟩
  simp -dsimp [go_sem,hN]
  refine cnd ?_ ?_<;>intro h3<;>try simp at h3
  ·
   simp -dsimp [go_sem,hN]
   simpa [h1,h2',h3] using hI
  ·
   simp -dsimp [go_sem,hN,hw]
   refine ⟨hc,?_,(Wk.mk (by simp [hh]) (by simp [go_sem]) (by simp [hu,qaa hu,go_sem]) (by simp [go_sem]))⟩
   rw [List.take_succ_eq_append_getElem hc]
   simpa [h1,h2',h3] using hI
 ·
  rw [List.drop_eq_nil_of_le (by omega),paramsErr] at hI
  simp -dsimp [go_sem,hN,← hI]
end Go.Proofs.YtcjolkgjhcdhcaaGreatDoor
