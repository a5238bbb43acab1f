/- Part 32 of a proof: W2, W4, W5, W6, W7 -/
import Derived.Test.YtcjolkgjhcdhcaaGreatDoorR20
import Derived.Test.YtcjolkgjhcdhcaaGreatDoorR31
set_option linter.all false

set_option maxRecDepth 4000
namespace Go.Proofs.YtcjolkgjhcdhcaaGreatDoor
open Go Go.Abs Go.Cw
theorem c_ref05_Plain (s:qac):APure Tryz.prog 110 [S s] (Bo (qa7 s)):=by
 refine qaj Tryz.func110 Tryz.ntmps110 rfl (by kernel_rfl) rfl rfl fun E h hN hh hu hb=>?_;simp [go_sem] at hb;simp -dsimp [go_sem,hN];refine cnd ?_ ?_<;>intro h0<;>simp at h0
 ·
  simp -dsimp [go_sem,hN];simp [qa7,Int.not_le.2 h0]
 simp -dsimp [go_sem,hN];refine qaf s.size (fun n=>allL okB ((bl s).drop n)=allL okB (bl s)) (fun n=>⟨[(0,S s),(3,I n)],h⟩) (by simp) wkA ?_;intro n hn hI;have hw:=qaq hn hb;simp -dsimp [go_sem,hN];refine cnd ?_ ?_<;>intro hc<;>simp at hc
 ·
  rw [bdrop hc,allL] at hI;simp -dsimp [go_sem,hN,hc];refine cnd (fun hg=>?_) (fun hg=>?_)
  ·
   simp -dsimp [go_sem,hN];simp [qa7,← hI,okB,hg]
  ·
   simp -dsimp [go_sem,hN,hw];exact ⟨hc,by simpa [okB,hg] using hI,wkA⟩
 ·
  rw [bend (by omega),allL] at hI;simp -dsimp [go_sem,hN,qa7,← hI,h0]
theorem qej (s:qac):APure Tryz.prog 104 [S s] (Bo (keyOk s)):=by
 refine qaj Tryz.func104 Tryz.ntmps104 rfl (by kernel_rfl) rfl rfl fun E h hN hh hu hb=>?_;simp [go_sem] at hb;simp -dsimp [go_sem,hN];refine qaf s.size (fun n=>allL keyB ((bl s).drop n)=allL keyB (bl s)) (fun n=>⟨[(0,S s),(3,I n)],h⟩) (by simp) wkA ?_;intro n hn hI;have hw:=qaq hn hb;simp -dsimp [go_sem,hN];refine cnd ?_ ?_<;>intro hc<;>simp at hc
 ·
  rw [bdrop hc,allL] at hI;simp -dsimp [go_sem,hN,hc];refine ⟨by omega,cnd (fun hg=>?_) (fun hg=>?_)⟩
  ·
   simp -dsimp [go_sem,hN];have:keyB (bAt s n)=false:=by
    simp [keyB] at hg ⊢;omega
   simp [keyOk,← hI,this]
  ·
   simp -dsimp [go_sem,hN,hw];have:keyB (bAt s n)=true:=by
    simp [keyB] at hg ⊢;omega
   exact ⟨hc,by simpa [this] using hI,wkA⟩
 ·
  rw [bend (by omega),allL] at hI;have e1:s=em∨1≤(s.size:Int):=sz_em s;rcases e1 with rfl | e1
  · simp -dsimp [go_sem,hN,keyOk]
  ·
   have e2:¬ s=em:=by rintro rfl;simp at e1
   simp -dsimp [go_sem,hN,keyOk,← hI,e1,e2]
theorem c_ref05_Valid (k n:Int) (s:qac):APure Tryz.prog 86 [.agg [I k,I n,S s]] (Bo (valOk k n s)):=by
 refine qaj Tryz.func86 Tryz.ntmps86 rfl (by kernel_rfl) rfl rfl fun E h hN hh hu hb=>?_;simp -dsimp [go_sem,hN];refine cnd ?_ ?_<;>intro h0<;>simp at h0<;>simp -dsimp [go_sem,hN,valOk,h0];refine cnd ?_ ?_<;>intro h1<;>simp at h1<;>simp -dsimp [go_sem,hN,valOk,h0,h1];refine qae (c_ref05_Plain s) (by simp) ?_;by_cases h2:k=2<;>simp -dsimp [go_sem,hN,valOk,h0,h1,h2]
theorem c_ref06_ascending (l:List Pr):APure Tryz.prog 87 [.slice (l.map Pr.c)] (Bo (ascP none l)):=by
 refine qaj Tryz.func87 Tryz.ntmps87 rfl (by kernel_rfl) rfl rfl fun E h hN hh hu hb=>?_;simp [go_sem] at hb;simp -dsimp [go_sem,hN];refine qaf l.length (fun n=>ascP ((qbh l n).map Pr.key) (l.drop n)=ascP none l) (fun n=>⟨[(0,.slice (l.map Pr.c)),(3,I n)],h⟩) (by simp [qbh]) wkA ?_;intro n hn hI;have hw:=qaq hn hb.1;simp -dsimp [go_sem,hN];refine cnd ?_ ?_<;>intro hc<;>simp at hc
 ·
  rw [qad hc,ascP] at hI;simp -dsimp [go_sem,hN,hc];refine qah 22 mixed (by kernel_rfl) (by kernel_rfl) ?_;simp -dsimp [go_sem,hN,hc];refine qay (qej _) (by simp) ?_;cases n with
  | zero =>
   simp -dsimp [go_sem,hN];refine cnd ?_ ?_<;>intro hg<;>try simp at hg
   ·
    simp -dsimp [go_sem,hN];grind [qbh,after]
   ·
    simp -dsimp [go_sem,hN,hw];exact ⟨hc,by simpa [hg,qbh,hc,after] using hI,wkA⟩
  | succ m =>
   have hm:m<l.length:=by omega
   have hw2:=wrapN (Nat.le_of_lt hm) hb.1;simp at hw;simp -dsimp [go_sem,hN,hw2,hm,hc];refine ⟨fun hk=>⟨hk,by omega⟩,cnd (fun hg=>?_) (fun hg=>?_)⟩<;>rw [sLe_not] at hg<;>simp at hg
   ·
    simp -dsimp [go_sem,hN];rw [← hI];rcases hg with h1 | h1<;>simp [qbh,hm,after,h1]
   ·
    simp -dsimp [go_sem,hN,hw];simp [hg,qbh,hm,after] at hI;exact ⟨hc,by simpa [qbh,hc] using hI,wkA⟩
 ·
  rw [List.drop_eq_nil_of_le (by omega),ascP] at hI;simp -dsimp [go_sem,hN,← hI]
theorem c_ref06_ValidWrites (l:List Pr):APure Tryz.prog 66 [.slice (l.map Pr.c)] (Bo (qcm l)):=by
 refine qaj Tryz.func66 Tryz.ntmps66 rfl (by kernel_rfl) rfl rfl fun E h hN hh hu hb=>?_;simp [go_sem] at hb;simp -dsimp [go_sem,hN];refine qaf l.length (fun n=>valsOk (l.drop n)=valsOk l) (fun n=>⟨[(0,.slice (l.map Pr.c)),(3,I n)],h⟩) (by simp) wkA ?_;intro n hn hI;have hw:=qaq hn hb.1;simp -dsimp [go_sem,hN];refine cnd ?_ ?_<;>intro hc<;>simp at hc
 ·
  rw [qad hc,valsOk,allL] at hI;simp -dsimp [go_sem,hN,hc];refine qaa (c_ref05_Valid _ _ _) ?_;simp -dsimp [go_sem,hN];refine cnd ?_ ?_<;>intro hg<;>simp at hg
  ·
   simp -dsimp [go_sem,hN];simp [qcm,← hI,hg]
  ·
   simp -dsimp [go_sem,hN,hw];exact ⟨hc,by simpa [hg,valsOk] using hI,wkA⟩
 ·
  rw [List.drop_eq_nil_of_le (by omega),valsOk,allL] at hI;simp -dsimp [go_sem,hN];refine qaa (c_ref06_ascending l) ?_;simp -dsimp [go_sem,hN,qcm,← hI]
theorem c_ref06_Valid (l:List Pr):APure Tryz.prog 65 [.slice (l.map Pr.c)] (Bo (qa0 l)):=by
 rw [← stateOkR_eq];refine qaj Tryz.func65 Tryz.ntmps65 rfl (by kernel_rfl) rfl rfl fun E h hN hh hu hb=>?_;simp [go_sem] at hb;simp -dsimp [go_sem,hN];refine qaf l.length (fun n=>anyL (fun p=>decide (p.v.k=0)) (l.drop n)=anyL (fun p=>decide (p.v.k=0)) l) (fun n=>⟨[(0,.slice (l.map Pr.c)),(3,I n)],h⟩) (by simp) wkA ?_;intro n hn hI;have hw:=qaq hn hb.1;simp -dsimp [go_sem,hN];refine cnd ?_ ?_<;>intro hc<;>simp at hc
 ·
  rw [qad hc,anyL] at hI;simp -dsimp [go_sem,hN,hc];refine cnd ?_ ?_<;>intro hg<;>simp at hg
  ·
   simp -dsimp [go_sem,hN];simp [stateOkR,← hI,hg]
  ·
   simp -dsimp [go_sem,hN,hw];exact ⟨hc,by simpa [hg] using hI,wkA⟩
 ·
  rw [List.drop_eq_nil_of_le (by omega),anyL] at hI;simp -dsimp [go_sem,hN];refine qaa (c_ref06_ValidWrites l) ?_;simp -dsimp [go_sem,hN,stateOkR,← hI]
theorem c_ref06_Has (l:List Pr) (k:qac):APure Tryz.prog 67 [.slice (l.map Pr.c),S k] (Bo (hasP l k)):=by
 refine qaj Tryz.func67 Tryz.ntmps67 rfl (by kernel_rfl) rfl rfl fun E h hN hh hu hb=>?_;simp [go_sem] at hb;simp -dsimp [go_sem,hN];refine qaf l.length (fun n=>hasP (l.drop n) k=hasP l k) (fun n=>⟨[(0,.slice (l.map Pr.c)),(1,S k),(5,I n)],h⟩) (by simp) wkA ?_;intro n hn hI;have hw:=qaq hn hb.1.1;simp -dsimp [go_sem,hN];refine cnd ?_ ?_<;>intro hc<;>simp at hc
 ·
  rw [qad hc,hasP,anyL] at hI;simp -dsimp [go_sem,hN,hc];refine cnd ?_ ?_<;>intro hg<;>simp at hg
  ·
   simp -dsimp [go_sem,hN];simp [← hI,hg]
  ·
   simp -dsimp [go_sem,hN,hw];exact ⟨hc,by simpa [hg,hasP] using hI,wkA⟩
 ·
  rw [List.drop_eq_nil_of_le (by omega),hasP,anyL] at hI;simp -dsimp [go_sem,hN,← hI]
theorem c_ref06_Get (l:List Pr) (k:qac):APure Tryz.prog 222 [.slice (l.map Pr.c),S k] (.agg (qeh l k).c):=by
 refine qaj Tryz.func222 Tryz.ntmps222 rfl (by kernel_rfl) rfl rfl fun E h hN hh hu hb=>?_;simp [go_sem] at hb;simp -dsimp [go_sem,hN];refine qaf l.length (fun n=>qeh (l.drop n) k=qeh l k) (fun n=>⟨[(0,.slice (l.map Pr.c)),(1,S k),(4,P0 h.length),(5,I n)],h++[.cells [I 0,I 0,S em]]⟩) (by simp) wkA ?_;intro n hn hI;have hw:=qaq hn hb.1.1;simp -dsimp [go_sem,hN];refine cnd ?_ ?_<;>intro hc<;>simp at hc
 ·
  rw [qad hc,qeh] at hI;simp -dsimp [go_sem,hN,hc];refine cnd ?_ ?_<;>intro hg<;>simp at hg
  ·
   simp -dsimp [go_sem,hN,hc];simp [← hI,hg]
  ·
   simp -dsimp [go_sem,hN,hw];exact ⟨hc,by simpa [hg] using hI,wkA⟩
 ·
  rw [List.drop_eq_nil_of_le (by omega),qeh] at hI;simp -dsimp [go_sem,hN,← hI]
theorem c_ref06_with (l:List Pr) (p:Pr) (hB:l.length<68719476736):APure Tryz.prog 68 [.slice (l.map Pr.c),.agg p.c] (.slice ((withP l p).map Pr.c)):=by
 refine qaj Tryz.func68 Tryz.ntmps68 rfl (by kernel_rfl) rfl rfl fun E h hN hh hu hb=>?_;simp [go_sem] at hb;simp -dsimp [go_sem,hN];refine qaf l.length (fun n=>n+posP p.key (l.drop n)=posP p.key l) (fun n=>⟨[(0,.slice (l.map Pr.c)),(3,P0 h.length),(5,I n)],h++[.cells p.c]⟩) (by simp) wkA ?_;intro n hn hI;have hw:=qaq hn (Nat.le_of_lt hB);simp -dsimp [go_sem,hN];refine qah 12 mixed (by kernel_rfl) (by kernel_rfl) ?_;by_cases hc:n<l.length
 ·
  rw [qad hc,posP] at hI;simp -dsimp [go_sem,hN,hc];refine cnd ?_ ?_<;>intro hg<;>try simp at hg
  ·
   simp -dsimp [go_sem,hN,hw];rw [if_pos hg] at hI;exact ⟨hc,by omega,wkA⟩
  ·
   rw [if_neg (by simp [hg])] at hI;simp -dsimp [go_sem,hN];refine ⟨by omega,by omega,by omega,by omega,by omega,?_⟩;rw [if_pos (by omega)];simp [withP,← hI,Pr.c,List.map_take,List.map_drop]
 ·
  rw [List.drop_eq_nil_of_le (by omega),posP] at hI;simp -dsimp [go_sem,hN,hc];refine ⟨by omega,by omega,by omega,by omega,by omega,?_⟩;rw [if_pos (by omega)];simp [withP,← hI,Pr.c,List.map_take,List.map_drop]
theorem c_ref06_Apply (l w:List Pr) (hB:l.length+w.length<68719476736):APure Tryz.prog 36 [.slice (l.map Pr.c),.slice (w.map Pr.c)]
  (if qa0 l&&qcm w then .tuple [.slice ((applyP l w).map Pr.c),I 0] else .tuple [.slice [],I 1]):=by
 refine qcz Tryz.func36 rfl (by kernel_rfl) (by simp [Tryz.ntmps36]) (by split<;>rfl) ?_;intro E h hN hh hu hb;rw [Tryz.ntmps36] at hN;refine qa2 _ _ _ ?_;simp [go_sem] at hb;simp -dsimp [go_sem,hN];refine qaa (c_ref06_Valid l) ?_;simp -dsimp [go_sem,hN];refine qae (c_ref06_ValidWrites w) (by simp) ?_;simp -dsimp [go_sem,hN];refine cnd ?_ ?_<;>intro h0<;>simp at h0
 ·
  simp -dsimp [go_sem,hN];grind
 rw [h0.1,h0.2];simp -dsimp [go_sem,hN];refine qas (α:=List Pr) l.length (fun n o=>o++keepP w (l.drop n)=keepP w l∧o.length≤n) (fun n o=>⟨[(0,.slice (l.map Pr.c)),(1,.slice (w.map Pr.c)),(6,.own h.length o.length),(7,I n)],h++[.arr 73 4 (o.map Pr.c)]⟩) [] (by simp) ((nil_wk E _ 6 73 4 rfl).trans wkA) ?_;intro n o hn ⟨hI,hol⟩;have hw:=qaq hn hb.1.1;simp -dsimp [go_sem,hN];refine cnd ?_ ?_<;>intro hc<;>simp at hc
 ·
  rw [qad hc,keepP] at hI;simp -dsimp [go_sem,hN,hc];refine qaa (c_ref06_Has w _) ?_;simp -dsimp [go_sem,hN];refine cnd ?_ ?_<;>intro hg<;>simp at hg
  ·
   simp -dsimp [go_sem,hN,hc];refine ⟨by omega,?_⟩;simp -dsimp [go_sem,hN,hw];exact ⟨o++[l[n]],⟨by simpa [hg] using hI,by simp;omega⟩,wkA⟩
  ·
   simp -dsimp [go_sem,hN,hw];exact ⟨hc,o,⟨by simpa [hg] using hI,by omega⟩,wkA⟩
 rw [List.drop_eq_nil_of_le (by omega),keepP,List.append_nil] at hI;simp -dsimp [go_sem,hN];subst hI;refine qas (α:=List Pr) w.length (fun n o=>addP o (w.drop n)=applyP l w∧o.length≤l.length+n) (fun n o=>⟨[(1,.slice (w.map Pr.c)),(6,.slice (o.map Pr.c)),(8,I n)],h⟩) (keepP w l) (by simp [applyP];omega) ((norm_wk E _).trans wkA) ?_;intro n o hn ⟨hI,hol⟩;have hw:=qaq hn hb.2.1;simp -dsimp [go_sem,hN];refine cnd ?_ ?_<;>intro hc<;>simp at hc
 ·
  rw [qad hc,addP] at hI;simp -dsimp [go_sem,hN,hc];refine cnd ?_ ?_<;>intro hg<;>simp at hg
  ·
   simp -dsimp [go_sem,hN,hc];refine qaa (c_ref06_with o _ (by omega)) ?_;simp -dsimp [go_sem,hN,hw];exact ⟨hc,withP o w[n],⟨by simpa [hg] using hI,by rw [withP_len];omega⟩,wkA⟩
  ·
   simp -dsimp [go_sem,hN,hw];exact ⟨hc,o,⟨by simpa [hg] using hI,by omega⟩,wkA⟩
 ·
  rw [List.drop_eq_nil_of_le (by omega),addP] at hI;simp -dsimp [go_sem,hN,hI]
end Go.Proofs.YtcjolkgjhcdhcaaGreatDoor

set_option maxRecDepth 4000
namespace Go.Proofs.YtcjolkgjhcdhcaaGreatDoor
open Go Go.Abs Go.Cw
theorem c_lexer_letter (c:Int):APure Tryz.prog 228 [.val (.int .i32 c)] (Bo (ltr c)):=by
 refine qaj Tryz.func228 Tryz.ntmps228 rfl (by kernel_rfl) rfl rfl fun E h hN hh hu hb=>?_;simp -dsimp [go_sem,hN,ltr]
theorem c_lexer_word (s:qac):APure Tryz.prog 229 [S s] (I (wordLen (bl s))):=by
 refine qaj Tryz.func229 Tryz.ntmps229 rfl (by kernel_rfl) rfl rfl fun E h hN hh hu hb=>?_;simp [go_sem] at hb;simp -dsimp [go_sem,hN];refine qaf s.size (fun n=>n+wordLen ((bl s).drop n)=wordLen (bl s)) (fun n=>⟨[(0,S s),(6,P0 h.length)],h++[.iter s n]⟩) (by simp) wkA ?_;intro n hn hI;have hw:=qaq hn hb;simp -dsimp [go_sem,hN];by_cases hc:n<s.size
 ·
  rw [bdrop hc,wordLen] at hI;simp -dsimp [go_sem,hN,hc];refine qaa (c_lexer_letter _) ?_;simp -dsimp [go_sem,hN];by_cases h8:(bAt s n).toNat<128
  ·
   simp only [dec_lo hc h8];refine ⟨by grind,cnd (fun hg=>?_) (fun hg=>?_)⟩
   ·
    have hg':wordI ((bAt s n).toNat:Int)=false:=by simp [wordI] at hg ⊢;grind
    simp -dsimp [go_sem,hN];rw [← hI];simp [hg']
   ·
    have hg':wordI ((bAt s n).toNat:Int)=true:=by simp [wordI] at hg ⊢;grind
    simp -dsimp [go_sem,hN,hw];exact ⟨hc,by rw [if_pos hg'] at hI;omega,wkA⟩
  ·
   have h9:=dec_hi hc h8;have hg':wordI ((bAt s n).toNat:Int)=false:=by simp [wordI,ltr];omega
   have hl:ltr ((Utf8.decode s n).1:Int)=false:=by simp [ltr];omega
   refine ⟨by grind,cnd (fun hg=>?_) (fun hg=>?_)⟩
   ·
    simp -dsimp [go_sem,hN];rw [← hI];simp [hg']
   ·
    simp [hl] at hg;omega
 ·
  rw [bend hc,wordLen] at hI;simp -dsimp [go_sem,hN,hc];have:wordLen (bl s)=s.size:=by omega
  simp [this]
theorem c_lexer_IsKeyword (s:qac):APure Tryz.prog 230 [S s] (Bo (kw s)):=by
 refine qaj Tryz.func230 Tryz.ntmps230 rfl (by kernel_rfl) rfl rfl fun E h hN hh hu hb=>?_;simp -dsimp [go_sem,hN]
 iterate 25
  refine cnd (fun hg=>?_) (fun hg=>?_)
  ·
   simp at hg;subst hg;simp -dsimp [go_sem,hN];rfl
  simp -dsimp [go_sem,hN]
  try simp at hg
 simp [kw, *]
theorem c_ast_plain (s:qac):APure Tryz.prog 298 [S s] (Bo (qa7 s)):=by
 refine qaj Tryz.func298 Tryz.ntmps298 rfl (by kernel_rfl) rfl rfl fun E h hN hh hu hb=>?_;simp [go_sem] at hb;simp -dsimp [go_sem,hN];refine qaf s.size (fun n=>allL okB ((bl s).drop n)=allL okB (bl s)) (fun n=>⟨[(0,S s),(3,I n)],h⟩) (by simp) wkA ?_;intro n hn hI;have hw:=qaq hn hb;simp -dsimp [go_sem,hN];refine cnd ?_ ?_<;>intro hc<;>simp at hc
 ·
  rw [bdrop hc,allL] at hI;simp -dsimp [go_sem,hN,hc];refine cnd (fun hg=>?_) (fun hg=>?_)
  ·
   simp -dsimp [go_sem,hN];simp [qa7,← hI,okB,hg]
  ·
   simp -dsimp [go_sem,hN,hw];exact ⟨hc,by simpa [okB,hg] using hI,wkA⟩
 ·
  rw [bend (by omega),allL] at hI;simp -dsimp [go_sem,hN,qa7,← hI]
theorem c_ast_Arity (op:Int):APure Tryz.prog 297 [I op] (I (qb0 op)):=by
 refine qaj Tryz.func297 Tryz.ntmps297 rfl (by kernel_rfl) rfl rfl fun E h hN hh hu hb=>?_;simp -dsimp [go_sem,hN];refine cnd ?_ ?_<;>intro h0<;>simp at h0<;>simp -dsimp [go_sem,hN,qb0,h0];refine cnd ?_ ?_<;>intro h1<;>simp at h1<;>simp -dsimp [go_sem,hN,qb0,h0,h1];refine cnd ?_ ?_<;>intro h2<;>simp at h2<;>simp -dsimp [go_sem,hN,qb0]
 · rw [if_neg (by omega),if_neg (by omega),if_pos (by omega)]
 · rw [if_neg (by omega),if_neg (by omega),if_neg (by omega)]
theorem c_lexer_IsName (s:qac):APure Tryz.prog 182 [S s] (Bo (nameOk s)):=by
 refine qaj Tryz.func182 Tryz.ntmps182 rfl (by kernel_rfl) rfl rfl fun E h hN hh hu hb=>?_;rcases sz_em s with rfl | h1
 ·
  simp -dsimp [go_sem,hN,nameOk];refine tgcall_if .top (by simp) (by simp) ?_;simp -dsimp [go_sem,hN];refine tgcall_if .top (by simp) (by simp) ?_;simp -dsimp [go_sem,hN];refine tgcall_if .top (by simp) (by simp) ?_;simp -dsimp [go_sem,hN,nameOk]
 ·
  have h1':0<s.size:=by omega
  have he:¬ s=em:=by rintro rfl;simp at h1
  simp -dsimp [go_sem,hN,h1',he];refine qae (c_lexer_letter _) (by simp) ?_;simp -dsimp [go_sem,hN];refine qae (c_lexer_word s) (by simp) ?_;simp -dsimp [go_sem,hN];refine qae (c_lexer_IsKeyword s) (by simp) ?_;simp -dsimp [go_sem,hN,nameOk,he]
theorem c_ast_node (op n:Int) (s:qac) (args:List Ex) (d:Nat):APure Tryz.prog 282 [.agg [I op,I n,S s,.slice (args.map Ex.c)],I d] (I (qcb op n s args.length d)):=by
 refine qaj Tryz.func282 Tryz.ntmps282 rfl (by kernel_rfl) rfl rfl fun E h hN hh hu hb=>?_;simp -dsimp [go_sem,hN];refine qaa (c_ast_Arity _) ?_;simp -dsimp [go_sem,hN]
 repeat refine ⟨by grind,?_⟩
 refine cnd (fun h0=>?_) (fun h0=>?_)
 ·
  simp -dsimp [go_sem,hN];simp at h0;rw [qcb,if_pos (by grind)]
 have h0':¬ (qb0 op<0∨(op≠1∧n≠0)∨(op≠2∧op≠3∧s≠em)):=by simp at h0;grind
 simp -dsimp [go_sem,hN];refine qae (c_lexer_IsName s) (by simp) ?_;simp -dsimp [go_sem,hN];refine cnd (fun h1=>?_) (fun h1=>?_)
 ·
  simp -dsimp [go_sem,hN];simp at h1;rw [qcb,if_neg h0',if_pos (by grind)]
 have h1':¬ (op=3∧nameOk s=false):=by simp at h1;grind
 simp -dsimp [go_sem,hN]
 repeat refine ⟨by grind,?_⟩
 refine qae (c_ast_plain s) (by simp) ?_;simp -dsimp [go_sem,hN]
 repeat refine ⟨by grind,?_⟩
 refine cnd (fun h2=>?_) (fun h2=>?_)
 ·
  simp -dsimp [go_sem,hN];simp at h2;rw [qcb,if_neg h0',if_neg h1',if_pos (by grind)]
 have h2':¬ ((op=1∧n<0)∨(op=2∧qa7 s=false)∨(args.length:Int)≠qb0 op):=by simp at h2;grind
 simp -dsimp [go_sem,hN];refine cnd ?_ ?_<;>intro h3<;>simp at h3
 ·
  simp -dsimp [go_sem,hN];rw [qcb,if_neg h0',if_neg h1',if_neg h2',if_pos (by omega)]
 ·
  simp -dsimp [go_sem,hN];rw [qcb,if_neg h0',if_neg h1',if_neg h2',if_neg (by omega)]
theorem c_ast_check (e:Ex) (d:Nat):APure Tryz.prog 261 [.agg [I e.op,I e.n,S e.s,.slice (e.args.map Ex.c)],I d] (I (chkE e d)):=by
 refine qaj Tryz.func261 Tryz.ntmps261 rfl (by kernel_rfl) rfl rfl fun E h hN hh hu hb=>?_;simp [go_sem] at hb;simp -dsimp [go_sem,hN];refine qaa (c_ast_node _ _ _ _ _) ?_;simp -dsimp [go_sem,hN];refine cnd ?_ ?_<;>intro h0<;>simp at h0
 ·
  simp -dsimp [go_sem,hN];rw [chkE_eq,if_neg h0]
 have hd:d≤12:=by
  unfold qcb at h0;grind
 simp -dsimp [go_sem,hN];refine qaf e.args.length (fun n=>chkL (e.args.drop n) (d+1)=chkL e.args (d+1)) (fun n=>⟨[(1,I d),(16,.slice (e.args.map Ex.c)),(17,I e.args.length),(18,I n)],h⟩) (by simp) wkA ?_;intro n hn hI;have hw:=qaq hn hb.2.1;have hw2:IntKind.i64.wrap ((d:Int)+1)=((d+1:Nat):Int):=by rw [wrapI (by omega) (by omega)];rfl
 simp -dsimp [go_sem,hN];refine cnd ?_ ?_<;>intro hc<;>simp at hc
 ·
  rw [qad hc,chkL] at hI;simp -dsimp [go_sem,hN,hc,hw2];have hlt:SizeOf.sizeOf e.args[n]<SizeOf.sizeOf e:=Ex.arg_lt (List.getElem_mem hc);refine qaa (c_ast_check e.args[n] (d+1)) ?_;simp -dsimp [go_sem,hN];refine cnd ?_ ?_<;>intro hg<;>simp at hg
  ·
   simp -dsimp [go_sem,hN];rw [chkE_eq e,if_pos h0,← hI,if_neg hg]
  ·
   simp -dsimp [go_sem,hN,hw];exact ⟨hc,by simpa [hg] using hI,wkA⟩
 ·
  rw [List.drop_eq_nil_of_le (by omega),chkL] at hI;simp -dsimp [go_sem,hN];rw [chkE_eq e,if_pos h0,← hI]
termination_by SizeOf.sizeOf e
theorem c_ast_ValidExpr (e:Ex):APure Tryz.prog 236 [.agg [I e.op,I e.n,S e.s,.slice (e.args.map Ex.c)]] (I (chkE e 1)):=by
 refine qaj Tryz.func236 Tryz.ntmps236 rfl (by kernel_rfl) rfl rfl fun E h hN hh hu hb=>?_;simp -dsimp [go_sem,hN];refine qaa (c_ast_check e 1) ?_;simp -dsimp [go_sem,hN]
end Go.Proofs.YtcjolkgjhcdhcaaGreatDoor

set_option maxRecDepth 4000
namespace Go.Proofs.YtcjolkgjhcdhcaaGreatDoor
open Go Go.Abs Go.Cw
theorem c_ast_usesOf (op:Int):APure Tryz.prog 234 [I op] (.tuple [.agg (qba op).1.c,Bo (qba op).2]):=by
 refine qaj Tryz.func234 Tryz.ntmps234 rfl (by kernel_rfl) rfl rfl fun E h hN hh hu hb=>?_;by_cases h1:op=1
 · subst h1;simp -dsimp [go_sem,hN,qba]
 by_cases h2:op=2
 · subst h2;simp -dsimp [go_sem,hN,qba]
 by_cases h3:op=3
 · subst h3;simp -dsimp [go_sem,hN,qba]
 by_cases h4:op=4
 · subst h4;simp -dsimp [go_sem,hN,qba]
 by_cases h7:op=7
 · subst h7;simp -dsimp [go_sem,hN,qba]
 by_cases h5:op=5
 · subst h5;simp -dsimp [go_sem,hN,qba]
 by_cases h6:op=6
 · subst h6;simp -dsimp [go_sem,hN,qba]
 by_cases h8:op=8
 · subst h8;simp -dsimp [go_sem,hN,qba]
 simp -dsimp [go_sem,hN,qba,h1,h2,h3,h4,h5,h6,h7,h8]
theorem c_ast_absent (e:Ex):APure Tryz.prog 260 [.agg e.x] (Bo (absE e)):=by
 refine qaj Tryz.func260 Tryz.ntmps260 rfl (by kernel_rfl) rfl rfl fun E h hN hh hu hb=>?_;simp -dsimp [go_sem,hN,absE]
 try grind
theorem c_ast_shape (s:St) (u:Uses):APure Tryz.prog 235 [.agg s.x,.agg u.c] (Bo (qb5 s u)):=by
 refine qaj Tryz.func235 Tryz.ntmps235 rfl (by kernel_rfl) rfl rfl fun E h hN hh hu hb=>?_;simp -dsimp [go_sem,hN]
 repeat refine ⟨by grind,?_⟩
 refine qae (c_ast_absent s.a) (by simp) ?_;simp -dsimp [go_sem,hN]
 repeat refine ⟨by grind,?_⟩
 refine qae (c_ast_absent s.b) (by simp) ?_;simp -dsimp [go_sem,hN]
 repeat refine ⟨by grind,?_⟩
 refine cnd (fun h0=>?_) (fun h0=>?_)
 ·
  simp -dsimp [go_sem,hN];simp [qb5] at h0 ⊢;grind
 ·
  simp -dsimp [go_sem,hN];refine cnd ?_ ?_<;>intro h1<;>simp at h1<;>simp -dsimp [go_sem,hN,h1]
  ·
   simp [qb5,h1] at h0 ⊢;grind
  ·
   refine cnd ?_ ?_<;>intro h2<;>simp at h2<;>simp -dsimp [go_sem,hN,h2]
   ·
    simp [qb5,h1,h2] at h0 ⊢;grind
   ·
    simp [qb5,h1,h2] at h0 ⊢;grind
end Go.Proofs.YtcjolkgjhcdhcaaGreatDoor

set_option maxRecDepth 4000
namespace Go.Proofs.YtcjolkgjhcdhcaaGreatDoor
open Go Go.Abs Go.Cw
theorem c_ast_statement (s:St) (d:Int):APure Tryz.prog 186 [.agg s.x,I d] (I (qbl s d)):=by
 refine qaj Tryz.func186 Tryz.ntmps186 rfl (by kernel_rfl) rfl rfl fun E h hN hh hu hb=>?_;simp -dsimp [go_sem,hN];refine qaa (c_ast_usesOf _) ?_;simp -dsimp [go_sem,hN];refine qae (c_ast_shape s (qba s.op).1) (by simp) ?_;simp -dsimp [go_sem,hN];refine cnd (fun h0=>?_) (fun h0=>?_)
 ·
  simp -dsimp [go_sem,hN];simp at h0;rw [qbl,if_pos (by grind)]
 have h0':¬ ((qba s.op).2=false∨qb5 s (qba s.op).1=false):=by simp at h0;grind
 simp -dsimp [go_sem,hN];refine qae (c_lexer_IsName _) (by simp) ?_;simp -dsimp [go_sem,hN];refine cnd (fun h1=>?_) (fun h1=>?_)
 ·
  simp -dsimp [go_sem,hN];simp at h1;rw [qbl,if_neg h0',if_pos (by grind)]
 have h1':¬ ((qba s.op).1.name=true∧nameOk s.name=false):=by simp at h1;grind
 simp -dsimp [go_sem,hN];have tail:¬ ((qba s.op).1.a=true∧chkE s.a 1≠0)→¬ ((qba s.op).1.b=true∧chkE s.b 1≠0)→∀ x:Int,x=(if 12<d then 2 else 0)→x=qbl s d:=by
  intro g1 g2 x hx;rw [qbl,if_neg h0',if_neg h1',if_neg g1,if_neg g2,hx]
 have tailb:¬ ((qba s.op).1.a=true∧chkE s.a 1≠0)→((qba s.op).1.b=true∧chkE s.b 1≠0)→chkE s.b 1=qbl s d:=by
  intro g1 g2;rw [qbl,if_neg h0',if_neg h1',if_neg g1,if_pos g2]
 refine cnd (fun h2=>?_) (fun h2=>?_)
 ·
  simp -dsimp [go_sem,hN];refine qaa (c_ast_ValidExpr s.a) ?_;simp -dsimp [go_sem,hN];refine cnd ?_ ?_<;>intro h3<;>simp at h3
  ·
   simp -dsimp [go_sem,hN];rw [qbl,if_neg h0',if_neg h1',if_pos ⟨h2,h3⟩]
  simp -dsimp [go_sem,hN];refine cnd (fun h4=>?_) (fun h4=>?_)
  ·
   simp -dsimp [go_sem,hN];refine qaa (c_ast_ValidExpr s.b) ?_;simp -dsimp [go_sem,hN];refine cnd ?_ ?_<;>intro h5<;>simp at h5
   ·
    simp -dsimp [go_sem,hN];exact tailb (by grind) ⟨h4,h5⟩
   simp -dsimp [go_sem,hN];refine cnd ?_ ?_<;>intro h6<;>simp at h6<;>simp -dsimp [go_sem,hN]<;>refine tail (by grind) (by grind) _ (by rw [eq_comm];first | exact if_pos h6 | exact if_neg (by omega))
  ·
   simp -dsimp [go_sem,hN];refine cnd ?_ ?_<;>intro h6<;>simp at h6<;>simp -dsimp [go_sem,hN]<;>refine tail (by grind) (by grind) _ (by rw [eq_comm];first | exact if_pos h6 | exact if_neg (by omega))
 ·
  simp -dsimp [go_sem,hN];refine cnd (fun h4=>?_) (fun h4=>?_)
  ·
   simp -dsimp [go_sem,hN];refine qaa (c_ast_ValidExpr s.b) ?_;simp -dsimp [go_sem,hN];refine cnd ?_ ?_<;>intro h5<;>simp at h5
   ·
    simp -dsimp [go_sem,hN];exact tailb (by grind) ⟨h4,h5⟩
   simp -dsimp [go_sem,hN];refine cnd ?_ ?_<;>intro h6<;>simp at h6<;>simp -dsimp [go_sem,hN]<;>refine tail (by grind) (by grind) _ (by rw [eq_comm];first | exact if_pos h6 | exact if_neg (by omega))
  ·
   simp -dsimp [go_sem,hN];refine cnd ?_ ?_<;>intro h6<;>simp at h6<;>simp -dsimp [go_sem,hN]<;>refine tail (by grind) (by grind) _ (by rw [eq_comm];first | exact if_pos h6 | exact if_neg (by omega))
theorem c_ast_params1 (x:Param) (h:qab) (i:Nat) (p:Param) (hi:h[i]?=some (.cells p.c)):ACalls Tryz.prog 232 [.agg x.c,.ptr i 0] h fun r h'=>r=.ret (Bo (decide (x.name=p.name)))∧h'=h:=by
 refine qav Tryz.func232 Tryz.ntmps232 rfl (by kernel_rfl) rfl fun E hN hh hu hb hb' hua=>?_;have hi':i<h.length:=(List.getElem?_eq_some_iff.1 hi).1;have a1:∀ l,(h++l)[i]?=some (.cells p.c):=fun l=>by rw [List.getElem?_append_left hi'];exact hi
 simp -dsimp [go_sem,hN,a1,hu];exact ⟨_,.refl _,h,by simp [go_sem],by simp [go_sem],by simp,by simp [hu,go_sem],rfl,rfl⟩
theorem c_IndexFunc_Param (l:List Param) (f:FuncId) (caps:List AV) (q:Param→Bool) (h:qab) (hcn:qbc h caps=caps) (hp:∀ x:Param,ACalls Tryz.prog f ([.agg x.c]++caps) h fun r h'=>r=.ret (Bo (q x))∧h'=h) :
  ACalls Tryz.prog 258 [.slice (l.map Param.c),.fn (.func f) [] caps] h fun r h'=>r=.ret (I (idxOf q l))∧h'=h:=by
 refine qav Tryz.func258 Tryz.ntmps258 rfl (by kernel_rfl) rfl fun E hN hh hu hb hb' hua=>?_;simp [go_sem] at hb;simp -dsimp [go_sem,hN];refine qaf l.length (fun n=>qbw q n (l.drop n)=idxOf q l) (fun n=>⟨[(0,.slice (l.map Param.c)),(1,.fn (.func f) [] caps),(7,I l.length),(8,I n)],h⟩) (by simp [idxOf]) (Wk.mk (by simp [hh]) (by simp) (by simp [hu]) (by simp [go_sem];simpa [go_sem] using hua)) ?_;intro n hn hI;have hw:=qaq hn hb.1;simp -dsimp [go_sem,hN];refine cnd ?_ ?_<;>intro hc<;>simp at hc
 ·
  rw [qad hc,qbw] at hI;simp -dsimp [go_sem,hN,hc,hcn];refine qan (hp l[n]) ?_;rintro r h' ⟨rfl,rfl⟩;simp -dsimp [go_sem,hN];refine cnd ?_ ?_<;>intro hg<;>try simp at hg
  ·
   simp -dsimp [go_sem,hN];rw [if_pos hg] at hI;rw [hI];exact ⟨_,.refl _,h',by simp [go_sem],by simp [go_sem],by simp,by simp [hu,go_sem],rfl,rfl⟩
  ·
   simp -dsimp [go_sem,hN,hw];exact ⟨hc,by simpa [hg] using hI,Wk.mk (by simp [hh]) (by simp) (by simp [hu]) (by simp [go_sem];simpa [go_sem] using hua)⟩
 ·
  rw [List.drop_eq_nil_of_le (by omega),qbw] at hI;simp -dsimp [go_sem,hN,← hI];exact ⟨_,.refl _,h,by simp [go_sem],by simp [go_sem],by simp,by simp [hu,go_sem],rfl,rfl⟩
theorem c_ContainsFunc_Param (l:List Param) (f:FuncId) (caps:List AV) (q:Param→Bool) (h:qab) (hcn:qbc h caps=caps) (hp:∀ x:Param,ACalls Tryz.prog f ([.agg x.c]++caps) h fun r h'=>r=.ret (Bo (q x))∧h'=h) :
  ACalls Tryz.prog 231 [.slice (l.map Param.c),.fn (.func f) [] caps] h fun r h'=>r=.ret (Bo (anyL q l))∧h'=h:=by
 refine qav Tryz.func231 Tryz.ntmps231 rfl (by kernel_rfl) rfl fun E hN hh hu hb hb' hua=>?_;simp -dsimp [go_sem,hN];refine qan (c_IndexFunc_Param l f caps q h hcn hp) ?_;rintro r h' ⟨rfl,rfl⟩;simp -dsimp [go_sem,hN,idxOf_nonneg];exact ⟨_,.refl _,h',by simp [go_sem],by simp [go_sem],by simp,by simp [hu,go_sem],rfl,rfl⟩
theorem c_ast_params (l:List Param):APure Tryz.prog 183 [.slice (l.map Param.c)] (I (paramsE l)):=by
 refine qaj Tryz.func183 Tryz.ntmps183 rfl (by kernel_rfl) rfl rfl fun E h hN hh hu hb=>?_;unfold paramsE;simp [go_sem] at hb;simp -dsimp [go_sem,hN];refine cnd ?_ ?_<;>intro h0<;>simp at h0
 ·
  simp -dsimp [go_sem,hN];omega
 simp -dsimp [go_sem,hN];rw [if_neg (by omega)];refine qaf l.length (fun n=>qc6 (l.take n) (l.drop n)=qc6 [] l) (fun n=>⟨[(0,.slice (l.map Param.c)),(8,.slice (l.map Param.c)),(9,I l.length),(10,I n)],h⟩) (by simp) wkA ?_;intro n hn hI;have hw:=qaq hn hb.1;simp -dsimp [go_sem,hN];refine cnd ?_ ?_<;>intro hc<;>simp at hc
 ·
  rw [qad hc,qc6] at hI;simp -dsimp [go_sem,hN,hc];refine qaa (c_lexer_IsName _) ?_;simp -dsimp [go_sem,hN];refine cnd ?_ ?_<;>intro h1<;>simp at h1
  ·
   simp -dsimp [go_sem,hN];simpa [h1] using hI
  simp -dsimp [go_sem,hN];refine cnd ?_ ?_<;>intro h2<;>simp at h2
  ·
   simp -dsimp [go_sem,hN];simpa [h1,h2] using hI
  have h2':¬ (l[n].ty<1∨3<l[n].ty):=by omega
  simp -dsimp [go_sem,hN,hn];have ecl:(List.map Param.c l).take n=(l.take n).map Param.c:=by simp
  rw [ecl];refine qan (c_ContainsFunc_Param (l.take n) _ _ (fun x=>decide (x.name=l[n].name)) _ (by simp [qbc,AV.norm]) (fun x=>c_ast_params1 x _ _ l[n] (by simp [Param.c]))) ?_;rintro r h' ⟨rfl,rfl⟩;simp -dsimp [go_sem,hN];refine cnd ?_ ?_<;>intro h3<;>try simp at h3
  ·
   simp -dsimp [go_sem,hN];simpa [h1,h2',h3] using hI
  ·
   simp -dsimp [go_sem,hN,hw];refine ⟨hc,?_,wkA⟩;rw [List.take_succ_eq_append_getElem hc];simpa [h1,h2',h3] using hI
 ·
  rw [List.drop_eq_nil_of_le (by omega),qc6] at hI;simp -dsimp [go_sem,hN,← hI]
end Go.Proofs.YtcjolkgjhcdhcaaGreatDoor

set_option maxRecDepth 4000
namespace Go.Proofs.YtcjolkgjhcdhcaaGreatDoor
open Go Go.Abs Go.Cw
variable {σ:Type} {K:σ→Nat} {M:Nat} {w:Nat} {fs fr:FuncId} {cs cr:List AV} {H:Nat→σ→qab} {fS:σ→St→Nat→σ} {fR:σ→Ex→σ} {n0:Nat}
theorem c_walker_expr {H:Nat→σ→qab} {n0:Nat} (W:WH Tryz.prog w fs fr cs cr H fS fR n0 K M) (e:Ex) (left:Nat) (s:σ) (hl:left≤1000) :
  ACalls Tryz.prog 281 [.ptr w 0,.agg e.x] (H left s) fun r h'=>r=.ret (.tuple [])∧h'=H (exW e left) s:=by
 refine qav Tryz.func281 Tryz.ntmps281 rfl (by kernel_rfl) rfl fun E hN hh hu hb hb' hua=>?_;simp [go_sem] at hb;simp -dsimp [go_sem,hN,W.w',W.look,W.len];refine cnd ?_ ?_<;>intro h0<;>simp at h0
 ·
  subst h0;simp -dsimp [go_sem,hN];rw [exW_eq,if_pos rfl];exact ⟨_,.refl _,H 0 s,rfl,by simp,by simp,hu,rfl,rfl⟩
 have hw1:IntKind.i64.wrap ((left:Int) - 1)=((left - 1:Nat):Int):=by rw [wrapI (by omega) (by omega)];omega
 simp -dsimp [go_sem,hN,W.w',hw1,W.set',W.loc0];refine qas (α:=Nat) e.args.length (fun n m=>exWL (e.args.drop n) m=exW e left∧m≤left) (fun n m=>⟨[(0,.ptr w 0),(19,.slice (e.args.map Ex.c)),(20,I e.args.length),(21,I n)],H m s++[.cells e.x]⟩) (left - 1) ⟨by rw [exW_eq,if_neg h0];rfl,by omega⟩ (Wk.mk (by simp [hh,W.len]) (by simp [go_sem]) ((W.ext [.cells e.x] (by simp [go_sem])).und' _ _) (by have:=W.lt;simp [go_sem,W.len];omega)) ?_;intro n m hn ⟨hI,hm⟩;have hw:=qaq hn hb.2.1;simp -dsimp [go_sem,hN];refine cnd ?_ ?_<;>intro hc<;>simp at hc
 ·
  rw [qad hc,exWL] at hI;have hlt:SizeOf.sizeOf e.args[n]<SizeOf.sizeOf e:=Ex.arg_lt (List.getElem_mem hc);simp -dsimp [go_sem,hN,hc,W.loc0,W.loc1,W.set0,W.set1,W.len];refine qan (c_walker_expr (W.ext [.cells e.x,.cells e.args[n].x] (by simp [go_sem])) e.args[n] m s (by omega)) ?_;rintro r h' ⟨rfl,rfl⟩;simp -dsimp [go_sem,hN,hw];refine ⟨hc,_,⟨hI,?_⟩,?_⟩
  ·
   have:=exW_le e.args[n] m;omega
  · exact (Wk.mk (by simp [hh,W.len]) (by simp [go_sem]) ((W.ext [.cells e.x] (by simp [go_sem])).und' _ _) (by have:=W.lt;simp [go_sem,W.len];omega))
 ·
  rw [List.drop_eq_nil_of_le (by omega),exWL] at hI;simp -dsimp [go_sem,hN];subst hI;exact ⟨_,.refl _,H (exW e left) s,rfl,by simp,by simp [W.len],W.und' _ _,rfl,rfl⟩
termination_by SizeOf.sizeOf e
theorem c_walker_first {H:Nat→σ→qab} {n0:Nat} (W:WH Tryz.prog w fs fr cs cr H fS fR n0 K M) (e:Ex) (left:Nat) (s:σ) (hl:left≤1000) (hK:K s+left≤M) :
  ACalls Tryz.prog 259 [.ptr w 0,.agg e.x] (H left s) fun r h'=>r=.ret (.tuple [])∧h'=H (qbu fR e (left,s)).1 (qbu fR e (left,s)).2:=by
 refine qav Tryz.func259 Tryz.ntmps259 rfl (by kernel_rfl) rfl fun E hN hh hu hb hb' hua=>?_;simp [go_sem] at hb;simp -dsimp [go_sem,hN,W.w',W.look,W.len,W.loc0];refine qae (c_ast_absent e) (by simp) ?_;simp -dsimp [go_sem,hN];refine cnd ?_ ?_<;>intro h0<;>simp at h0
 ·
  simp -dsimp [go_sem,hN];rw [qbu,if_pos (by simpa using h0)];exact ⟨_,.refl _,H left s,rfl,by simp,by simp,hu,rfl,rfl⟩
 simp -dsimp [go_sem,hN];refine qah 5 mixed (by kernel_rfl) (by kernel_rfl) ?_;simp -dsimp [go_sem,hN,W.w',W.loc0,W.ncr];refine qan (W.root left s [.cells e.x] e hK h0.1) ?_;rintro r h' ⟨rfl,rfl⟩;simp -dsimp [go_sem,hN,W.loc0];refine qan (c_walker_expr (W.ext [.cells e.x] (by simp [go_sem])) e left (fR s e) hl) ?_;rintro r h' ⟨rfl,rfl⟩;simp -dsimp [go_sem,hN];rw [qbu,if_neg (by simp only [not_or];exact ⟨h0.1,by simp [h0.2]⟩)];exact ⟨_,.refl _,H (exW e left) (fR s e),rfl,by simp,by simp [W.len],W.und' _ _,rfl,rfl⟩
theorem c_walker_block {H:Nat→σ→qab} {n0:Nat} (W:WH Tryz.prog w fs fr cs cr H fS fR n0 K M) (l:List St) (d left:Nat) (s:σ) (hl:d+left≤1000) (hK:K s+left≤M) :
  ACalls Tryz.prog 233 [.ptr w 0,.slice (l.map St.c),I d] (H left s) fun r h'=>r=.ret (.tuple [])∧h'=H (blkW fS fR l d (left,s)).1 (blkW fS fR l d (left,s)).2:=by
 refine qav Tryz.func233 Tryz.ntmps233 rfl (by kernel_rfl) rfl fun E hN hh hu hb hb' hua=>?_;simp [go_sem] at hb;simp -dsimp [go_sem,hN,W.w',W.look,W.len,W.loc0];refine qas (α:=Nat×σ) l.length (fun n x=>blkW fS fR (l.drop n) d x=blkW fS fR l d (left,s)∧x.1≤left∧K x.2+x.1≤M) (fun n x=>⟨[(0,.ptr w 0),(2,I d),(8,.slice (l.map St.c)),(9,I l.length),(10,I n)],H x.1 x.2⟩) (left,s) ⟨by simp,by simp,hK⟩ (Wk.mk (by simp [hh,W.len]) (by simp [go_sem]) (W.und' _ _) (by have:=W.lt;simp [go_sem,W.len];omega)) ?_;rintro n ⟨m,s⟩ hn ⟨hI,hm,hk⟩;simp only at hm hk;have hw:=qaq hn hb.1;simp -dsimp [go_sem,hN];refine cnd ?_ ?_<;>intro hc<;>simp at hc
 ·
  rw [qad hc,blkW] at hI;have hlt:SizeOf.sizeOf l[n]<SizeOf.sizeOf l:=List.sizeOf_lt_of_mem (List.getElem_mem hc);simp -dsimp [go_sem,hN,hc,W.loc0,W.set0,W.len,W.w'];refine cnd ?_ ?_<;>intro h0<;>simp at h0
  ·
   subst h0;simp -dsimp [go_sem,hN];rw [if_pos rfl] at hI;rw [← hI];exact ⟨_,.refl _,H 0 s,rfl,by simp,by simp [W.len],W.und' _ _,rfl,rfl⟩
  have hw1:IntKind.i64.wrap ((m:Int) - 1)=((m - 1:Nat):Int):=by rw [wrapI (by omega) (by omega)];omega
  rw [if_neg h0] at hI;simp -dsimp [go_sem,hN,hw1,W.loc0,W.w',W.set'];refine qah 6 mixed (by kernel_rfl) (by kernel_rfl) ?_;have X:=W.ext [.cells l[n].x] (by simp [go_sem]);simp -dsimp [go_sem,hN,W.w',W.loc0,W.ncs];refine qan (W.stmt (m - 1) s [.cells l[n].x] l[n] d (by omega)) ?_;rintro r h' ⟨rfl,rfl⟩;have k0:=W.hS s l[n] d;simp -dsimp [go_sem,hN,W.w',W.loc0];refine qan (c_walker_first X l[n].a (m - 1) (fS s l[n] d) (by omega) (by omega)) ?_;rintro r h' ⟨rfl,rfl⟩;have g1:=firstW_le fR l[n].a (m - 1,fS s l[n] d);have k1:=firstW_K fR K W.hR l[n].a (m - 1,fS s l[n] d);simp only at g1 k1;generalize hx1:qbu fR l[n].a (m - 1,fS s l[n] d)=x1 at g1 k1 ⊢;simp -dsimp [go_sem,hN,W.w',W.loc0];refine qan (c_walker_first X l[n].b x1.1 x1.2 (by omega) (by omega)) ?_;rintro r h' ⟨rfl,rfl⟩;have g2:=firstW_le fR l[n].b x1;have k2:=firstW_K fR K W.hR l[n].b x1;generalize hx2:qbu fR l[n].b x1=x2 at g2 k2 ⊢;have hw2:IntKind.i64.wrap ((d:Int)+1)=((d+1:Nat):Int):=by rw [wrapI (by omega) (by omega)];omega
  have hb1:=St.body_le l[n];have hb2:=St.els_le l[n];simp -dsimp [go_sem,hN,W.w',W.loc0,hw2];refine qan (c_walker_block X l[n].body (d+1) x2.1 x2.2 (by omega) (by omega)) ?_;rintro r h' ⟨rfl,rfl⟩;have g3:=blkW_le fS fR l[n].body (d+1) x2;have k3:=blkW_K fS fR K W.hS W.hR l[n].body (d+1) x2;generalize hx3:blkW fS fR l[n].body (d+1) x2=x3 at g3 k3 ⊢;simp -dsimp [go_sem,hN,W.w',W.loc0,hw2];refine qan (c_walker_block X l[n].els (d+1) x3.1 x3.2 (by omega) (by omega)) ?_;rintro r h' ⟨rfl,rfl⟩;have g4:=blkW_le fS fR l[n].els (d+1) x3;have k4:=blkW_K fS fR K W.hS W.hR l[n].els (d+1) x3;simp -dsimp [go_sem,hN,hw];refine ⟨hc,(blkW fS fR l[n].els (d+1) x3).1,(blkW fS fR l[n].els (d+1) x3).2,⟨?_,?_⟩,(Wk.mk (by simp [hh,W.len]) (by simp [go_sem]) (W.und' _ _) (by have:=W.lt;simp [go_sem,W.len];omega))⟩
  · rw [← hI,stW_eq,hx1,hx2,hx3]
  · exact ⟨by omega,by omega⟩
 ·
  rw [List.drop_eq_nil_of_le (by omega),blkW] at hI;simp -dsimp [go_sem,hN];rw [← hI];exact ⟨_,.refl _,H m s,rfl,by simp,by simp [W.len],W.und' _ _,rfl,rfl⟩
termination_by SizeOf.sizeOf l
end Go.Proofs.YtcjolkgjhcdhcaaGreatDoor
