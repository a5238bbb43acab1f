/- Part 39 of a proof: W138, W139, W140, W132, W133, W61a -/
import Derived.Test.YtilhejdbiionhaaGreatDoorProg
import Derived.Shelf.Slices.In.SortNone
import Derived.Shelf.Sort.Plain
import Derived.Test.YtilhejdbiionhaaGreatDoorV20
import Derived.Test.YtilhejdbiionhaaGreatDoorV25
import Derived.Test.YtilhejdbiionhaaGreatDoorV27
import Derived.Test.YtilhejdbiionhaaGreatDoorV30
import Derived.Test.YtilhejdbiionhaaGreatDoorV37
import Derived.Test.YtilhejdbiionhaaGreatDoorV38
set_option linter.all false

set_option maxRecDepth 4000
set_option maxHeartbeats 4000000
namespace Go.Proofs.YtilhejdbiionhaaGreatDoor
open Go Go.Abs Go.Cw
attribute [local go_sem] AX.c
variable {tT:TypeId} {tx:Nat×Nat} {g p ir iw:Nat}
def brR (t:St) (a:AX) (f:MV) (x:XS):Option MV×XS :=
 if a.known=true∧a.v.n=1 then exBl qbo t.body f x else if a.known=true then exBl qbo t.els f x else brX (exBl qbo t.body f x) fun x=>exBl qbo t.els f x
theorem c_pr_branch (t:St) (hB:BlSpec tT tx g p ir iw t.body) (hE:BlSpec tT tx g p ir iw t.els) (hRb:∀ s∈t.body,rngS s) (hRe:∀ s∈t.els,rngS s) {K:XS→qab} {n0:Nat} (Y:PHs tT tx g p ir iw K n0) (x:XS) {i:Nat} {f:MV} {lv:List (qac×AX)} (hV:VM K i f lv) (hi:i<n0) (hF:rngF f) (a:AX) :
  ACalls Tryz.prog 107 [.ptr p 0,.agg t.x,.agg a.c,.mapr i] (K x) (ResX K n0 i (brR t a f x) fun m=>m=nilM):=by
 refine qaq Tryz.func107 Tryz.ntmps107 rfl (by kernel_rfl) rfl fun E hN hh hu hb hb' hua=>?_;have hp:=Y.hp;obtain ⟨R0,hR0⟩:∃ R0,brR t a f x=R0:=⟨_,rfl⟩
 rw [hR0];unfold brR at hR0;simp -dsimp [go_sem,hN,Y.len,Y.loc,Y.loc0];have hub:hUnder (n0 + [AObj.cells t.x,.cells a.c].length) [.cells t.x,.cells a.c]=true:=by simp [hUnder,AObj.under,AV.under,qam,AX.c]
 have Y1:=Y.ext [.cells t.x,.cells a.c] hub;have hV1:=hV.ext Y.len hi [.cells t.x,.cells a.c]
 repeat refine ⟨by grind,?_⟩
 refine cnd ?_ ?_<;>intro h1<;>simp at h1
 ·
  rw [if_pos h1] at hR0;simp -dsimp [go_sem,hN,Y.len,Y.loc,Y.loc0];have hcall:=hB Y1 x hV1 (by simp;omega) hF;rw [hR0] at hcall;refine qaj hcall ?_;intro r h' hres;obtain ⟨L,rfl,hu,h3⟩:=hres;have hM:=qb2 hub hu;rcases h3 with ⟨ho,m,rfl,rfl⟩ | ⟨f',j',lv',ho,rfl,hj',hV',hfr'⟩
  ·
   simp -dsimp [go_sem,hN,Y.len];exact qbr Y (by simp [Y.len]) hM (by simp [AX.c]) (.inl rfl) rfl (Prod.ext ho rfl)
  ·
   simp at hj' hfr';simp -dsimp [go_sem,hN,Y.len];exact qcl Y (by simp [Y.len]) hM (by simp [AX.c]) hV'.assoc (by simp;omega) (by omega) (Prod.ext ho rfl)
 rw [if_neg (by simp;exact h1)] at hR0;simp -dsimp [go_sem,hN,Y.len,Y.loc,Y.loc0];refine cnd (fun h2=>?_) (fun h2=>?_)
 ·
  rw [if_pos h2] at hR0;simp -dsimp [go_sem,hN,Y.len,Y.loc,Y.loc0];have hcall:=hE Y1 x hV1 (by simp;omega) hF;rw [hR0] at hcall;refine qaj hcall ?_;intro r h' hres;obtain ⟨L,rfl,hu,h3⟩:=hres;have hM:=qb2 hub hu;rcases h3 with ⟨ho,m,rfl,rfl⟩ | ⟨f',j',lv',ho,rfl,hj',hV',hfr'⟩
  ·
   simp -dsimp [go_sem,hN,Y.len];exact qbr Y (by simp [Y.len]) hM (by simp [AX.c]) (.inl rfl) rfl (Prod.ext ho rfl)
  ·
   simp at hj' hfr';simp -dsimp [go_sem,hN,Y.len];exact qcl Y (by simp [Y.len]) hM (by simp [AX.c]) hV'.assoc (by simp;omega) (by omega) (Prod.ext ho rfl)
 rw [if_neg (by simp [h2])] at hR0;simp -dsimp [go_sem,hN,Y.len,Y.loc,Y.loc0];obtain ⟨T0,hT0⟩:∃ T0:qab,T0=[.cells t.x,.cells a.c]:=⟨_,rfl⟩
 have hT0l:T0.length=2:=by rw [hT0];rfl
 rw [← hT0] at hub Y1 hV1;obtain ⟨K1,hK1⟩:∃ K1:XS→qab,K1=fun q=>K q++T0:=⟨_,rfl⟩
 have hK1q:∀ q,K q++[.cells t.x,.cells [Bo a.known,I a.v.k,I a.v.n,S a.v.s]]=K1 q:=fun q=>by rw [hK1,hT0];rfl
 rw [← hK1,hT0l] at Y1;rw [← hK1] at hV1;have hbx:∀ q (l:qab),(K1 q++l)[n0]?=some (.cells t.x):=fun q l=>by rw [hK1,hT0];simp [Y.loc0]
 have hbx0:∀ q (h:n0<(K1 q).length),(K1 q)[n0]=.cells t.x:=fun q h=>by
  have:=hbx q [];rw [List.append_nil,List.getElem?_eq_getElem h] at this;exact Option.some.inj this
 simp only [hK1q];refine awp_drawCC 10 4 [0,1,2] mixed (by kernel_rfl) ?_;simp -dsimp [go_sem,hN,Y1.len,Y1.loc,Y1.loc0,hbx,hbx0];refine qaj (c_pr_clone lv hV.nod (K1 x) i (hV1.lm x)) ?_;rintro r h' ⟨l',hperm,rfl,rfl⟩;simp -dsimp [go_sem,hN,Y1.len,Y1.loc,Y1.loc0,hbx,hbx0];obtain ⟨M1,hM1⟩:∃ M1,AObj.map (kAV qcu l')=M1:=⟨_,rfl⟩
 have hMu1:∀ n,M1.under n=true:=fun n=>by rw [← hM1];exact qdh n _
 simp only [hM1];have hu1:hUnder (n0+2 + [M1].length) [M1]=true:=by simp [hUnder,hMu1]
 have Y2:=Y1.ext [M1] hu1;have hV2:VM (fun q=>K1 q++[M1]) (n0+2) f l':=⟨fun q=>by
  show (K1 q++[M1])[_]?=_;rw [hM1];exact Y1.loc0 q [M1],(hperm.map _).nodup_iff.2 hV.nod,fun k=>by rw [kGet_perm hperm hV.nod,hV.get]⟩
 have hcall:=hB Y2 x hV2 (by simp) hF;have hr1:=exBl_rng (fmt:=qbo) qch t.body f x hRb hF;obtain ⟨⟨o1,x1⟩,hx1⟩:∃ R,exBl qbo t.body f x=R:=⟨_,rfl⟩
 rw [hx1] at hcall hr1 hR0;refine qaj hcall ?_;rintro r h' ⟨L1,rfl,hu2,h3⟩;have huA:hUnder (n0+2+(M1::L1).length) (M1::L1)=true:=qb2 (A:=[M1]) hu1 hu2;have huA':hUnder (n0+(T0++(M1::L1)).length) (T0++(M1::L1))=true:=qb2 hub (by rw [hT0l];exact huA);have Y3:=Y1.ext (M1::L1) huA;have hl1:(M1::L1).length=L1.length+1:=rfl;have hV3:=hV1.ext Y1.len (by omega) (M1::L1);obtain ⟨K2,hK2⟩:∃ K2:XS→qab,K2=fun q=>K1 q++(M1::L1):=⟨_,rfl⟩
 have hK2q:∀ q,K1 q++(M1::L1)=K2 q:=fun q=>by rw [hK2]
 rw [← hK2] at Y3 hV3;have hbx2:∀ q (l:qab),(K2 q++l)[n0]?=some (.cells t.x):=fun q l=>by rw [hK2];simp only [List.append_assoc];exact hbx q _
 have hbx4:∀ q,(K2 q)[n0]?=some (.cells t.x):=fun q=>by simpa using hbx2 q []
 have hbx3:∀ q (h:n0<(K2 q).length),(K2 q)[n0]=.cells t.x:=fun q h=>by
  have:=hbx2 q [];rw [List.append_nil,List.getElem?_eq_getElem h] at this;exact Option.some.inj this
 rw [hl1] at Y3;have hlp0:∀ q (h:p<(K2 q).length),(K2 q)[p]=.cells (xC ir iw q.f):=fun q h=>by
  have:=Y3.lp q;rw [List.getElem?_eq_getElem h] at this;exact Option.some.inj this
 rcases h3 with ⟨ho,m,rfl,rfl⟩ | ⟨f1,j1,lv1,ho,rfl,hj1,hVr1,hfr1⟩
 ·
  dsimp only at ho;subst ho;simp -dsimp [go_sem,hN,Y1.len,Y1.loc,Y1.loc0,hbx,hbx0,hK2q,hlp0,Y3.lp];refine cnd (fun h4=>?_) (fun h4=>?_)
  ·
   have hR2:R0=(none,x1):=by rw [← hR0,brX,if_pos h4]
   simp -dsimp [go_sem,hN,Y3.len];exact qbr Y (by simp [Y.len]) huA' (by simp [hK2,hK1]) (.inl rfl) rfl hR2
  simp -dsimp [go_sem,hN,Y3.len,hbx3,hbx4];refine awp_drawCC 10 4 [0,1,2] mixed (by kernel_rfl) ?_;simp -dsimp [go_sem,hN,Y3.len,Y3.loc,Y3.loc0,hbx2,hbx3,hbx4];refine qaj (c_pr_clone lv hV.nod (K2 x1) i (hV3.lm x1)) ?_;rintro r h' ⟨l'',hperm',rfl,rfl⟩;simp -dsimp [go_sem,hN,Y3.len,Y3.loc,Y3.loc0,hbx2,hbx3,hbx4];obtain ⟨M2,hM2⟩:∃ M2,AObj.map (kAV qcu l'')=M2:=⟨_,rfl⟩
  have hMu2:∀ n,M2.under n=true:=fun n=>by rw [← hM2];exact qdh n _
  simp only [hM2];have hu3:hUnder (n0+2+(L1.length+1) + [M2].length) [M2]=true:=by simp [hUnder,hMu2]
  have Y4:=Y3.ext [M2] hu3;have hV4:VM (fun q=>K2 q++[M2]) (n0+2+(L1.length+1)) f l'':=⟨fun q=>by
   show (K2 q++[M2])[_]?=_;rw [hM2];exact Y3.loc0 q [M2],(hperm'.map _).nodup_iff.2 hV.nod,fun k=>by rw [kGet_perm hperm' hV.nod,hV.get]⟩
  have hcall2:=hE Y4 x1 hV4 (by simp) hF;obtain ⟨⟨o2,x2⟩,hx2⟩:∃ R,exBl qbo t.els f x1=R:=⟨_,rfl⟩
  have hR1:R0=if x2.f=true then (none,x2) else (match (none:Option MV),o2 with
   | none,o=>o
   | some f,none=>some f
   | some f,some g=>some (joinF f g),x2):=by
   rw [← hR0,brX,if_neg (by simp [h4])];dsimp only;rw [hx2]
   all_goals rfl
  rw [hx2] at hcall2;refine qaj hcall2 ?_;rintro r h' ⟨L2,rfl,hu4,h5⟩;have huB:hUnder (n0+((T0++(M1::L1))++(M2::L2)).length) ((T0++(M1::L1))++(M2::L2))=true:=qb2 huA' (by
   have:=qb2 (A:=[M2]) hu3 hu4;simp [hT0l] at this ⊢;simpa [Nat.add_assoc] using this)
  have hlp2:∀ q,(K2 q++M2::L2)[p]?=some (.cells (xC ir iw q.f)):=fun q=>Y3.lp' q _;rcases h5 with ⟨ho,m,rfl,rfl⟩ | ⟨f2,j2,lv2,ho,rfl,hj2,hVr2,hfr2⟩
  ·
   dsimp only at ho;subst ho;cases h6:x2.f with
   | true =>
    have hR2:R0=(none,x2):=by rw [hR1,if_pos h6]
    simp -dsimp [go_sem,hN,Y3.len,hlp2,h6];exact qbr Y (by simp [Y.len]) huB (by simp [hK2,hK1]) (.inl rfl) rfl hR2
   | false =>
    have hR2:R0=(none,x2):=by rw [hR1,if_neg (by simp [h6])]
    simp -dsimp [go_sem,hN,Y3.len,hlp2,h6]
    try simp -dsimp [go_sem,hN,Y3.len]
    exact qbr Y (by simp [Y.len]) huB (by simp [hK2,hK1]) (.inl rfl) rfl hR2
  ·
   dsimp only at ho;subst ho;have hfr2':j2=n0+2+(L1.length+1)∨n0+2+(L1.length+1)+1≤j2:=by simpa using hfr2
   have hjl2:j2<n0+2+(L1.length+1)+1+L2.length:=by simpa using hj2
   have hX2:VM (fun q=>K2 q++M2::L2) j2 f2 lv2:=by simpa using hVr2
   have hW2:VM (fun q=>K q++((T0++(M1::L1))++(M2::L2))) j2 f2 lv2:=by
    rw [hK2,hK1] at hX2;simpa using hX2
   cases h6:x2.f with
   | true =>
    have hR2:R0=(none,x2):=by rw [hR1,if_pos h6]
    simp -dsimp [go_sem,hN,Y3.len,hlp2,h6];exact qbr Y (by simp [Y.len]) huB (by simp [hK2,hK1]) (.inl rfl) rfl hR2
   | false =>
    have hR2:R0=(some f2,x2):=by rw [hR1,if_neg (by simp [h6])]
    simp -dsimp [go_sem,hN,Y3.len,hlp2,h6]
    try simp -dsimp [go_sem,hN,Y3.len]
    exact qcl Y (by simp [Y.len]) huB (by simp [hK2,hK1]) hW2 (by simp [hT0l];omega) (by omega) hR2
 ·
  dsimp only at ho;subst ho;have hfr1':j1=n0+2∨n0+2+1≤j1:=by simpa using hfr1
  have hjl1:j1<n0+2+1+L1.length:=by simpa using hj1
  have hX0:VM K2 j1 f1 lv1:=by
   rw [hK2];simpa using hVr1
  simp -dsimp [go_sem,hN,Y1.len,Y1.loc,Y1.loc0,hbx,hbx0,hK2q,hlp0,Y3.lp];refine cnd (fun h4=>?_) (fun h4=>?_)
  ·
   have hR2:R0=(none,x1):=by rw [← hR0,brX,if_pos h4]
   simp -dsimp [go_sem,hN,Y3.len];exact qbr Y (by simp [Y.len]) huA' (by simp [hK2,hK1]) (.inl rfl) rfl hR2
  simp -dsimp [go_sem,hN,Y3.len,hbx3,hbx4];refine awp_drawCC 10 4 [0,1,2] mixed (by kernel_rfl) ?_;simp -dsimp [go_sem,hN,Y3.len,Y3.loc,Y3.loc0,hbx2,hbx3,hbx4];refine qaj (c_pr_clone lv hV.nod (K2 x1) i (hV3.lm x1)) ?_;rintro r h' ⟨l'',hperm',rfl,rfl⟩;simp -dsimp [go_sem,hN,Y3.len,Y3.loc,Y3.loc0,hbx2,hbx3,hbx4];obtain ⟨M2,hM2⟩:∃ M2,AObj.map (kAV qcu l'')=M2:=⟨_,rfl⟩
  have hMu2:∀ n,M2.under n=true:=fun n=>by rw [← hM2];exact qdh n _
  simp only [hM2];have hu3:hUnder (n0+2+(L1.length+1) + [M2].length) [M2]=true:=by simp [hUnder,hMu2]
  have Y4:=Y3.ext [M2] hu3;have hV4:VM (fun q=>K2 q++[M2]) (n0+2+(L1.length+1)) f l'':=⟨fun q=>by
   show (K2 q++[M2])[_]?=_;rw [hM2];exact Y3.loc0 q [M2],(hperm'.map _).nodup_iff.2 hV.nod,fun k=>by rw [kGet_perm hperm' hV.nod,hV.get]⟩
  have hcall2:=hE Y4 x1 hV4 (by simp) hF;obtain ⟨⟨o2,x2⟩,hx2⟩:∃ R,exBl qbo t.els f x1=R:=⟨_,rfl⟩
  have hR1:R0=if x2.f=true then (none,x2) else (match (some f1:Option MV),o2 with
   | none,o=>o
   | some f,none=>some f
   | some f,some g=>some (joinF f g),x2):=by
   rw [← hR0,brX,if_neg (by simp [h4])];dsimp only;rw [hx2]
   all_goals rfl
  rw [hx2] at hcall2;refine qaj hcall2 ?_;rintro r h' ⟨L2,rfl,hu4,h5⟩;have huB:hUnder (n0+((T0++(M1::L1))++(M2::L2)).length) ((T0++(M1::L1))++(M2::L2))=true:=qb2 huA' (by
   have:=qb2 (A:=[M2]) hu3 hu4;simp [hT0l] at this ⊢;simpa [Nat.add_assoc] using this)
  have hlp2:∀ q,(K2 q++M2::L2)[p]?=some (.cells (xC ir iw q.f)):=fun q=>Y3.lp' q _;have hX1:=hX0.ext Y3.len (by omega) (M2::L2);have hW1:VM (fun q=>K q++((T0++(M1::L1))++(M2::L2))) j1 f1 lv1:=by
   rw [hK2,hK1] at hX1;simpa using hX1
  rcases h5 with ⟨ho,m,rfl,rfl⟩ | ⟨f2,j2,lv2,ho,rfl,hj2,hVr2,hfr2⟩
  ·
   dsimp only at ho;subst ho;cases h6:x2.f with
   | true =>
    have hR2:R0=(none,x2):=by rw [hR1,if_pos h6]
    simp -dsimp [go_sem,hN,Y3.len,hlp2,h6];exact qbr Y (by simp [Y.len]) huB (by simp [hK2,hK1]) (.inl rfl) rfl hR2
   | false =>
    have hR2:R0=(some f1,x2):=by rw [hR1,if_neg (by simp [h6])]
    simp -dsimp [go_sem,hN,Y3.len,hlp2,h6]
    try simp -dsimp [go_sem,hN,Y3.len]
    exact qcl Y (by simp [Y.len]) huB (by simp [hK2,hK1]) (f:=f1) (l:=lv1) hW1 (by simp [hT0l];omega) (by omega) hR2
  ·
   dsimp only at ho;subst ho;have hfr2':j2=n0+2+(L1.length+1)∨n0+2+(L1.length+1)+1≤j2:=by simpa using hfr2
   have hjl2:j2<n0+2+(L1.length+1)+1+L2.length:=by simpa using hj2
   have hX2:VM (fun q=>K2 q++M2::L2) j2 f2 lv2:=by simpa using hVr2
   have hW2:VM (fun q=>K q++((T0++(M1::L1))++(M2::L2))) j2 f2 lv2:=by
    rw [hK2,hK1] at hX2;simpa using hX2
   cases h6:x2.f with
   | true =>
    have hR2:R0=(none,x2):=by rw [hR1,if_pos h6]
    simp -dsimp [go_sem,hN,Y3.len,hlp2,h6];exact qbr Y (by simp [Y.len]) huB (by simp [hK2,hK1]) (.inl rfl) rfl hR2
   | false =>
    have hR2:R0=(some (joinF f1 f2),x2):=by rw [hR1,if_neg (by simp [h6])]
    simp -dsimp [go_sem,hN,Y3.len,hlp2,h6]
    try simp -dsimp [go_sem,hN,Y3.len]
    refine qaj (c_pr_join lv1 lv2 hVr1.nod (K2 x2++M2::L2) j1 j2 (by omega) (hX1.lm x2) (hX2.lm x2)) ?_;rintro r h' ⟨l2,hperm2,rfl,rfl⟩;simp -dsimp [go_sem,hN,Y3.len];have hu5:hUnder (n0+((T0++(M1::L1))++(M2::L2)).length + [AObj.map (kAV qcu l2)].length) [AObj.map (kAV qcu l2)]=true:=by simp [hUnder,qdh]
    have hu6:=qb2 huB hu5;refine qcl Y (by simp [Y.len]) hu6 (by simp [hK2,hK1]) (f:=joinF f1 f2) (l:=l2) ?_ (by simp [hT0l];omega) (by omega) hR2;refine VM.join hperm2 hVr1.nod hVr1.get hVr2.get fun q=>?_;show (K q++(((T0++(M1::L1))++(M2::L2))++[AObj.map (kAV qcu l2)]))[_]?=_;rw [← List.append_assoc,List.getElem?_append_right (by simp [Y.len,hT0l];omega)];rw [show ∀ (z:AObj) (k:Nat),k=0→[z][k]?=some z from fun z k e=>by subst e;rfl];simp [Y.len,hT0l];omega
end Go.Proofs.YtilhejdbiionhaaGreatDoor

set_option maxRecDepth 4000
set_option maxHeartbeats 4000000
namespace Go.Proofs.YtilhejdbiionhaaGreatDoor
open Go Go.Abs Go.Cw
attribute [local go_sem] AX.c
variable {tT:TypeId} {tx:Nat×Nat} {g p ir iw:Nat}
theorem c_pr_stmt (t:St) {d:Nat} (hO:okS t d) (hR:rngS t) (hB:BlSpec tT tx g p ir iw t.body) (hE:BlSpec tT tx g p ir iw t.els):StSpec tT tx g p ir iw t:=by
 intro K n0 Y x i f lv hV hi hF;refine qaq Tryz.func66 Tryz.ntmps66 rfl (by kernel_rfl) rfl fun E hN hh hu hb hb' hua=>?_;have hp:=Y.hp;obtain ⟨hXa,hXb,hRb,hRe⟩:=(qd3 t).1 hR;have oA:=fun k=>okS_a hO k;have oB:=fun k=>okS_b hO k;have hop:=okS_op hO;have hmx:=fun k=>okS_max hO k;obtain ⟨R0,hR0⟩:∃ R0,Cw.exSt qbo t f x=R0:=⟨_,rfl⟩
 rw [hR0];rw [Cw.exSt_eq] at hR0;simp -dsimp [go_sem,hN,Y.len,Y.loc,Y.loc0];have hub:hUnder (n0 + [AObj.cells t.x].length) [.cells t.x]=true:=by simp [hUnder,AObj.under,AV.under,qam]
 have hub2:∀ a:AX,hUnder (n0 + [AObj.cells t.x,.cells a.c].length) [.cells t.x,.cells a.c]=true:=fun a=>by simp [hUnder,AObj.under,AV.under,qam,AX.c]
 have hub3:∀ a b:AX,hUnder (n0 + [AObj.cells t.x,.cells a.c,.cells b.c].length) [.cells t.x,.cells a.c,.cells b.c]=true:=fun a b=>by simp [hUnder,AObj.under,AV.under,qam,AX.c]
 refine cnd ?_ ?_<;>intro h8<;>simp at h8
 ·
  rw [if_pos h8] at hR0;simp -dsimp [go_sem,hN,Y.len];exact qbr Y (by simp [Y.len]) hub (by simp) (.inl rfl) (.inl rfl) hR0.symm
 rw [if_neg h8] at hR0;simp -dsimp [go_sem,hN,Y.len,Y.loc,Y.loc0];have hcE:=c_pr_eval t.a (Y.ext _ hub) x (hV.ext Y.len hi _) (by simp;omega) hXa hF (oA h8);have hrA:=exE_rng (fmt:=qbo) qch t.a f x hXa hF;obtain ⟨⟨⟨va,ok⟩,x1⟩,hxa⟩:∃ R,exE qbo t.a f x=R:=⟨_,rfl⟩
 rw [hxa] at hcE hR0 hrA;refine qaj hcE ?_;rintro r h' ⟨rfl,rfl⟩;cases ok with
 | false =>
  simp -dsimp [go_sem,hN,Y.len,Y.loc,Y.loc0,Y.sloc,Y.sloc0];exact qbr Y (by simp [Y.len]) (hub2 va) (by simp [AX.c]) (.inl rfl) (.inl rfl) hR0.symm
 | true =>
 dsimp only at hR0 hrA;simp -dsimp [go_sem,hN,Y.len,Y.loc,Y.loc0,Y.sloc,Y.sloc0];have hua:=hub2 va;obtain ⟨T0,hT0⟩:∃ T0:qab,T0=[.cells t.x,.cells va.c]:=⟨_,rfl⟩
 have hT0l:T0.length=2:=by rw [hT0];rfl
 rw [← hT0] at hua;have Y1:=Y.ext T0 hua;have hV1:=hV.ext Y.len hi T0;obtain ⟨K1,hK1⟩:∃ K1:XS→qab,K1=fun q=>K q++T0:=⟨_,rfl⟩
 have hK1q:∀ q,K q++[.cells t.x,.cells [Bo va.known,I va.v.k,I va.v.n,S va.v.s]]=K1 q:=fun q=>by rw [hK1,hT0];rfl
 rw [← hK1,hT0l] at Y1;rw [← hK1] at hV1;have hbx:∀ q (l:qab),(K1 q++l)[n0]?=some (.cells t.x):=fun q l=>by rw [hK1,hT0];simp [Y.loc0]
 have hbx4:∀ q,(K1 q)[n0]?=some (.cells t.x):=fun q=>by simpa using hbx q []
 have hbx0:∀ q (h:n0<(K1 q).length),(K1 q)[n0]=.cells t.x:=fun q h=>by
  have:=hbx q [];rw [List.append_nil,List.getElem?_eq_getElem h] at this;exact Option.some.inj this
 have hca:∀ q (l:qab),(K1 q++l)[n0+1]?=some (.cells va.c):=fun q l=>by rw [hK1,hT0];simp [Y.loc]
 have hca4:∀ q,(K1 q)[n0+1]?=some (.cells va.c):=fun q=>by simpa using hca q []
 have hca0:∀ q (h:n0+1<(K1 q).length),(K1 q)[n0+1]=.cells va.c:=fun q h=>by
  have:=hca q [];rw [List.append_nil,List.getElem?_eq_getElem h] at this;exact Option.some.inj this
 simp only [hK1q];by_cases h12:t.op=1∨t.op=2
 ·
  rw [if_pos h12] at hR0;refine cnd ?_ ?_<;>intro h<;>simp at h
  all_goals
   try simp -dsimp [go_sem,hN,Y1.len,hbx,hbx0,hbx4,hca,hca0,hca4]
   refine cnd (fun _=>?_) (fun k=>by simp at k;omega)
   try simp -dsimp [go_sem,hN,Y1.len,hbx,hbx0,hbx4,hca,hca0,hca4]
   refine qaj (c_pr_clone lv hV1.nod (K1 x1) i (hV1.lm x1)) ?_;rintro r h' ⟨l',hperm,rfl,rfl⟩;simp -dsimp [go_sem,hN,Y1.len,Y1.loc0,Y1.sloc0,hbx,hbx0,hbx4,hca,hca0,hca4];obtain ⟨MO,hMO⟩:∃ MO,AObj.map (kAV qcu (qbz l' t.name va))=MO:=⟨_,rfl⟩
   have hMu:∀ n,MO.under n=true:=fun n=>by rw [← hMO];exact qdh n _
   have hMO2:AObj.map (kAV qcu (qbz l' t.name ⟨va.known,⟨va.v.k,va.v.n,va.v.s⟩⟩))=MO:=hMO;simp only [hMO2];have hu3:hUnder (n0+T0.length + [MO].length) [MO]=true:=by simp [hUnder,hMu]
   refine qcl Y (by simp [Y.len]) (qb2 hua hu3) (by simp [hK1]) (f:=updF f t.name va) (l:=qbz l' t.name va) (VM.upd hperm hV1.nod hV1.get fun q=>?_) (by simp [hT0l]) (.inr (by omega)) hR0.symm;show (K q++(T0++[MO]))[_]?=_;rw [hMO,← List.append_assoc,List.getElem?_append_right (by simp [Y.len,hT0l])];simp [Y.len,hT0l]
 rw [if_neg h12] at hR0;have h12':¬ t.op=1∧¬ t.op=2:=by omega
 refine cnd (fun k=>by simp [h12'] at k) (fun _=>?_)
 try simp -dsimp [go_sem,hN,h12'.1,h12'.2]
 have hvars:VM (fun q=>K q++T0) i f lv:=hV.ext Y.len hi T0;refine cnd ?_ ?_<;>intro h7<;>simp at h7
 ·
  rw [if_pos h7] at hR0;simp -dsimp [go_sem,hN,Y1.len];exact qcl Y (by simp [Y.len]) hua (by simp [hK1]) hvars (by omega) (.inl rfl) hR0.symm
 rw [if_neg h7] at hR0;simp -dsimp [go_sem,hN,Y1.len,hbx,hbx0,hbx4];refine cnd ?_ ?_<;>intro h4<;>simp at h4
 ·
  rw [if_pos h4] at hR0;have hkey:ACalls Tryz.prog 106 [.ptr p 0,.agg [Bo va.known,I va.v.k,I va.v.n,S va.v.s],.mapr iw] (K1 x1) fun r h'=>r=.ret (Bo (keyX true va x1).1)∧h'=K1 (keyX true va x1).2:=by simpa using c_pr_key Y1 true va x1
  obtain ⟨⟨b,x2⟩,hkx⟩:∃ R,keyX true va x1=R:=⟨_,rfl⟩
  rw [hkx] at hkey hR0;simp -dsimp [go_sem,hN,Y1.len,hca,hca0,hca4];refine qea 8 7 [0] mixed (by kernel_rfl) ?_;simp -dsimp [go_sem,hN,Y1.lp,Y1.len,hca,hca0,hca4];refine qdr hkey ?_;cases b with
  | true =>
   simp -dsimp [go_sem,hN,Y1.len,hca,hca0,hca4];exact qcl Y (by simp [Y.len]) hua (by simp [hK1]) hvars (by omega) (.inl rfl) hR0.symm
  | false =>
   simp -dsimp [go_sem,hN,Y1.len,hca,hca0,hca4];exact qbr Y (by simp [Y.len]) hua (by simp [hK1]) (.inr ⟨i,rfl,by omega⟩) (.inr rfl) hR0.symm
 rw [if_neg h4] at hR0;simp -dsimp [go_sem,hN,Y1.len,hbx,hbx0,hbx4];refine cnd ?_ ?_<;>intro h5<;>simp at h5
 ·
  rw [if_pos h5] at hR0;have hcall:=c_pr_branch t hB hE hRb hRe Y1 x1 hV1 (by omega) hF va;rw [show brR t va f x1=R0 from hR0] at hcall;simp -dsimp [go_sem,hN,Y1.len,hbx,hbx0,hbx4,hca,hca0,hca4];refine qaj hcall ?_;intro r h' hres;obtain ⟨L,rfl,hu,h3⟩:=hres;have hM:=qb2 (B:=L) hua (by rw [hT0l];exact hu);rcases h3 with ⟨ho,m,rfl,rfl⟩ | ⟨f',j',lv',ho,rfl,hj',hV',hfr'⟩
  ·
   simp -dsimp [go_sem,hN,Y1.len];exact qbr Y (by simp [Y.len]) hM (by simp [hK1]) (.inl rfl) (.inl rfl) (Prod.ext ho rfl)
  ·
   have hV2:VM (fun q=>K q++(T0++L)) j' f' lv':=by
    rw [hK1] at hV';simpa using hV'
   simp -dsimp [go_sem,hN,Y1.len];exact qcl Y (by simp [Y.len]) hM (by simp [hK1]) hV2 (by simp [hT0l];omega) (by omega) (Prod.ext ho rfl)
 rw [if_neg h5] at hR0;have h36:t.op=3∨t.op=6:=by omega
 simp -dsimp [go_sem,hN,Y1.len,hbx,hbx0,hbx4];have hcF:=c_pr_eval t.b Y1 x1 hV1 (by omega) hXb hF (oB h36);have hrB:=exE_rng (fmt:=qbo) qch t.b f x1 hXb hF;obtain ⟨⟨⟨vb,ok⟩,x2⟩,hxb⟩:∃ R,exE qbo t.b f x1=R:=⟨_,rfl⟩
 rw [hxb] at hcF hR0 hrB;refine qaj hcF ?_;rintro r h' ⟨rfl,rfl⟩;obtain ⟨T1,hT1⟩:∃ T1:qab,T1=T0++[.cells vb.c]:=⟨_,rfl⟩
 have hT1l:T1.length=3:=by rw [hT1];simp [hT0l]
 have hub4:hUnder (n0+T1.length) T1=true:=by rw [hT1];exact qb2 hua (by simp [hUnder,AObj.under,AV.under,qam,AX.c])
 cases ok with
 | false =>
  simp -dsimp [go_sem,hN,Y1.len,Y1.sloc0];exact qbr Y (by simp [Y.len]) hub4 (by simp [hK1,hT1,AX.c]) (.inl rfl) (.inl rfl) hR0.symm
 | true =>
 dsimp only at hR0 hrB;have Y2:=Y.ext T1 hub4;have hV2:=hV.ext Y.len hi T1;obtain ⟨K2,hK2⟩:∃ K2:XS→qab,K2=fun q=>K q++T1:=⟨_,rfl⟩
 have hK2q:∀ q,K1 q++[.cells [Bo vb.known,I vb.v.k,I vb.v.n,S vb.v.s]]=K2 q:=fun q=>by rw [hK2,hK1,hT1];simp [AX.c]
 rw [← hK2,hT1l] at Y2;rw [← hK2] at hV2;have hby:∀ q (l:qab),(K2 q++l)[n0]?=some (.cells t.x):=fun q l=>by rw [hK2,hT1];simpa [hK1] using hbx q (.cells vb.c::l)
 have hcy:∀ q (l:qab),(K2 q++l)[n0+1]?=some (.cells va.c):=fun q l=>by rw [hK2,hT1];simpa [hK1] using hca q (.cells vb.c::l)
 have hcz:∀ q (l:qab),(K2 q++l)[n0+2]?=some (.cells vb.c):=fun q l=>by
  rw [hK2,hT1];simp [Y.loc,List.getElem?_append_right,hT0l]
 have hg:∀ {q:XS} {k:Nat} {o:AObj},(K2 q++[])[k]?=some o→(K2 q)[k]?=some o:=fun h=>by simpa using h
 have hg2:∀ {q:XS} {k:Nat} {o:AObj},(K2 q++[])[k]?=some o→∀ h:k<(K2 q).length,(K2 q)[k]=o:=fun h h'=>by
  rw [List.append_nil,List.getElem?_eq_getElem h'] at h;exact Option.some.inj h
 have hby0:=fun q=>hg2 (hby q []);have hby4:=fun q=>hg (hby q []);have hcy0:=fun q=>hg2 (hcy q []);have hcy4:=fun q=>hg (hcy q []);have hcz0:=fun q=>hg2 (hcz q []);have hcz4:=fun q=>hg (hcz q []);have hvars2:VM (fun q=>K q++T1) i f lv:=hV.ext Y.len hi T1;simp -dsimp [go_sem,hN,Y1.len,Y1.sloc0,hK2q];simp -dsimp [go_sem,hN,Y2.len,hby,hby0,hby4];refine cnd ?_ ?_<;>intro h3<;>simp at h3
 ·
  rw [if_pos h3] at hR0;have hkey:ACalls Tryz.prog 106 [.ptr p 0,.agg [Bo va.known,I va.v.k,I va.v.n,S va.v.s],.mapr iw] (K2 x2) fun r h'=>r=.ret (Bo (keyX true va x2).1)∧h'=K2 (keyX true va x2).2:=by simpa using c_pr_key Y2 true va x2
  obtain ⟨⟨b,x3⟩,hkx⟩:∃ R,keyX true va x2=R:=⟨_,rfl⟩
  rw [hkx] at hkey hR0;simp -dsimp [go_sem,hN,Y2.len,hcy,hcy0,hcy4];refine qea 8 7 [0] mixed (by kernel_rfl) ?_;simp -dsimp [go_sem,hN,Y2.lp,Y2.len,hcy,hcy0,hcy4];refine qdr hkey ?_;cases b with
  | true =>
   simp -dsimp [go_sem,hN,Y2.len,hcy,hcy0,hcy4];exact qcl Y (by simp [Y.len]) hub4 (by simp [hK2]) hvars2 (by omega) (.inl rfl) hR0.symm
  | false =>
   simp -dsimp [go_sem,hN,Y2.len,hcy,hcy0,hcy4];exact qbr Y (by simp [Y.len]) hub4 (by simp [hK2]) (.inr ⟨i,rfl,by omega⟩) (.inr rfl) hR0.symm
 rw [if_neg h3] at hR0;have h6:t.op=6:=by omega
 simp -dsimp [go_sem,hN,Y2.len,hcy,hcy0,hcy4,hcz,hcz0,hcz4]
 repeat refine ⟨by grind,?_⟩
 refine cnd ?_ ?_<;>intro h1<;>simp at h1
 ·
  rw [if_pos h1] at hR0;have hcall:=c_pr_counted t hB hRb Y2 x2 hV2 (by omega) hF va.v.n vb.v.n hrA.1 hrB.1;rw [show cntR t va.v.n vb.v.n f x2=R0 from hR0] at hcall;simp -dsimp [go_sem,hN,Y2.len,hby,hby0,hby4,hcy,hcy0,hcy4,hcz,hcz0,hcz4];refine qaj hcall ?_;intro r h' hres;obtain ⟨L,rfl,hu,h3⟩:=hres;have hM:=qb2 (B:=L) hub4 (by rw [hT1l];exact hu);rcases h3 with ⟨ho,m,rfl,rfl⟩ | ⟨f',j',lv',ho,rfl,hj',hV',hfr'⟩
  ·
   simp -dsimp [go_sem,hN,Y2.len];exact qbr Y (by simp [Y.len]) hM (by simp [hK2]) (.inl rfl) (.inl rfl) (Prod.ext ho rfl)
  ·
   have hV2:VM (fun q=>K q++(T1++L)) j' f' lv':=by
    rw [hK2] at hV';simpa using hV'
   simp -dsimp [go_sem,hN,Y2.len];exact qcl Y (by simp [Y.len]) hM (by simp [hK2]) hV2 (by simp [hT1l];omega) (by omega) (Prod.ext ho rfl)
 ·
  rw [if_neg (by simp;exact h1)] at hR0;have hcall:=c_pr_repeated t hB hRb Y2 x2 hV2 (by omega) hF (by have:=(hmx h6).2;omega);rw [hR0] at hcall;simp -dsimp [go_sem,hN,Y2.len,hby,hby0,hby4,hcy,hcy0,hcy4,hcz,hcz0,hcz4];refine qaj hcall ?_;intro r h' hres;obtain ⟨L,rfl,hu,h3⟩:=hres;have hM:=qb2 (B:=L) hub4 (by rw [hT1l];exact hu);rcases h3 with ⟨ho,m,rfl,rfl⟩ | ⟨f',j',lv',ho,rfl,hj',hV',hfr'⟩
  ·
   simp -dsimp [go_sem,hN,Y2.len];exact qbr Y (by simp [Y.len]) hM (by simp [hK2]) (.inl rfl) (.inl rfl) (Prod.ext ho rfl)
  ·
   have hV2:VM (fun q=>K q++(T1++L)) j' f' lv':=by
    rw [hK2] at hV';simpa using hV'
   simp -dsimp [go_sem,hN,Y2.len];exact qcl Y (by simp [Y.len]) hM (by simp [hK2]) hV2 (by simp [hT1l];omega) (by omega) (Prod.ext ho rfl)
end Go.Proofs.YtilhejdbiionhaaGreatDoor

set_option maxRecDepth 4000
set_option maxHeartbeats 4000000
namespace Go.Proofs.YtilhejdbiionhaaGreatDoor
open Go Go.Abs Go.Cw
variable {tT:TypeId} {tx:Nat×Nat} {g p ir iw:Nat}
mutual
theorem c_pr_st:∀ (t:St) (d:Nat),okS t d→rngS t→StSpec tT tx g p ir iw t
 | .mk op name mx a b body els,d,hO,hR=>by
  have h1:=(qcm _ _).1 hO;have h2:=(qd3 _).1 hR;simp only [St.body,St.els] at h1 h2;exact c_pr_stmt _ hO hR (c_pr_blk body (d+1) h1.2.1 h2.2.2.1) (c_pr_blk els (d+1) h1.2.2 h2.2.2.2)
theorem c_pr_all:∀ (l:List St) (d:Nat),okL l d→(∀ t∈l,rngS t)→∀ t∈l,StSpec tT tx g p ir iw t
 | [],_,_,_,t,h=>by cases h
 | s::l,d,hO,hR,t,h=>by
  by_cases e:t=s
  ·
   rw [e];exact c_pr_st s d (hO s (by simp)) (hR s (by simp))
  · exact c_pr_all l d (fun x hx=>hO x (by simp [hx])) (fun x hx=>hR x (by simp [hx])) t ((List.mem_cons.1 h).resolve_left e)
theorem c_pr_blk:∀ (l:List St) (d:Nat),okL l d→(∀ t∈l,rngS t)→BlSpec tT tx g p ir iw l
 | l,d,hO,hR=>c_pr_block l (c_pr_all l d hO hR) hR
end
end Go.Proofs.YtilhejdbiionhaaGreatDoor

set_option maxRecDepth 8000
namespace Go.Proofs.YtilhejdbiionhaaGreatDoor
open Go Go.Abs Go.Shelf Go.Lib
def renT:Ren:=⟨fun
 | 190=>67 | 125=>111 | 258=>110 | 128=>165 | 129=>166 | 302=>157 | 303=>158 | 304=>159 | 305=>160 | 306=>161 | 307=>162 | 308=>125 | 309=>163 | 310=>164 | 333=>204 | 329=>205 | 330=>206 | 334=>207 | 335=>208 | 336=>179 | 344=>251 | x=>x,
 fun | 0=>0 | 3=>3 | 4=>4 | 5=>5 | 9=>9 | 31=>30 | 46=>148 | 51=>200 | 53=>202 | 131=>114 | 182=>193 | 183=>194 | 218=>238 | 222=>242 | 228=>270 | 229=>271 | x=>x,fun x=>x⟩
theorem laysT:Lays.n190 Tryz.prog renT:=by
 constructor<;>first | exact fun _=>by kernel_rfl | kernel_rfl
end Go.Proofs.YtilhejdbiionhaaGreatDoor

set_option maxRecDepth 4000
set_option maxHeartbeats 2000000
namespace Go.Proofs.YtilhejdbiionhaaGreatDoor
open Go Go.Abs Go.Cw
theorem c_sortStr {h:qab} {i:Nat} {l:List qac} (hi:h[i]?=some (.uarr 9 1 (l.map qa1))) :
  ACalls Tryz.prog 67 [.own i l.length] h fun r h'=>r=.ret (.tuple [])∧h'=h.set i (.uarr 9 1 ((qdo l).map qa1)) :=
 acalls_sortS (ρ:=renT) laysT ⟨Tryz.f67,Tryz.func67,by kernel_rfl,by kernel_rfl⟩ hi
theorem c_pr_sorted0 (l:List qac) (hn:l.Nodup) (hl:l.length<68719476736) (h:qab) (i:Nat) (hi:h[i]?=some (.map (kAV boAV (tru l)))) :
  ACalls Tryz.prog 36 [.mapr i] h fun r h'=>r=.ret (.own h.length (qdo l).length)∧h'=h++[.uarr 9 1 ((qdo l).map qa1)]:=by
 refine acalls_introB Tryz.func36 rfl (by kernel_rfl) (by simp [Tryz.ntmps36]) ?_;intro E hN hh hu hb hb' hua;rw [Tryz.ntmps36] at hN;have hil:i<h.length:=(List.getElem?_eq_some_iff.1 hi).1;obtain ⟨ML,hML⟩:∃ ML,(tru l).map (fun p=>(p.1,boAV p.2))=ML:=⟨_,rfl⟩
 have hMl:ML.length=l.length:=by rw [← hML];simp
 have hMj:∀ j (hj:j<ML.length),ML[j]=(l[j]'(by omega),Bo true):=fun j hj=>by subst hML;simp [boAV]
 have hi':h[i]?=some (.map (qbv ML)):=by rw [hi,kAV,hML]
 have hML2:∀ (mb:Nat) (bs:List Nat) (clock:Nat),AObj.under (h.length+2) (frzO mb ML bs clock)=true:=fun mb bs clock=>by
  subst hML;simp [AObj.under,qbh,boAV,go_sem]
 refine qbg (awp_ops ?_);simp [go_sem,hN];refine qbg (qay _ _ _ ?_);simp -dsimp [go_sem,hN];refine AWp.wk (nilu_wk E _ 3 9 1 (by simp [go_sem])) ?_;simp [go_sem];refine qbg ?_;refine qbg (awp_opsT [_] _ ?_);simp [go_sem,hN];refine aops_rangeM (i:=i) (kt:=9) (et:=4) (l:=ML) rfl (by simp [qdy,hN]) rfl (by simp [go_sem]) (by simp [go_sem]) (by simp [go_sem]) (by simp only [];rw [List.getElem?_append_left hil];exact hi') ?_;intro mb bs clock g hf;refine aops_nil ?_;simp [go_sem,AExit.then];have hset0:(h++[AObj.uarr 9 1 []]).set i (frzO mb ML bs clock)=h.set i (frzO mb ML bs clock)++[.uarr 9 1 []]:=List.set_append_left _ _ hil;rw [hset0,List.append_assoc];have hset:∀ {A B C:AObj},(h.set i (frzO mb ML bs clock)++[A,B]).set (h.length+1) C=h.set i (frzO mb ML bs clock)++[A,C]:=fun {A B C}=>by simp [List.set_append]
 have hfi:∀ {A:List AObj},(h.set i (frzO mb ML bs clock)++A)[i]?=some (frzO mb ML bs clock):=fun {A}=>by rw [List.getElem?_append_left (by simpa using hil),List.getElem?_set_self hil]
 have hw:∀ {A B:AObj},(h.set i (frzO mb ML bs clock)++[A,B])[h.length+1]?=some B:=fun {A B}=>by simp
 refine awp_mloop hf (i:=i) (k0:=h.length+1) (mb:=mb) (g:=g) (fun js=>⟨[(3,.own h.length (pickL l js).length),(6,.ptr (h.length+1) 0)],h.set i (frzO mb ML bs clock)++[.uarr 9 1 ((pickL l js).map qa1),itO g mb clock (js.map fun j=>bs.getD j 0) clock]⟩) (by omega) (by omega) (by omega) (fun js=>⟨by simp [go_sem],hfi,hw⟩) (Wk.same rfl (by simp [wkZ,go_sem,pickL])) (fun js hp=>?_) (fun js j hj hnd hlt hno=>?_)
 ·
  have hperm:=pickL_perm (l:=l) (js:=js) (by rw [← hMl];exact hp);simp [go_sem,AExit.then];refine AWp.wk (thaw_wk _ (i:=i) hf hfi) ?_;simp only [];rw [List.set_append_left _ _ (by simpa using hil),List.set_set,qcz hi'];apply qay;simp -dsimp [go_sem,hN];refine qaj (c_sortStr (l:=pickL l js) (i:=h.length) (by simp)) ?_;rintro r h' ⟨rfl,rfl⟩;rw [sortS_perm hperm];have hs2:∀ X Y W:AObj,(h++[X,Y]).set h.length W=h++[W,Y]:=fun X Y W=>by simp
  rw [hs2];have hll:(pickL l js).length=(qdo l).length:=by rw [hperm.length_eq,sortS_len]
  simp -dsimp [go_sem,hN];exact ⟨_,.refl _,h++[.uarr 9 1 ((qdo l).map qa1)],by simp [go_sem],by simp [go_sem,hwk_app],by simp,by simp [qal hu,go_sem],by rw [hll],rfl⟩
 ·
  have hj2:j<l.length:=by omega
  simp only [hset];refine awp_block ?_;refine qbg (qdw ?_);refine aops_entryM (i:=i) (k0:=h.length+1) (mb:=mb) (g:=g) (since:=clock) (clock:=clock) (seen:=js.map fun j=>bs.getD j 0) rfl (by simp [qdy,hN]) rfl (by simp [go_sem,hN]) (by simp [go_sem]) hf hfi j hj (by rw [hf.len];exact hj) (by
   have:bs.getD j 0=bs[j]'(by rw [hf.len];exact hj):=by rw [List.getD_eq_getElem?_getD,List.getElem?_eq_getElem (by rw [hf.len];exact hj)];rfl
   rw [← this];simp only [Env.put,hw];simp) ?_
  refine qcb [_,_] [_] _ rfl ?_;have hpl:(pickL l js).length<l.length:=by
   have h1:=len_lt l.length (js++[j]) (List.nodup_append.2 ⟨hnd,by simp,fun a ha b hb=>by simp at hb;subst hb;rintro rfl;exact hno ha⟩) (fun x hx=>by
    rcases List.mem_append.1 hx with hx | hx
    · have:=hlt x hx;omega
    · simp at hx;omega)
   have h2:(pickL l js).length≤js.length:=List.length_filterMap_le _ _;simp at h1;omega
  rw [hMj j hj];simp [go_sem,hN,AExit.then];apply qay;simp -dsimp [go_sem,hN];rw [pickL_snoc hj2,List.length_append,List.length_singleton,List.map_append];refine ⟨by omega,Wk.mk (by simp [hh]) (by simp [go_sem,hwk_app]) ?_ (by simp [go_sem])⟩;rw [qan];have h1:hUnder (h.length+2) (h.set i (frzO mb ML bs clock))=true:=qcc (qas (by omega) hu) (hML2 mb bs clock);simp [h1,go_sem]
theorem c_pr_sorted (l:List qac) (hn:l.Nodup) (hl:l.length<68719476736) (h:qab) (i:Nat) (hi:h[i]?=some (.map (kAV boAV (tru l)))) :
  ACalls Tryz.prog 36 [.mapr i] h fun r h'=>r=.ret (.slice ((qdo l).map qa1))∧h'=h:=by
 have hcore:=c_pr_sorted0 l hn hl h i hi;refine ⟨hcore.1,fun cx wx vx hsx hax=>?_⟩;have hu:=hsx.hUnder;refine (acalls_ret (fun E hE=>?_) hcore).2 cx wx vx hsx hax;refine (qd5 E _ (i:=h.length) (t:=9) (sz:=1) (rows:=(qdo l).map qa1) (by simp)).trans ((norm_wk E _).trans (Wk.mk (by simp [hE]) (by simpa [go_sem] using hwk.app0 _) (by simpa using hu) (by simp [go_sem,AV.norm,wkT])))
end Go.Proofs.YtilhejdbiionhaaGreatDoor

set_option maxRecDepth 4000
set_option maxHeartbeats 2000000
namespace Go.Proofs.YtilhejdbiionhaaGreatDoor
open Go Go.Abs Go.Cw
theorem c_Clone_S (l:List qac):APure Tryz.prog 51 [.slice (l.map qa1)] (.slice (l.map qa1)):=by
 refine apure_introB Tryz.func51 rfl (by kernel_rfl) (by simp [Tryz.ntmps51]) rfl ?_;intro E h hN hh hu hb;rw [Tryz.ntmps51] at hN;simp [go_sem] at hb;refine qbg (awp_ops ?_);simp [go_sem,hN];refine qbg (qbg (awp_opsT [_] _ ?_));simp [go_sem,hN];intro c a w s k;refine wp_eqnil s (el:=9) (sz:=1) (x:=.tmp 3) (rows:=l.map qa1) (d1:=4) rfl rfl (by omega) rfl (by simp [go_sem]) (by simp [go_sem]) (by simp [go_sem]) fun b a' hbn s'=>?_;refine qcw _ [_,_] _ rfl ?_ c a' w s' k;simp [go_sem,hN];cases b with
 | true =>
  have hl:l=[]:=by simpa using hbn rfl
  subst hl;apply qay;simp -dsimp [go_sem,hN]
 | false =>
  refine awp_cond (x:=.tmp 4) (b:=false) (by simp [go_sem]) (fun h=>by cases h) (fun _=>awp_skip ?_);simp only [then_normal];refine qbg (awp_opsT [] _ ?_);simp [go_sem,hN];intro c a w s k;refine wp_lit0 s k (el:=9) (sz:=1) (d1:=5) rfl rfl (by omega) rfl (by simp [go_sem]) (by simp [go_sem]) (by simp [go_sem]) (by omega) fun c' a' w' s' k'=>?_;refine qcw _ [_] _ rfl ?_ c' a' w' s' k';simp [go_sem,hN];refine ⟨hb.1,?_⟩;apply qay;simp -dsimp [go_sem,hN]
theorem c_fp_Of (e:Eff):APure Tryz.prog 19 [.agg e.c] (.agg (ftOf e).c):=by
 refine qap Tryz.func19 Tryz.ntmps19 rfl (by kernel_rfl) rfl rfl fun E h hN hh hu hb=>?_;simp -dsimp [go_sem,hN,Eff.c];refine qak 5 mixed (by kernel_rfl) (by kernel_rfl) ?_;simp -dsimp [go_sem,hN,Eff.c];refine qa9 (c_Clone_S e.reads) (by simp) ?_;simp -dsimp [go_sem,hN];refine qaa (c_Clone_S e.puts) ?_;simp -dsimp [go_sem,hN,Foot.c]
theorem c_predict_fits (p:Proc) (args:List V):APure Tryz.prog 30 [.agg p.c,.slice (args.map V.c)] (Bo (decide (qbn p=0)&&decide (qcp p args=0))):=by
 refine qap Tryz.func30 Tryz.ntmps30 rfl (by kernel_rfl) rfl rfl fun E h hN hh hu hb=>?_;simp -dsimp [go_sem,hN];refine qaa (c_cost_Check p) ?_;simp -dsimp [go_sem,hN];refine qaf (c_types_Args p args) (by simp) ?_;simp -dsimp [go_sem,hN]
variable {tT:TypeId} {tx:Nat×Nat} {g:Nat}
theorem c_predict_Recon (p:Proc) (args:List V) (st:List Pr) (h:qab) (hg:h[g]?=some (tabO tT tx)) (hI:RunIn qbo p args st) :
  ACalls Tryz.prog 10 [.agg p.c,.slice (args.map V.c),.slice (st.map Pr.c)] h fun r h'=>r=.ret (.tuple [.agg (reconS qbo p args st).1.c,I (reconS qbo p args st).2])∧h'=h:=by
 refine qaq Tryz.func10 Tryz.ntmps10 rfl (by kernel_rfl) rfl fun E hN hh hu hb hb' hua=>?_;have hgl:g<h.length:=(List.getElem?_eq_some_iff.1 hg).1;have hg':∀ l:qab,(h++l)[g]?=some (tabO tT tx):=fun l=>by rw [List.getElem?_append_left hgl];exact hg
 have hfree:=fun H hH=>c_interp_Free (g:=g) (tT:=tT) (tx:=tx) p args st H hH hI;obtain ⟨X,hX⟩:∃ X,runS qbo p args st ⟨true,[],[]⟩=X:=⟨_,rfl⟩
 have hR:reconS qbo p args st=if qbn p≠0∨qcp p args≠0∨qc1 st=false then (⟨false,[],[]⟩,1) else (ftOf X,0):=by rw [← hX];rfl
 simp only [hX] at hfree;obtain ⟨R,hR2⟩:∃ R,reconS qbo p args st=R:=⟨_,rfl⟩
 rw [hR2] at hR ⊢;simp -dsimp [go_sem,hN];refine qaa (c_predict_fits p args) ?_;simp -dsimp [go_sem,hN];refine qaf (c_state_Valid st) (by simp) ?_;simp -dsimp [go_sem,hN];refine cnd ?_ ?_<;>intro h0<;>simp at h0
 ·
  rw [if_pos (by grind)] at hR;subst hR;simp -dsimp [go_sem,hN,Foot.c];exact ⟨_,.refl _,h,by simp [go_sem],hwk.app0 _,Nat.le_refl _,hu,rfl,rfl⟩
 ·
  rw [if_neg (by grind)] at hR;subst hR;simp -dsimp [go_sem,hN];refine qaj (hfree _ (hg' _)) ?_;rintro r h' ⟨rfl,rfl⟩;simp -dsimp [go_sem,hN];refine qaa (c_fp_Of X) ?_;simp -dsimp [go_sem,hN,Foot.c];exact ⟨_,.refl _,h,by simp [go_sem],hwk.app0 _,Nat.le_refl _,hu,rfl,rfl⟩
end Go.Proofs.YtilhejdbiionhaaGreatDoor
