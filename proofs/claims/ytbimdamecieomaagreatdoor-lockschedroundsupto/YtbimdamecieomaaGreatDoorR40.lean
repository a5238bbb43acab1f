/- Part 40 of a proof. -/
import Derived.Test.YtbimdamecieomaaGreatDoorR35
set_option linter.all false
set_option maxRecDepth 4000
namespace Go.Proofs.YtbimdamecieomaaGreatDoor
open Go Go.Abs Go.Cw Tryz
section
variable {c a b d:Nat} {H:TS→gz} {n0:Nat}
theorem xkj(T:TH c a b d H n0)(s:TS)(name:g9)(ty:Int) :
  ACalls prog 203 [.ptr c 0,S name,I ty] (H s) fun r h'=>r=.ret (.tuple [])∧h'=H (s.decl name ty):=by
 refine lw func203 ntmps203 rfl ac rfl fun E hN hh hu hb il kr=>?_;simp-dsimp[go_sem,hN,T.lc,T.la,T.ld,T.sa,T.sd];exact⟨_,.refl _,H (s.decl name ty),rfl,by simp[TS.decl],bv,T.und' _,rfl,rfl⟩
theorem jkk(T:TH c a b d H n0)(s:TS)(t:St)(hA:t.op≠8→mg t.a 1=0)(hB:t.op=3∨t.op=6→mg t.b 1=0) :
  ACalls prog 290 [.ptr c 0,.agg t.x] (H s) fun r h'=>r=.ret (.tuple [I (ki s.visible t).1,I (ki s.visible t).2.1,I (ki s.visible t).2.2])∧h'=H s:=by
 refine lw func290 ntmps290 rfl ac rfl fun E hN hh hu hb il kr=>?_;simp-dsimp[go_sem,hN];refine gy ?_ ?_<;>intro h0<;>simp at h0
 ·simp-dsimp[go_sem,hN];rw[ki,if_pos h0];exact⟨_,.refl _,H s,rfl,ae,ae,hu,rfl,rfl⟩
 simp-dsimp[go_sem,hN];refine xae 11 6 [] mixed ac ?_;simp-dsimp[go_sem,hN,T.lc',T.la'];refine xaw (xkx s.visible t.a 1 (hA h0) _ a (T.la' s _)) ?_;simp-dsimp[go_sem,hN];refine⟨ax,?_⟩;refine gy ?_ ?_<;>intro h1<;>simp at h1
 ·simp-dsimp[go_sem,hN];refine xae 11 6 [] mixed ac ?_;simp-dsimp[go_sem,hN,T.lc',T.la'];refine xaw (xkx s.visible t.b 1 (hB h1.2) _ a (T.la' s _)) ?_;simp-dsimp[go_sem,hN];rw[ki,if_neg h0,if_pos h1];exact⟨_,.refl _,H s,rfl,ae,ae,hu,rfl,rfl⟩
 ·simp-dsimp[go_sem,hN];rw[ki,if_neg h0,if_neg (by rintro⟨h2,h3⟩;have:=h1 h2;omega)];exact⟨_,.refl _,H s,rfl,ae,ae,hu,rfl,rfl⟩
set_option maxHeartbeats 4000000 in
mutual
theorem qff{H:TS→gz}{n0:Nat}(T:TH c a b d H n0)(s:TS)(l:List St)(dp:Nat)(hl:x6 l dp) :
  ACalls prog 205 [.ptr c 0,.slice (l.map St.c)] (H s) fun r h'=>r=.ret (I (qpq l s).1)∧h'=H (qpq l s).2:=by
 refine lw func205 ntmps205 rfl ac rfl fun E hN hh hu hb il kr=>?_;simp[go_sem]at hb;simp-dsimp[go_sem,hN];refine pa (α:=TS) l.length (fun n x=>km (l.drop n) x=km l s) (fun n x=>⟨[(0,.ptr c 0),(1,.slice (l.map St.c)),(10,.slice (l.map St.c)),(11,I l.length),(12,I n)],H x⟩) s ae (Wk.mk qg1 af (T.und' _) qfz) ?_;intro n x hn hI;have hw:=iv hn hb.1;simp-dsimp[go_sem,hN];refine gy ?_ ?_<;>intro hc<;>simp at hc
 ·rw[ji hc,km]at hI;have ib:SizeOf.sizeOf l[n]<SizeOf.sizeOf l:=fj (c9 hc);simp-dsimp[go_sem,hN,hc];refine it (jau (T.ext [.cells l[n].x] af) x l[n] dp (hl _ (c9 hc))) ?_;rintro r h' ⟨rfl,rfl⟩;simp-dsimp[go_sem,hN];refine gy ?_ ?_<;>intro h1<;>simp at h1
  ·rw[if_pos h1]at hI;simp-dsimp[go_sem,hN];rw[qpq,m8,←hI,if_pos h1];exact⟨_,.refl _,H (um l[n] x).2,rfl,ae,bv,T.und' _,rfl,rfl⟩
  ·rw[if_neg av]at hI;simp-dsimp[go_sem,hN,hw];exact⟨hc,_,hI,Wk.mk qg1 af (T.und' _) qfz⟩
 rw[cv aa,km]at hI;simp-dsimp[go_sem,hN];refine pa (α:=List (g9×Int)) l.length (fun n v=>qrp (l.drop n) v=qrp l x.visible) (fun n v=>⟨[(0,.ptr c 0),(23,.slice (l.map St.c)),(24,I l.length),(25,I n)],H ⟨v,x.loops,x.all⟩⟩) x.visible ae (Wk.mk qg1 af (T.und' _) qfz) ?_;intro n v hn hJ;have hw:=iv hn hb.1;simp-dsimp[go_sem,hN];refine gy ?_ ?_<;>intro hc<;>simp at hc
 ·rw[ji hc,qrp]at hJ;simp-dsimp[go_sem,hN,hc];refine gy ?_ ?_<;>intro h1<;>simp at h1
  ·rw[if_pos h1]at hJ;simp-dsimp[go_sem,hN];refine kf 6 mixed ac ac ?_;simp-dsimp[go_sem,hN,T.lc',T.la',T.sa',hw];exact⟨hc,_,hJ,Wk.mk qg1 af (T.und' _) qfz⟩
  ·rw[if_neg h1]at hJ;simp-dsimp[go_sem,hN,hw];exact⟨hc,_,hJ,Wk.mk qg1 af (T.und' _) qfz⟩
 ·rw[cv aa,qrp]at hJ;simp-dsimp[go_sem,hN];rw[qpq,m8,←hI,if_neg ae,hJ];exact⟨_,.refl _,H ⟨qrp l x.visible,x.loops,x.all⟩,rfl,ae,bv,T.und' _,rfl,rfl⟩
termination_by SizeOf.sizeOf l
theorem jau{H:TS→gz}{n0:Nat}(T:TH c a b d H n0)(s:TS)(t:St)(dp:Nat)(ht:tv t dp) :
  ACalls prog 255 [.ptr c 0,.agg t.x] (H s) fun r h'=>r=.ret (I (um t s).1)∧h'=H (um t s).2:=by
 refine lw func255 ntmps255 rfl ac rfl fun E hN hh hu hb il kr=>?_;simp-dsimp[go_sem,hN];refine it (jkk (T.ext [.cells t.x] af) s t ?_ ?_) ?_
 ·exact fun h0=>qw6 ht h0
 ·exact fun h0=>qyb ht h0
 rintro r h' ⟨rfl,rfl⟩;have s6:=((xc t dp).1 ht).2.1;have qns:=((xc t dp).1 ht).2.2;have lt1:=St.body_le t;have lt2:=St.els_le t;have lb0:∀(s:TS) (l:gz),(H s++l).length=n0+l.length:=fun s l=>by rw[cz,T.len]
 rw[qyd,qsx];simp-dsimp[go_sem,hN];refine gy ?_ ?_<;>intro h1<;>simp at h1
 ·rw[if_pos h1];simp-dsimp[go_sem,hN];exact⟨_,.refl _,H s,rfl,ae,ae,hu,rfl,rfl⟩
 rw[if_neg av];simp-dsimp[go_sem,hN];refine gy ?_ ?_<;>intro h2<;>simp at h2
 ·rw[if_pos h2];simp-dsimp[go_sem,hN];refine it (xkj (T.ext [.cells t.x] af) s t.name _) ?_;rintro r h' ⟨rfl,rfl⟩;simp-dsimp[go_sem,hN];exact⟨_,.refl _,H (s.decl t.name (ki s.visible t).1),rfl,ae,bv,T.und' _,ak,ak⟩
 rw[if_neg h2];simp-dsimp[go_sem,hN];refine gy ?_ ?_<;>intro h3<;>simp at h3
 ·rw[if_pos h3];simp-dsimp[go_sem,hN];refine kf 11 mixed ac ac ?_;rcases hk:jg s.visible t.name with _|ty
  ·simp-dsimp[go_sem,hN,T.lc',T.la',hk];exact⟨_,.refl _,H s,rfl,ae,bv,T.und' _,ak,ak⟩
  ·simp-dsimp[go_sem,hN,T.lc',T.la',hk];refine kf 6 mixed ac ac ?_;rcases hl:jg s.loops t.name with _|bo
   ·simp-dsimp[go_sem,hN,T.lc',T.lb',hl];refine gy ?_ ?_<;>intro h4<;>simp at h4
    ·simp-dsimp[go_sem,hN];exact⟨_,.refl _,H s,rfl,ae,bv,T.und' _,ak,ak⟩
    ·simp-dsimp[go_sem,hN];exact⟨_,.refl _,H s,rfl,ae,bv,T.und' _,ak,ak⟩
   ·simp-dsimp[go_sem,hN,T.lc',T.lb',hl];refine gy (fun h4=>?_) (fun h4=>?_)
    ·simp-dsimp[go_sem,hN];exact⟨_,.refl _,H s,rfl,ae,bv,T.und' _,ak,ak⟩
    ·simp-dsimp[go_sem,hN];refine gy ?_ ?_<;>intro h5<;>simp at h5
     ·simp-dsimp[go_sem,hN];exact⟨_,.refl _,H s,rfl,ae,bv,T.und' _,ak,ak⟩
     ·simp-dsimp[go_sem,hN];exact⟨_,.refl _,H s,rfl,ae,bv,T.und' _,ak,ak⟩
 rw[if_neg h3];simp-dsimp[go_sem,hN];refine gy ?_ ?_<;>intro h4<;>simp at h4
 ·rw[if_pos h4];simp-dsimp[go_sem,hN]
  repeat refine⟨ax,?_⟩
  refine gy ?_ ?_<;>intro h5<;>simp at h5
  ·simp-dsimp[go_sem,hN];exact⟨_,.refl _,H s,rfl,ae,bv,T.und' _,ak,ak⟩
  ·simp-dsimp[go_sem,hN];exact⟨_,.refl _,H s,rfl,ae,bv,T.und' _,ak,ak⟩
 rw[if_neg h4];simp-dsimp[go_sem,hN];refine gy ?_ ?_<;>intro h5<;>simp at h5
 ·rw[if_pos h5];simp-dsimp[go_sem,hN];refine gy ?_ ?_<;>intro h6<;>simp at h6
  ·simp-dsimp[go_sem,hN];exact⟨_,.refl _,H s,rfl,ae,bv,T.und' _,ak,ak⟩
  ·simp-dsimp[go_sem,hN];exact⟨_,.refl _,H s,rfl,ae,bv,T.und' _,ak,ak⟩
 rw[if_neg h5];simp-dsimp[go_sem,hN];refine gy ?_ ?_<;>intro h6<;>simp at h6
 ·rw[if_pos h6];simp-dsimp[go_sem,hN];refine gy ?_ ?_<;>intro h7<;>simp at h7
  ·simp-dsimp[go_sem,hN];exact⟨_,.refl _,H s,rfl,ae,bv,T.und' _,ak,ak⟩
  ·simp-dsimp[go_sem,hN];exact⟨_,.refl _,H s,rfl,ae,bv,T.und' _,ak,ak⟩
 rw[if_neg h6];simp-dsimp[go_sem,hN];refine gy ?_ ?_<;>intro h7<;>simp at h7
 ·rw[if_pos h7];simp-dsimp[go_sem,hN];refine gy ?_ ?_<;>intro h8<;>simp at h8
  ·simp-dsimp[go_sem,hN];exact⟨_,.refl _,H s,rfl,ae,bv,T.und' _,ak,ak⟩
  rw[if_neg qj9];simp-dsimp[go_sem,hN];refine it (qff (T.ext [.cells t.x] af) s t.body (dp+1) s6) ?_;rintro r h' ⟨rfl,rfl⟩;simp-dsimp[go_sem,hN];refine gy ?_ ?_<;>intro h9<;>simp at h9
  ·simp-dsimp[go_sem,hN];exact⟨_,.refl _,H (qpq t.body s).2,rfl,ae,bv,T.und' _,ak,ak⟩
  rw[if_neg (by simpa using h9)];simp-dsimp[go_sem,hN,lb0,T.len];refine it (qff (T.ext [.cells t.x] af) (qpq t.body s).2 t.els (dp+1) qns) ?_;rintro r h' ⟨rfl,rfl⟩;simp-dsimp[go_sem,hN];exact⟨_,.refl _,H (qpq t.els (qpq t.body s).2).2,rfl,ae,bv,T.und' _,ak,ak⟩
 rw[if_neg h7];simp-dsimp[go_sem,hN];refine gy ?_ ?_<;>intro h8<;>simp at h8
 ·rw[if_pos h8];simp-dsimp[go_sem,hN]
  repeat refine⟨ax,?_⟩
  refine gy ?_ ?_<;>intro h9<;>simp at h9
  ·simp-dsimp[go_sem,hN];exact⟨_,.refl _,H s,rfl,ae,bv,T.und' _,ak,ak⟩
  rw[if_neg ax];simp-dsimp[go_sem,hN];refine it (xkj (T.ext [.cells t.x] af) s t.name 1) ?_;rintro r h' ⟨rfl,rfl⟩;simp-dsimp[go_sem,hN];refine kf 6 mixed ac ac ?_;simp-dsimp[go_sem,hN,T.lc',T.lb',T.sb',T.len];refine it (qff (T.ext [.cells t.x] af) ⟨js s.visible t.name 1,js s.loops t.name true,js s.all t.name 1⟩ t.body (dp+1) s6) ?_;rintro r h' ⟨rfl,rfl⟩;simp-dsimp[go_sem,hN];refine kf 6 mixed ac ac ?_;simp-dsimp[go_sem,hN,T.lc',T.la',T.sa',T.len];exact⟨_,.refl _,H ⟨qp3 (qpq t.body ⟨js s.visible t.name 1,js s.loops t.name true,js s.all t.name 1⟩).2.visible t.name,(qpq t.body ⟨js s.visible t.name 1,js s.loops t.name true,js s.all t.name 1⟩).2.loops,(qpq t.body ⟨js s.visible t.name 1,js s.loops t.name true,js s.all t.name 1⟩).2.all⟩,rfl,ae,bv,T.und' _,ak,ak⟩
 rw[if_neg h8];simp-dsimp[go_sem,hN];exact⟨_,.refl _,H s,rfl,ae,bv,T.und' _,ak,ak⟩
termination_by SizeOf.sizeOf t
end
end
def vg(h:gz)(p:Proc)(s:TS):gz:=h++[.cells p.c,.map (mb I s.visible),.map (mb Bo s.loops),.map (mb I s.all),.cells [.mapr (h.length+1),.mapr (h.length+2),.mapr (h.length+3)]]
theorem xzx(h:gz)(hu:hUnder h.length h=true)(p:Proc):TH (h.length+4) (h.length+1) (h.length+2) (h.length+3) (vg h p) (h.length+5) where
 len:=fun s=>by simp[vg]
 hc:=aa
 ha:=aa
 hb:=aa
 hd:=aa
 lc:=fun s=>by simp[vg]
 la:=fun s=>by simp[vg]
 lb:=fun s=>by simp[vg]
 ld:=fun s=>by simp[vg]
 sa:=fun s v=>by simp[vg]
 sb:=fun s v=>by simp[vg]
 sd:=fun s v=>by simp[vg]
 und:=fun s=>by
  rw[vg,vf hu];have k1:∀n l,(AObj.map (mb I l)).under n=true:=xde (fun _ _=>rfl);have k2:∀n l,(AObj.map (mb Bo l)).under n=true:=xde (fun _ _=>rfl);simp only[hUnder,k1,k2,fl,fh];simp[go_sem]
set_option maxHeartbeats 2000000 in
theorem jn4(p:Proc)(h:gz):ACalls prog 162 [.agg p.c] h fun r h'=>r=.ret (.tuple [.top,I (zh p)])∧h'=h:=by
 refine lw func162 ntmps162 rfl ac rfl fun E hN hh hu hb il kr=>?_;simp[go_sem]at hb;have T:=xzx h hu p;simp-dsimp[go_sem,hN];refine ia (xoh p) ?_;simp-dsimp[go_sem,hN];refine gy ?_ ?_<;>intro h0<;>simp at h0
 ·simp-dsimp[go_sem,hN];refine⟨.tuple [.top,_],.tuple ⟨.top _,.refl _,trivial⟩,h,?_⟩;rw[zh,if_pos h0];simp[go_sem,hu]
 have jr:p.params.length≤6:=by
  unfold s7 at h0;split at h0
  ·contradiction
  split at h0
  ·contradiction
  rename_i h1;simp only[Decidable.not_not]at h1;unfold qtb at h1;split at h1
  ·contradiction
  ·omega
 simp-dsimp[go_sem,hN];refine pa (α:=TS) p.params.length (fun n x=>y5 (p.params.drop n) x=y5 p.params ⟨[],[],[]⟩∧(p.params.drop n).any (fun x=>decide (x.ty=3))=p.params.any (fun x=>decide (x.ty=3))) (fun n x=>⟨[(1,.ptr h.length 0),(5,.ptr (h.length+4) 0),(23,.slice (p.params.map Param.c)),(24,I p.params.length),(25,I n)],vg h p x⟩) ⟨[],[],[]⟩ ae (Wk.mk qg1 (by simp[go_sem,vg,mb,qj]) (T.und' _) qgv) ?_;intro n x hn ⟨hI,hJ⟩;have hw:=iv hn hb.2.1.1;simp-dsimp[go_sem,hN];refine gy ?_ ?_<;>intro hc<;>simp at hc
 ·rw[ji hc]at hI hJ;rw[List.any_cons]at hJ;rw[y5,fu]at hI;simp-dsimp[go_sem,hN,hc];refine gy ?_ ?_<;>intro h1<;>simp at h1
  ·simp-dsimp[go_sem,hN];refine⟨.tuple [.top,_],.tuple ⟨.top _,.refl _,trivial⟩,h,?_⟩;rw[zh,if_neg ck,if_pos (by rw[←hJ];simp[h1])];simp[go_sem,hu,vg,hwk.app0]
  simp-dsimp[go_sem,hN];refine it (xkj (T.ext [.cells p.params[n].c] af) x p.params[n].name p.params[n].ty) ?_;rintro r h' ⟨rfl,rfl⟩;simp-dsimp[go_sem,hN,hw];exact⟨hc,_,⟨hI,by rw[←hJ];simp[h1]⟩,Wk.mk qg1 af (T.und' _) qgv⟩
 rw[cv aa]at hI hJ;have x0:∀(x:TS) (l:gz),(vg h p x++l)[h.length]?=some (.cells p.c):=fun x l=>by simp[vg]
 have x1:∀(x:TS) (o:AObj) (l:gz),(vg h p x++o::l)[h.length+5]?=some o:=fun x o l=>by
  rw[cy (by rw[T.len];omega),T.len,ff];rfl
 have x2:∀(x:TS) (o o':AObj) (l:gz),(vg h p x++o::l).set (h.length+5) o'=vg h p x++o'::l:=fun x o o' l=>by
  rw[fq _ _ (by rw[T.len];omega),T.len,ff];rfl
 have k2:∀n l,(AObj.map (mb Bo l)).under n=true:=xde (fun _ _=>rfl);have xu:∀(x:TS) (m:List (g9×Bool)),hUnder (vg h p x++[AObj.map (mb Bo m)]).length (vg h p x++[AObj.map (mb Bo m)])=true:=fun x m=>by
  rw[cz,vf (T.und' x)];simp only[hUnder,k2,fl]
 simp-dsimp[go_sem,hN,x0];refine ia (jaw p aa) ?_;simp-dsimp[go_sem,hN];refine pa (α:=List (g9×Bool)) (yp p).length (fun n m=>qrr m ((yp p).drop n)=qrr [] (yp p)) (fun n m=>⟨[(1,.ptr h.length 0),(5,.ptr (h.length+4) 0),(8,.mapr (h.length+5)),(41,.slice ((yp p).map im)),(42,I (yp p).length),(43,I n)],vg h p x++[AObj.map (mb Bo m)]⟩) [] ae (Wk.mk qkj (by simp[go_sem,T.len,mb,qj]) (xu _ _) (by simp[go_sem,T.len];try omega)) ?_;intro n m hn hM;have xp:(yp p).length≤407:=by
  have:=qy0 tu md List.length xs0 (fun s _=>by simp[md]) p.body 1 (401,p.params.map (·.name))
  simp only[ew]at this;unfold yp;omega
 have hw:=iv hn aa;simp-dsimp[go_sem,hN];refine gy ?_ ?_<;>intro hc<;>simp at hc
 ·rw[ji hc,qrr]at hM;rcases hk:jg m (yp p)[n]with _|bo
  ·rw[hk]at hM;simp-dsimp[go_sem,hN,hc,x1,x2,hk,im,hw];exact⟨_,hM,Wk.mk qkj qgv (xu _ _) qgv⟩
  ·rw[hk]at hM;simp-dsimp[go_sem,hN,hc,x1,x2,hk,im,hw];refine gy (fun h1=>?_) (fun h1=>?_)
   ·simp-dsimp[go_sem,hN];refine⟨.tuple [.top,_],.tuple ⟨.top _,.refl _,trivial⟩,h,?_⟩;rw[zh,if_neg ck,if_neg (by rw[←hJ];simp),if_pos (by rw[←hM];simp[h1])];simp[go_sem,hu,vg,hwk.app0]
   ·simp-dsimp[go_sem,hN,x1,x2,hw];subst h1;exact⟨hc,_,hM,Wk.mk qkj qgv (xu _ _) qgv⟩
 rw[cv aa,qrr]at hM;have y0:∀(x:TS) (l:gz),(vg h p x++l)[h.length+4]?=some (.cells [.mapr (h.length+1),.mapr (h.length+2),.mapr (h.length+3)]):=fun x l=>T.lc' x l;simp-dsimp[go_sem,hN,x0];refine it (qff (T.ext [AObj.map (mb Bo m)] (by simp only[hUnder,k2,fl])) x p.body 1 (qzb h0)) ?_;rintro r h' ⟨rfl,rfl⟩;simp-dsimp[go_sem,hN,y0];refine⟨.tuple [.top,_],.tuple ⟨.top _,.refl _,trivial⟩,h,?_⟩;rw[zh,if_neg ck,if_neg (by rw[←hJ];simp),if_neg (by rw[←hM];simp),←hI];simp[go_sem,hu,vg,hwk.app0,y5]
theorem xpa(p:Proc):APure prog 131 [.agg p.c] (I (zh p)):=by
 refine ik func131 ntmps131 rfl ac rfl rfl fun E h hN hh hu hb=>?_;simp-dsimp[go_sem,hN];refine it (jn4 p _) ?_;rintro r h' ⟨rfl,rfl⟩;simp-dsimp[go_sem,hN]
theorem xoj(p:Proc)(l:List V):APure prog 84 [.agg p.c,.slice (l.map V.c)] (I (zg p l)):=by
 refine ik func84 ntmps84 rfl ac rfl rfl fun E h hN hh hu hb=>?_;simp[go_sem]at hb;simp-dsimp[go_sem,hN];refine ia (xpa p) ?_;simp-dsimp[go_sem,hN];refine gy ?_ ?_<;>intro h0<;>simp at h0
 ·simp-dsimp[go_sem,hN];rw[zg,if_pos (by by_cases h1:zh p=0<;>grind)]
 rw[zg,if_neg (by have:=h0.2;have:=h0.1;omega)];have ig:l.length=p.params.length:=by have:=h0.2;omega
 simp-dsimp[go_sem,hN];refine jl l.length (fun n=>qm8 (p.params.drop n) (l.drop n)=qm8 p.params l) (fun n=>⟨[(2,.ptr h.length 0),(20,.slice (l.map V.c)),(21,I l.length),(22,I n)],h++[.cells p.c]⟩) ae ic ?_;intro n hn hI;have hw:=iv hn hb.2.1;simp-dsimp[go_sem,hN];refine gy ?_ ?_<;>intro hc<;>simp at hc
 ·have qh:n<p.params.length:=aa;rw[ji hc,ji qh,qm8]at hI;simp-dsimp[go_sem,hN,hc,qh];refine ka (xyi l[n].s) ae ?_;simp-dsimp[go_sem,hN,qh]
  repeat refine⟨ax,?_⟩
  refine gy (fun h1=>?_) (fun h1=>?_)
  ·simp-dsimp[go_sem,hN];rw[←hI];unfold qws;simp at h1;grind
  ·simp-dsimp[go_sem,hN,hw];refine⟨hc,by rw[←hI];unfold qws;simp at h1;grind,ic⟩
 ·rw[cv aa,cv aa]at hI;simp-dsimp[go_sem,hN];exact hI.symm.trans (by simp[qm8])
attribute [local go_sem] Cnt.c Cnt.plus Cnt.times Cnt.larger
set_option maxHeartbeats 1000000 in
theorem xg3(x y:Cnt):APure prog 164 [.agg x.c,.agg y.c] (.agg (x.plus y).c):=by
 refine ik func164 ntmps164 rfl ac rfl rfl fun E h hN hh hu hb=>?_;simp-dsimp[go_sem,hN];refine jl 4 (fun _=>True) (fun n=>⟨[(2,.ptr h.length 0),(3,.ptr (h.length+1) 0),(4,.ptr (h.length+2) 0),(6,I n)],h++[.cells ((x.plus y).c.take n++x.c.drop n),.cells y.c,.cells [I 0,I 0,I 0,I 0]]⟩) trivial ic ?_;intro n hn _;have hw:=iv hn aa;have cases:n=0∨n=1∨n=2∨n=3∨n=4:=aa;rcases cases with rfl|rfl|rfl|rfl|rfl
 ·simp-dsimp[go_sem,hN];refine kf 9 mixed ac ac ?_;simp-dsimp[go_sem,hN,qqf,qrm,qrz];exact ic
 ·simp-dsimp[go_sem,hN];refine kf 9 mixed ac ac ?_;simp-dsimp[go_sem,hN,qqf,qrm,qrz];exact ic
 ·simp-dsimp[go_sem,hN];refine kf 9 mixed ac ac ?_;simp-dsimp[go_sem,hN,qqf,qrm,qrz];exact ic
 ·simp-dsimp[go_sem,hN];refine kf 9 mixed ac ac ?_;simp-dsimp[go_sem,hN,qqf,qrm,qrz];exact ic
 ·simp-dsimp[go_sem,hN]
set_option maxHeartbeats 1000000 in
theorem jc3(x y:Cnt):APure prog 210 [.agg x.c,.agg y.c] (.agg (x.larger y).c):=by
 refine ik func210 ntmps210 rfl ac rfl rfl fun E h hN hh hu hb=>?_;simp-dsimp[go_sem,hN];refine jl 4 (fun _=>True) (fun n=>⟨[(2,.ptr h.length 0),(3,.ptr (h.length+1) 0),(4,.ptr (h.length+2) 0),(6,I n)],h++[.cells ((x.larger y).c.take n++x.c.drop n),.cells y.c,.cells [I 0,I 0,I 0,I 0]]⟩) trivial ic ?_;intro n hn _;have hw:=iv hn aa;have cases:n=0∨n=1∨n=2∨n=3∨n=4:=aa;rcases cases with rfl|rfl|rfl|rfl|rfl
 ·simp-dsimp[go_sem,hN];refine kf 8 mixed ac ac ?_;simp-dsimp[go_sem,hN,xe7,qrm,qrz];exact ic
 ·simp-dsimp[go_sem,hN];refine kf 8 mixed ac ac ?_;simp-dsimp[go_sem,hN,xe7,qrm,qrz];exact ic
 ·simp-dsimp[go_sem,hN];refine kf 8 mixed ac ac ?_;simp-dsimp[go_sem,hN,xe7,qrm,qrz];exact ic
 ·simp-dsimp[go_sem,hN];refine kf 8 mixed ac ac ?_;simp-dsimp[go_sem,hN,xe7,qrm,qrz];exact ic
 ·simp-dsimp[go_sem,hN]
set_option maxHeartbeats 1000000 in
theorem jkb(x:Cnt)(k:Int):APure prog 211 [.agg x.c,I k] (.agg (x.times k).c):=by
 refine ik func211 ntmps211 rfl ac rfl rfl fun E h hN hh hu hb=>?_;simp-dsimp[go_sem,hN];refine jl 4 (fun _=>True) (fun n=>⟨[(1,I k),(2,.ptr h.length 0),(4,.ptr (h.length+1) 0),(6,I n)],h++[.cells ((x.times k).c.take n++x.c.drop n),.cells [I 0,I 0,I 0,I 0]]⟩) trivial ic ?_;intro n hn _;have hw:=iv hn aa;have cases:n=0∨n=1∨n=2∨n=3∨n=4:=aa;rcases cases with rfl|rfl|rfl|rfl|rfl
 ·simp-dsimp[go_sem,hN,qqf,qrm,qrz];exact ic
 ·simp-dsimp[go_sem,hN,qqf,qrm,qrz];exact ic
 ·simp-dsimp[go_sem,hN,qqf,qrm,qrz];exact ic
 ·simp-dsimp[go_sem,hN,qqf,qrm,qrz];exact ic
 ·simp-dsimp[go_sem,hN]
end Go.Proofs.YtbimdamecieomaaGreatDoor
set_option maxHeartbeats 1000000
namespace Go.Proofs.YtbimdamecieomaaGreatDoor
open Go Go.Abs Go.Cw Tryz
attribute [local go_sem] Cnt.c
theorem qd5(e:Ex):APure prog 209 [.agg e.x] (I (xt e)):=by
 refine ik func209 ntmps209 rfl ac rfl rfl fun E h hN hh hu hb=>?_;simp[go_sem]at hb;rw[xz1];obtain⟨G,hG⟩:∃G:Int,G=if e.op=22∨e.op=23∨e.op=24 then 1 else 0:=⟨_,rfl⟩
 rw[←hG];simp-dsimp[go_sem,hN];refine gy ?_ ?_<;>intro h1<;>simp at h1
 ·simp-dsimp[go_sem,hN,decide_eq_true h1];have hv:G=1:=qjv;refine pa (α:=Int) e.args.length (fun n m=>w8 (e.args.drop n) m=w8 e.args G) (fun n m=>⟨[(1,.ptr h.length 0),(3,I m),(13,.slice (e.args.map Ex.c)),(14,I e.args.length),(15,I n)],h++[.cells e.x]⟩) G ae (ic qhk) ?_;intro n m hn hI;have hw:=iv hn hb.2.1;simp-dsimp[go_sem,hN];refine gy ?_ ?_<;>intro hc<;>simp at hc
  ·rw[ji hc,w8]at hI;have ib:SizeOf.sizeOf e.args[n]<SizeOf.sizeOf e:=Ex.arg_lt (c9 hc);simp-dsimp[go_sem,hN,hc];refine ia (qd5 e.args[n]) ?_;simp-dsimp[go_sem,hN,hw];exact⟨hc,_,hI,ic⟩
  ·rw[cv aa,w8]at hI;simp-dsimp[go_sem,hN,qqf];rw[hI]
 simp-dsimp[go_sem,hN];refine gy ?_ ?_<;>intro h2<;>simp at h2
 ·simp-dsimp[go_sem,hN,decide_eq_true h2];have hv:G=1:=qjv;refine pa (α:=Int) e.args.length (fun n m=>w8 (e.args.drop n) m=w8 e.args G) (fun n m=>⟨[(1,.ptr h.length 0),(3,I m),(13,.slice (e.args.map Ex.c)),(14,I e.args.length),(15,I n)],h++[.cells e.x]⟩) G ae (ic qhk) ?_;intro n m hn hI;have hw:=iv hn hb.2.1;simp-dsimp[go_sem,hN];refine gy ?_ ?_<;>intro hc<;>simp at hc
  ·rw[ji hc,w8]at hI;have ib:SizeOf.sizeOf e.args[n]<SizeOf.sizeOf e:=Ex.arg_lt (c9 hc);simp-dsimp[go_sem,hN,hc];refine ia (qd5 e.args[n]) ?_;simp-dsimp[go_sem,hN,hw];exact⟨hc,_,hI,ic⟩
  ·rw[cv aa,w8]at hI;simp-dsimp[go_sem,hN,qqf];rw[hI]
 simp-dsimp[go_sem,hN];refine gy ?_ ?_<;>intro h3<;>simp at h3
 ·simp-dsimp[go_sem,hN];have hv:G=1:=qjv;refine pa (α:=Int) e.args.length (fun n m=>w8 (e.args.drop n) m=w8 e.args G) (fun n m=>⟨[(1,.ptr h.length 0),(3,I m),(13,.slice (e.args.map Ex.c)),(14,I e.args.length),(15,I n)],h++[.cells e.x]⟩) G ae (ic qhk) ?_;intro n m hn hI;have hw:=iv hn hb.2.1;simp-dsimp[go_sem,hN];refine gy ?_ ?_<;>intro hc<;>simp at hc
  ·rw[ji hc,w8]at hI;have ib:SizeOf.sizeOf e.args[n]<SizeOf.sizeOf e:=Ex.arg_lt (c9 hc);simp-dsimp[go_sem,hN,hc];refine ia (qd5 e.args[n]) ?_;simp-dsimp[go_sem,hN,hw];exact⟨hc,_,hI,ic⟩
  ·rw[cv aa,w8]at hI;simp-dsimp[go_sem,hN,qqf];rw[hI]
 ·simp-dsimp[go_sem,hN];have hv:G=0:=by rw[hG,if_neg aa]
  refine pa (α:=Int) e.args.length (fun n m=>w8 (e.args.drop n) m=w8 e.args G) (fun n m=>⟨[(1,.ptr h.length 0),(3,I m),(13,.slice (e.args.map Ex.c)),(14,I e.args.length),(15,I n)],h++[.cells e.x]⟩) G ae (ic qhk) ?_;intro n m hn hI;have hw:=iv hn hb.2.1;simp-dsimp[go_sem,hN];refine gy ?_ ?_<;>intro hc<;>simp at hc
  ·rw[ji hc,w8]at hI;have ib:SizeOf.sizeOf e.args[n]<SizeOf.sizeOf e:=Ex.arg_lt (c9 hc);simp-dsimp[go_sem,hN,hc];refine ia (qd5 e.args[n]) ?_;simp-dsimp[go_sem,hN,hw];exact⟨hc,_,hI,ic⟩
  ·rw[cv aa,w8]at hI;simp-dsimp[go_sem,hN,qqf];rw[hI]
termination_by SizeOf.sizeOf e
mutual
theorem jk6(t:St):APure prog 165 [.agg t.x] (.agg (qx4 t).c):=by
 refine ik func165 ntmps165 rfl ac rfl rfl fun E h hN hh hu hb=>?_;have lt1:=St.body_le t;have lt2:=St.els_le t;rw[xvd];simp-dsimp[go_sem,hN];refine gy ?_ ?_<;>intro h8<;>simp at h8
 ·simp-dsimp[go_sem,hN];refine ia (qd5 t.a) ?_;simp-dsimp[go_sem,hN];refine gy ?_ ?_<;>intro h3<;>simp at h3<;>simp-dsimp[go_sem,hN]
  ·refine kf 5 mixed ac ac ?_;simp-dsimp (maxSteps:=1000000) [go_sem,hN];refine ku (qd5 t.b) ae ?_;simp-dsimp[go_sem,hN,qqf];simp[qo9,h3]
  refine gy ?_ ?_<;>intro h4<;>simp at h4<;>simp-dsimp[go_sem,hN]
  ·simp[qo9,h4]
  refine gy ?_ ?_<;>intro h7<;>simp at h7<;>simp-dsimp[go_sem,hN]
  ·simp[qo9,h7]
  refine gy ?_ ?_<;>intro h5<;>simp at h5<;>simp-dsimp[go_sem,hN]
  ·refine kf 8 mixed ac ac ?_;simp-dsimp[go_sem,hN];refine ku (xgg t.body) ae ?_;simp-dsimp[go_sem,hN];refine ku (xgg t.els) ae ?_;simp-dsimp[go_sem,hN];refine ku (jc3 (ru t.body) (ru t.els)) ae ?_;simp-dsimp[go_sem,hN];refine ia (xg3 ⟨1,xt t.a,0,0⟩ ((ru t.body).larger (ru t.els))) ?_;simp-dsimp[go_sem,hN];rw[if_pos h5];simp[qo9,h5]
  refine gy ?_ ?_<;>intro h6<;>simp at h6<;>simp-dsimp[go_sem,hN]
  ·refine kf 5 mixed ac ac ?_;simp-dsimp[go_sem,hN];refine ku (qd5 t.b) ae ?_;simp-dsimp[go_sem,hN,qqf];refine kf 7 mixed ac ac ?_;simp-dsimp[go_sem,hN];refine ku (xgg t.body) ae ?_;simp-dsimp[go_sem,hN];refine ku (jkb (ru t.body) t.max) ae ?_;simp-dsimp[go_sem,hN];refine ia (xg3 ⟨jt (1+t.max),mn (jt (xt t.a+xt t.b)) 16385,0,0⟩ ((ru t.body).times t.max)) ?_;simp-dsimp[go_sem,hN];rw[if_neg aa,if_pos h6];simp[qo9,h6]
  rw[if_neg h5,if_neg h6];simp[qo9,h3,h4,h5,h6,h7,h8]
 ·simp-dsimp[go_sem,hN];refine gy (fun h3=>by simp at h3;omega) (fun h3=>?_);simp at h3;simp-dsimp[go_sem,hN];refine gy (fun h4=>by simp at h4;omega) (fun h4=>?_);simp at h4;simp-dsimp[go_sem,hN];refine gy (fun h7=>by simp at h7;omega) (fun h7=>?_);simp at h7;simp-dsimp[go_sem,hN];refine gy (fun h5=>by simp at h5;omega) (fun h5=>?_);simp at h5;simp-dsimp[go_sem,hN];refine gy (fun h6=>by simp at h6;omega) (fun h6=>?_);simp at h6;simp-dsimp[go_sem,hN];rw[if_neg h5,if_neg h6];simp[qo9,h3,h4,h5,h6,h7,h8]
termination_by SizeOf.sizeOf t
theorem xgg(l:List St):APure prog 134 [.slice (l.map St.c)] (.agg (ru l).c):=by
 refine ik func134 ntmps134 rfl ac rfl rfl fun E h hN hh hu hb=>?_;simp[go_sem]at hb;simp-dsimp[go_sem,hN];refine pa (α:=Cnt) l.length (fun n c=>qtc (l.drop n) c=ru l) (fun n c=>⟨[(2,.ptr h.length 0),(3,.ptr (h.length+1) 0),(6,.slice (l.map St.c)),(7,I l.length),(8,I n)],h++[.cells [I 0,I 0,I 0,I 0],.cells c.c]⟩) ⟨0,0,0,0⟩ ae (ic (by simp[go_sem,Cnt.c])) ?_;intro n c hn hI;have hw:=iv hn hb.1;simp-dsimp[go_sem,hN];refine gy ?_ ?_<;>intro hc<;>simp at hc
 ·rw[ji hc,qtc]at hI;have ib:SizeOf.sizeOf l[n]<SizeOf.sizeOf l:=fj (c9 hc);simp-dsimp[go_sem,hN,hc];refine kf 3 mixed ac ac ?_;simp-dsimp[go_sem,hN,hc];refine ku (jk6 l[n]) ae ?_;simp-dsimp[go_sem,hN,hc];refine ia (xg3 c (qx4 l[n])) ?_;simp-dsimp[go_sem,hN,hc,hw];exact⟨_,hI,ic⟩
 ·rw[cv aa,qtc]at hI;simp-dsimp[go_sem,hN];subst hI;simp[Cnt.c]
termination_by SizeOf.sizeOf l
end
end Go.Proofs.YtbimdamecieomaaGreatDoor
