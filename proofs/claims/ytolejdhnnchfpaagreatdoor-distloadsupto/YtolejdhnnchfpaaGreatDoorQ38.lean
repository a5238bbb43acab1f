/- Part 38 of a proof. -/
import Derived.Shelf.Small.Strs
import Derived.Shelf.Strconv.Itoa4
import Derived.Lib.ItoaLen
import Derived.Test.YtolejdhnnchfpaaGreatDoorQ37
set_option linter.all false
set_option maxRecDepth 4000
set_option maxHeartbeats 1000000
namespace Go.Proofs.YtolejdhnnchfpaaGreatDoor
open Go Go.Abs Go.Cw Go.Proofs.Tryz
section
attribute [local go_sem] mC
variable {C:Cfg} {tT:TypeId} {tx:Nat×Nat} {g m v o io ir ip:Nat}
mutual
theorem qen(hF:C.fmt=ku)(hC:u5 C)(l:List St)(hG:∀x∈l,goS x){K:MQ->g9}{n0:Nat}(Y:MHs C tT tx g m v o io ir ip K n0)(s:MS)(hI:Cw.Inv 0 0 s) :
  ACalls prog 182 [.ptr m 0,.slice (l.map St.c)] (K s.q) λr h'=>r=od (mc C l s).1/\h'=K (mc C l s).2.q:=by
 refine mh func182 ntmps182 rfl ae rfl λE hN hh hu hb iq ju=>?_;simp[go_sem]at hb;have hmn:=Y.hm;obtain⟨L0,hL0⟩:∃L0,L0=mc C l s:=⟨_,rfl⟩
 rw[<-hL0];simp-dsimp[go_sem,hN];refine td (α:=MS) l.length (λn s'=>Cw.Inv 0 0 s'/\L0=mc C (l.drop n) s') (λn s'=>⟨[(0,.ptr m 0),(6,.slice (l.map St.c)),(7,I l.length),(8,I n)],K s'.q⟩) s ⟨hI,by simpa using hL0⟩ (Wk.mk af ac aa qfc) ?_;rintro n s1 hn ⟨hI1,hL⟩;have hw:=jj hn hb.1;have hst1:=hI1.st;simp-dsimp[go_sem,hN];refine ii ?_ ?_<;>intro hc<;>simp at hc
 rotate_left
 .rw[cq aa,mc]at hL;rw[hL];simp-dsimp[go_sem,hN,od];exact⟨_,.refl _,K s1.q,ag,ah,ax,Y.und' _,au,aj⟩
 rw[jv hc,mc]at hL;have il:SizeOf.sizeOf l[n]<SizeOf.sizeOf l:=gb (dk hc);simp-dsimp[go_sem,hN,hc,Y.len,St.c_eq];refine iy (xtb (Y.ext [_] ay) s1 aa) ?_;rintro r h' ⟨rfl,rfl⟩;rcases hT:wv s1 with⟨z|⟨⟩,s2⟩
 .rw[hT]at hL;simp only at hL;rw[hL];simp-dsimp[go_sem,hN,od];exact⟨_,.refl _,K s2.q,ag,ah,ax,Y.und' _,au,aj⟩
 rw[hT]at hL;simp only at hL;have s8:=hI1.tick hT;simp-dsimp[go_sem,hN,od,Y.len,Y.loc];refine iy (jjp hF hC l[n] (hG _ (dk hc)) (Y.ext [_] ay) s2 s8) ?_;rintro r h' ⟨rfl,rfl⟩;rcases hS:r7 C l[n] s2 with⟨z|⟨⟩,s3⟩
 .rw[hS]at hL;simp only at hL;rw[hL];simp-dsimp[go_sem,hN,od];exact⟨_,.refl _,K s3.q,ag,ah,ax,Y.und' _,au,aj⟩
 rw[hS]at hL;simp only at hL;simp-dsimp[go_sem,hN,od,hw];exact⟨hc,s3,⟨xca hC _ _ _ _ (hG _ (dk hc)) s8 hS,hL⟩,(Wk.mk qge ac qff qfc)⟩
termination_by (SizeOf.sizeOf l,0)
theorem jjp(hF:C.fmt=ku)(hC:u5 C)(t:St)(hG:goS t){K:MQ->g9}{n0:Nat}(Y:MHs C tT tx g m v o io ir ip K n0)(s:MS)(hI:Cw.Inv 8192 1 s) :
  ACalls prog 208 [.ptr m 0,.agg t.x] (K s.q) λr h'=>r=od (r7 C t s).1/\h'=K (r7 C t s).2.q:=by
 refine mh func208 ntmps208 rfl ae rfl λE hN hh hu hb iq ju=>?_;simp[go_sem]at hb;have hG':=(qye _).1 hG;have hmn:=Y.hm;obtain⟨hA,hB,vx,qpn⟩:=hG';have kn:=hI.st;have hrd:=hI.rd;have hpt:=hI.pt;have hlB:SizeOf.sizeOf t.body<SizeOf.sizeOf t:=by cases t;simp[St.body];omega
 have hlE:SizeOf.sizeOf t.els<SizeOf.sizeOf t:=by cases t;simp[St.els];omega
 rw[jbx];simp-dsimp[go_sem,hN,Y.len,Y.loc];by_cases h12:t.op=1\/t.op=2
 .rw[if_pos h12];have ha:=hA aa;have h1:=hI.eval hC (r:=4097) ha;have hc:=qb7 hF hC (Y.ext [.cells t.x] ay) s t.a ha.1 hI.rng hI.ar qgz;obtain⟨x0,o6⟩:∃x0,x0=mg C t.a s:=⟨_,rfl⟩
  rw[<-o6]at hc|-;refine ii ?_ ?_<;>intro h<;>simp at h
  all_goals
   rcases x0 with⟨z|u,s1⟩
   .try simp-dsimp[go_sem,hN]
    refine ii (λ_=>?_) (λk=>by simp at k;omega)
    try simp-dsimp[go_sem,hN]
    refine qw5 10 9 [0,1,2,3,4,5] mixed ae ?_;simp-dsimp[go_sem,hN,Y.len,Y.loc,Y.lm',Y.lv'];refine xxn (h2:=K s1.q++[.cells t.x]) (hc.mono qie) ?_;simp-dsimp[go_sem,hN,od];exact⟨_,.refl _,K s1.q,ag,ah,ax,Y.und' _,au,aj⟩
   .try simp-dsimp[go_sem,hN]
    refine ii (λ_=>?_) (λk=>by simp at k;omega)
    try simp-dsimp[go_sem,hN]
    refine qw5 10 9 [0,1,2,3,4,5] mixed ae ?_;simp-dsimp[go_sem,hN,Y.len,Y.loc,Y.lm',Y.lv'];refine qyx (h2:=K s1.q++[.cells t.x]) (r:=.agg u.c) (hc.mono qie) ?_;simp-dsimp[go_sem,hN,od,Y.len,Y.loc,Y.lm',Y.lv',Y.sv'];exact⟨_,.refl _,K (MS.q { s1 with vars:=lx s1.vars t.name u }),ag,ah,ax,Y.und' _,au,aj⟩
 rw[if_neg h12];have h12':¬t.op=1/\¬t.op=2:=aa;refine ii (λk=>by simp[h12']at k) (λ_=>?_)
 try simp-dsimp[go_sem,hN,h12'.1,h12'.2]
 refine ii ?_ ?_<;>intro h3<;>simp at h3
 .simp only[h3,if_true];have ha:=hA aa;have nm:=hB aa;have h1:=hI.eval hC (r:=4097) ha;simp-dsimp[go_sem,hN,Y.len,Y.loc];refine iy (qb7 hF hC (Y.ext [_] ay) s t.a ha.1 hI.rng hI.ar qgz) ?_;rintro r h' ⟨rfl,rfl⟩;rcases hE:mg C t.a s with⟨z|u,s1⟩
  .simp-dsimp[go_sem,hN,om,od];exact⟨_,.refl _,K s1.q,ag,ah,ax,Y.und' _,au,aj⟩
  rw[hE]at h1;simp only at h1;dsimp only;have hrd1:=h1.1.rd;have hst1:=h1.1.st;simp-dsimp[go_sem,hN,om,Y.len,Y.loc,Y.loc1];refine iy (qb7 hF hC (Y.ext [_,_] ay) s1 t.b nm.1 h1.1.rng h1.1.ar (by have:=nm.2;omega)) ?_;rintro r h' ⟨rfl,rfl⟩;have h2:=h1.1.eval hC (r:=2) nm;rcases m9:mg C t.b s1 with⟨z|w,s2⟩
  .simp-dsimp[go_sem,hN,om,od];exact⟨_,.refl _,K s2.q,ag,ah,ax,Y.und' _,au,aj⟩
  rw[m9]at h2;simp only at h2;dsimp only;simp-dsimp[go_sem,hN,om,Y.len,Y.loc,Y.loc1,Y.loc2]
  repeat refine⟨af,?_⟩
  have hpt2:=h2.1.pt;have hst2:=h2.1.st;refine iy (xh (decide (u.k=2)&&(decide (w.k=1)||decide (w.k=2))) _) ?_;rintro r h' ⟨⟨hm,rfl⟩|⟨hm,rfl⟩,rfl⟩<;>simp at hm
  rotate_left
  .simp-dsimp[go_sem,hN,od];rw[if_neg aa];exact⟨_,.refl _,K s2.q,ag,ah,ax,Y.und' _,au,aj⟩
  rw[if_pos hm];simp-dsimp[go_sem,hN,Y.len,Y.loc,Y.loc1,Y.loc2];refine iy (xlq (Y.ext [_,_,_] ay) s2 u.s w h2.1.ap aa) ?_;rintro r h' ⟨rfl,rfl⟩;rcases tv C u.s w s2 with⟨z|⟨⟩,s3⟩<;>simp-dsimp[go_sem,hN,od]<;>exact⟨_,.refl _,K s3.q,ag,ah,ax,Y.und' _,au,aj⟩
 simp only[h3,if_false];simp-dsimp[go_sem,hN,Y.len,Y.loc];refine ii ?_ ?_<;>intro h4<;>simp at h4
 .simp only[h4,if_true];have ha:=hA aa;have h1:=hI.eval hC (r:=4097) ha;simp-dsimp[go_sem,hN,Y.len,Y.loc];refine iy (qb7 hF hC (Y.ext [_] ay) s t.a ha.1 hI.rng hI.ar qgz) ?_;rintro r h' ⟨rfl,rfl⟩;rcases hE:mg C t.a s with⟨z|u,s1⟩
  .simp-dsimp[go_sem,hN,om,od];exact⟨_,.refl _,K s1.q,ag,ah,ax,Y.und' _,au,aj⟩
  rw[hE]at h1;simp only at h1;dsimp only;have hpt1:=h1.1.pt;have hst1:=h1.1.st;simp-dsimp[go_sem,hN,om,Y.len,Y.loc,Y.loc1];refine iy (xh (decide (u.k=2)) _) ?_;rintro r h' ⟨⟨hm,rfl⟩|⟨hm,rfl⟩,rfl⟩<;>simp at hm
  rotate_left
  .simp-dsimp[go_sem,hN,od,hm];exact⟨_,.refl _,K s1.q,ag,ah,ax,Y.und' _,au,aj⟩
  simp only[hm,if_true];simp-dsimp[go_sem,hN,Y.len,Y.loc,Y.loc1];refine iy (xlq (Y.ext [_,_] ay) s1 u.s V.nil h1.1.ap aa) ?_;rintro r h' ⟨rfl,rfl⟩;rcases tv C u.s V.nil s1 with⟨z|⟨⟩,s2⟩<;>simp-dsimp[go_sem,hN,od]<;>exact⟨_,.refl _,K s2.q,ag,ah,ax,Y.und' _,au,aj⟩
 simp only[h4,if_false];simp-dsimp[go_sem,hN,Y.len,Y.loc];refine ii ?_ ?_<;>intro h5<;>simp at h5
 .simp only[h5,if_true];have ha:=hA aa;have h1:=hI.eval hC (r:=4097) ha;simp-dsimp[go_sem,hN,Y.len,Y.loc];refine iy (qb7 hF hC (Y.ext [_] ay) s t.a ha.1 hI.rng hI.ar qgz) ?_;rintro r h' ⟨rfl,rfl⟩;rcases hE:mg C t.a s with⟨z|u,s1⟩
  .simp-dsimp[go_sem,hN,om,od];exact⟨_,.refl _,K s1.q,ag,ah,ax,Y.und' _,au,aj⟩
  rw[hE]at h1;simp only at h1;dsimp only;simp-dsimp[go_sem,hN,om,Y.len,Y.loc,Y.loc1];refine iy (xh (decide (u.k=3)) _) ?_;rintro r h' ⟨⟨hm,rfl⟩|⟨hm,rfl⟩,rfl⟩<;>simp at hm
  rotate_left
  .simp-dsimp[go_sem,hN,od,hm];exact⟨_,.refl _,K s1.q,ag,ah,ax,Y.und' _,au,aj⟩
  simp only[hm,if_true];simp-dsimp[go_sem,hN,Y.len,Y.loc,Y.loc1];refine ii ?_ ?_<;>intro hx<;>simp at hx
  .simp only[hx,if_true];simp-dsimp[go_sem,hN,Y.len,Y.loc,Y.loc1];refine iy (qen hF hC t.body vx (Y.ext [_,_] ay) s1 (h1.1.mono aa aa)) ?_;rintro r h' ⟨rfl,rfl⟩;rcases mc C t.body s1 with⟨z|⟨⟩,s2⟩<;>simp-dsimp[go_sem,hN,od]<;>exact⟨_,.refl _,K s2.q,ag,ah,ax,Y.und' _,au,aj⟩
  .simp only[hx,if_false];simp-dsimp[go_sem,hN,Y.len,Y.loc,Y.loc1];refine iy (qen hF hC t.els qpn (Y.ext [_,_] ay) s1 (h1.1.mono aa aa)) ?_;rintro r h' ⟨rfl,rfl⟩;rcases mc C t.els s1 with⟨z|⟨⟩,s2⟩<;>simp-dsimp[go_sem,hN,od]<;>exact⟨_,.refl _,K s2.q,ag,ah,ax,Y.und' _,au,aj⟩
 simp only[h5,if_false];simp-dsimp[go_sem,hN,Y.len,Y.loc];refine ii ?_ ?_<;>intro h6<;>simp at h6
 .rw[if_pos h6];simp-dsimp[go_sem,hN,Y.len,Y.loc];refine iy (jfm hF hC (Y.ext [_] ay) t h6 hG s hI (λY' s' hI'=>qen hF hC t.body vx Y' s' hI')) ?_;rintro r h' ⟨rfl,rfl⟩;rcases r7 C t s with⟨z|⟨⟩,s2⟩<;>simp-dsimp[go_sem,hN,od]<;>exact⟨_,.refl _,K s2.q,ag,ah,ax,Y.und' _,au,aj⟩
 simp only[h6,if_false];simp-dsimp[go_sem,hN,Y.len,Y.loc];refine ii ?_ ?_<;>intro h7<;>simp at h7
 .simp only[h7,if_true];have ha:=hA aa;have h1:=hI.eval hC (r:=4097) ha;simp-dsimp[go_sem,hN,Y.len,Y.loc];refine iy (qb7 hF hC (Y.ext [_] ay) s t.a ha.1 hI.rng hI.ar qgz) ?_;rintro r h' ⟨rfl,rfl⟩;rcases hE:mg C t.a s with⟨z|u,s1⟩
  .simp-dsimp[go_sem,hN,om,od];exact⟨_,.refl _,K s1.q,ag,ah,ax,Y.und' _,au,aj⟩
  rw[hE]at h1;simp only at h1;dsimp only;have km:=h1.1.ot;simp-dsimp[go_sem,hN,om,Y.len,Y.loc,Y.loc1]
  repeat refine⟨af,?_⟩
  refine iy (xh (decide (u.k=1)||decide (u.k=2)) _) ?_;rintro r h' ⟨⟨hm,rfl⟩|⟨hm,rfl⟩,rfl⟩<;>simp at hm
  rotate_left
  .simp-dsimp[go_sem,hN,od,hm];exact⟨_,.refl _,K s1.q,ag,ah,ax,Y.und' _,au,aj⟩
  simp only[hm,if_true];simp-dsimp[go_sem,hN,Y.len,Y.loc,Y.loc1];refine iy (xyb (Y.ext [_,_] ay) s1 u aa) ?_;rintro r h' ⟨rfl,rfl⟩;rcases yx u s1 with⟨z|⟨⟩,s2⟩<;>simp-dsimp[go_sem,hN,od]<;>exact⟨_,.refl _,K s2.q,ag,ah,ax,Y.und' _,au,aj⟩
 simp only[h7,if_false];simp-dsimp[go_sem,hN,Y.len,Y.loc];refine ii ?_ ?_<;>intro h8<;>simp at h8
 .simp only[h8,if_true];simp-dsimp[go_sem,hN,Y.len,Y.loc];refine iy (qbi t.max _) ?_;rintro r h' ⟨rfl,rfl⟩;simp-dsimp[go_sem,hN,od];exact⟨_,.refl _,K s.q,ag,ah,ax,Y.und' _,au,aj⟩
 .simp only[h8,if_false];simp-dsimp[go_sem,hN,od];exact⟨_,.refl _,K s.q,ag,ah,ax,Y.und' _,au,aj⟩
termination_by (SizeOf.sizeOf t,0)
end
end
theorem ji5(h:g9):ACalls prog 177 [] h λr h'=>r=.ret (.agg yj.c)/\h'=h:=by
 refine mh func177 ntmps177 rfl ae rfl λE hN hh hu hb iq ju=>?_;simp-dsimp[go_sem,hN];exact⟨_,.refl _,h,ag,ag,ac,aq,rfl,rfl⟩
theorem xyd(st:List Pr)(ft:Foot)(h:g9):ACalls prog 178 [.slice (st.map Pr.c),.agg ft.c] h λr h'=>r=.ret (.ptr (h.length+3) 0) /\
  h'=h++[.cells ft.c,.map [],.map [],.cells [.slice (st.map Pr.c),Bo ft.all,.slice (ft.reads.map ja),.slice (ft.writes.map ja),.mapr (h.length+1),.mapr (h.length+2),I 0,I 0,.nils,.nils,.nils,.nils,S em,I 0]]:=by
 refine mh func178 ntmps178 rfl ae rfl λE hN hh hu hb iq ju=>?_;simp-dsimp[go_sem,hN];refine⟨by simp[qm2,ul],_,.refl _,_,?_,hwk.refl _,ac,?_,rfl,by rfl⟩
 .simp[go_sem]
 .simp[hu,tj hu,qx,go_sem]
section
variable {c a b d:Nat} {H:TS->g9} {n0:Nat}
theorem xiv(T:TH c a b d H n0)(s:TS)(name:ig)(ty:Int) :
  ACalls prog 259 [.ptr c 0,S name,I ty] (H s) λr h'=>r=.ret (.tuple [])/\h'=H (s.decl name ty):=by
 refine mh func259 ntmps259 rfl ae rfl λE hN hh hu hb iq ju=>?_;simp-dsimp[go_sem,hN,T.lc,T.la,T.ld,T.sa,T.sd];exact⟨_,.refl _,H (s.decl name ty),rfl,by simp[TS.decl],bm,T.und' _,rfl,rfl⟩
theorem xya(T:TH c a b d H n0)(s:TS)(t:St)(hA:t.op≠8->py t.a 1=0)(hB:t.op=3\/t.op=6->py t.b 1=0) :
  ACalls prog 328 [.ptr c 0,.agg t.x] (H s) λr h'=>r=.ret (.tuple [I (uf s.visible t).1,I (uf s.visible t).2.1,I (uf s.visible t).2.2])/\h'=H s:=by
 refine mh func328 ntmps328 rfl ae rfl λE hN hh hu hb iq ju=>?_;simp-dsimp[go_sem,hN];refine ii ?_ ?_<;>intro h0<;>simp at h0
 .simp-dsimp[go_sem,hN];rw[uf,if_pos h0];exact⟨_,.refl _,H s,rfl,ac,ac,hu,rfl,rfl⟩
 simp-dsimp[go_sem,hN];refine qw5 11 6 [] mixed ae ?_;simp-dsimp[go_sem,hN,T.lc',T.la'];refine qyx (xf8 s.visible t.a 1 (hA h0) _ a (T.la' s _)) ?_;simp-dsimp[go_sem,hN];refine⟨af,?_⟩;refine ii ?_ ?_<;>intro h1<;>simp at h1
 .simp-dsimp[go_sem,hN];refine qw5 11 6 [] mixed ae ?_;simp-dsimp[go_sem,hN,T.lc',T.la'];refine qyx (xf8 s.visible t.b 1 (hB h1.2) _ a (T.la' s _)) ?_;simp-dsimp[go_sem,hN];rw[uf,if_neg h0,if_pos h1];exact⟨_,.refl _,H s,rfl,ac,ac,hu,rfl,rfl⟩
 .simp-dsimp[go_sem,hN];rw[uf,if_neg h0,if_neg aa];exact⟨_,.refl _,H s,rfl,ac,ac,hu,rfl,rfl⟩
set_option maxHeartbeats 4000000 in
mutual
theorem qep{H:TS->g9}{n0:Nat}(T:TH c a b d H n0)(s:TS)(l:List St)(dp:Nat)(hl:okL l dp) :
  ACalls prog 261 [.ptr c 0,.slice (l.map St.c)] (H s) λr h'=>r=.ret (I (qqd l s).1)/\h'=H (qqd l s).2:=by
 refine mh func261 ntmps261 rfl ae rfl λE hN hh hu hb iq ju=>?_;simp[go_sem]at hb;simp-dsimp[go_sem,hN];refine td (α:=TS) l.length (λn x=>ui (l.drop n) x=ui l s) (λn x=>⟨[(0,.ptr c 0),(1,.slice (l.map St.c)),(10,.slice (l.map St.c)),(11,I l.length),(12,I n)],H x⟩) s ac (Wk.mk af ac (T.und' _) qfa) ?_;intro n x hn hI;have hw:=jj hn hb.1;simp-dsimp[go_sem,hN];refine ii ?_ ?_<;>intro hc<;>simp at hc
 .rw[jv hc,ui]at hI;have il:SizeOf.sizeOf l[n]<SizeOf.sizeOf l:=gb (dk hc);simp-dsimp[go_sem,hN,hc];refine iy (xx7 (T.ext [.cells l[n].x] ag) x l[n] dp (hl _ (dk hc))) ?_;rintro r h' ⟨rfl,rfl⟩;simp-dsimp[go_sem,hN];refine ii ?_ ?_<;>intro h1<;>simp at h1
  .rw[if_pos h1]at hI;simp-dsimp[go_sem,hN];rw[qqd,xm,<-hI,if_pos h1];exact⟨_,.refl _,H (stT l[n] x).2,rfl,ac,bm,T.und' _,rfl,rfl⟩
  .rw[if_neg aa]at hI;simp-dsimp[go_sem,hN,hw];exact⟨hc,_,hI,Wk.mk qgf ac (T.und' _) qfa⟩
 rw[cq aa,ui]at hI;simp-dsimp[go_sem,hN];refine td (α:=List (ig×Int)) l.length (λn v=>qph (l.drop n) v=qph l x.visible) (λn v=>⟨[(0,.ptr c 0),(23,.slice (l.map St.c)),(24,I l.length),(25,I n)],H ⟨v,x.loops,x.all⟩⟩) x.visible ac (Wk.mk qgf ac (T.und' _) qfa) ?_;intro n v hn hJ;have hw:=jj hn hb.1;simp-dsimp[go_sem,hN];refine ii ?_ ?_<;>intro hc<;>simp at hc
 .rw[jv hc,qph]at hJ;simp-dsimp[go_sem,hN,hc];refine ii ?_ ?_<;>intro h1<;>simp at h1
  .rw[if_pos h1]at hJ;simp-dsimp[go_sem,hN];refine jt 6 mixed ae ae ?_;simp-dsimp[go_sem,hN,T.lc',T.la',T.sa',hw];exact⟨hc,_,hJ,Wk.mk qgf ac (T.und' _) qfa⟩
  .rw[if_neg h1]at hJ;simp-dsimp[go_sem,hN,hw];exact⟨hc,_,hJ,Wk.mk qgf ac (T.und' _) qfa⟩
 .rw[cq aa,qph]at hJ;simp-dsimp[go_sem,hN];rw[qqd,xm,<-hI,if_neg ac,hJ];exact⟨_,.refl _,H ⟨qph l x.visible,x.loops,x.all⟩,rfl,ac,bm,T.und' _,rfl,rfl⟩
termination_by SizeOf.sizeOf l
theorem xx7{H:TS->g9}{n0:Nat}(T:TH c a b d H n0)(s:TS)(t:St)(dp:Nat)(ht:okS t dp) :
  ACalls prog 290 [.ptr c 0,.agg t.x] (H s) λr h'=>r=.ret (I (stT t s).1)/\h'=H (stT t s).2:=by
 refine mh func290 ntmps290 rfl ae rfl λE hN hh hu hb iq ju=>?_;simp-dsimp[go_sem,hN];refine iy (xya (T.ext [.cells t.x] ag) s t ?_ ?_) ?_
 .exact λh0=>qy7 ht h0
 .exact λh0=>qz2 ht h0
 rintro r h' ⟨rfl,rfl⟩;have vx:=((qso t dp).1 ht).2.1;have qpn:=((qso t dp).1 ht).2.2;have lt1:=St.body_le t;have lt2:=St.els_le t;have lb0:∀(s:TS) (l:g9),(H s++l).length=n0+l.length:=λs l=>by rw[c7,T.len]
 rw[xjv,qwc];simp-dsimp[go_sem,hN];refine ii ?_ ?_<;>intro h1<;>simp at h1
 .rw[if_pos h1];simp-dsimp[go_sem,hN];exact⟨_,.refl _,H s,rfl,ac,ac,hu,rfl,rfl⟩
 rw[if_neg aa];simp-dsimp[go_sem,hN];refine ii ?_ ?_<;>intro h2<;>simp at h2
 .rw[if_pos h2];simp-dsimp[go_sem,hN];refine iy (xiv (T.ext [.cells t.x] ag) s t.name _) ?_;rintro r h' ⟨rfl,rfl⟩;simp-dsimp[go_sem,hN];exact⟨_,.refl _,H (s.decl t.name (uf s.visible t).1),rfl,ac,bm,T.und' _,av,av⟩
 rw[if_neg h2];simp-dsimp[go_sem,hN];refine ii ?_ ?_<;>intro h3<;>simp at h3
 .rw[if_pos h3];simp-dsimp[go_sem,hN];refine jt 11 mixed ae ae ?_;rcases hk:kz s.visible t.name with _|ty
  .simp-dsimp[go_sem,hN,T.lc',T.la',hk];exact⟨_,.refl _,H s,rfl,ac,bm,T.und' _,av,av⟩
  .simp-dsimp[go_sem,hN,T.lc',T.la',hk];refine jt 6 mixed ae ae ?_;rcases hl:kz s.loops t.name with _|bo
   .simp-dsimp[go_sem,hN,T.lc',T.lb',hl];refine ii ?_ ?_<;>intro h4<;>simp at h4
    .simp-dsimp[go_sem,hN];exact⟨_,.refl _,H s,rfl,ac,bm,T.und' _,av,av⟩
    .simp-dsimp[go_sem,hN];exact⟨_,.refl _,H s,rfl,ac,bm,T.und' _,av,av⟩
   .simp-dsimp[go_sem,hN,T.lc',T.lb',hl];refine ii (λh4=>?_) (λh4=>?_)
    .simp-dsimp[go_sem,hN];exact⟨_,.refl _,H s,rfl,ac,bm,T.und' _,av,av⟩
    .simp-dsimp[go_sem,hN];refine ii ?_ ?_<;>intro h5<;>simp at h5
     .simp-dsimp[go_sem,hN];exact⟨_,.refl _,H s,rfl,ac,bm,T.und' _,av,av⟩
     .simp-dsimp[go_sem,hN];exact⟨_,.refl _,H s,rfl,ac,bm,T.und' _,av,av⟩
 rw[if_neg h3];simp-dsimp[go_sem,hN];refine ii ?_ ?_<;>intro h4<;>simp at h4
 .rw[if_pos h4];simp-dsimp[go_sem,hN]
  repeat refine⟨af,?_⟩
  refine ii ?_ ?_<;>intro h5<;>simp at h5
  .simp-dsimp[go_sem,hN];exact⟨_,.refl _,H s,rfl,ac,bm,T.und' _,av,av⟩
  .simp-dsimp[go_sem,hN];exact⟨_,.refl _,H s,rfl,ac,bm,T.und' _,av,av⟩
 rw[if_neg h4];simp-dsimp[go_sem,hN];refine ii ?_ ?_<;>intro h5<;>simp at h5
 .rw[if_pos h5];simp-dsimp[go_sem,hN];refine ii ?_ ?_<;>intro h6<;>simp at h6
  .simp-dsimp[go_sem,hN];exact⟨_,.refl _,H s,rfl,ac,bm,T.und' _,av,av⟩
  .simp-dsimp[go_sem,hN];exact⟨_,.refl _,H s,rfl,ac,bm,T.und' _,av,av⟩
 rw[if_neg h5];simp-dsimp[go_sem,hN];refine ii ?_ ?_<;>intro h6<;>simp at h6
 .rw[if_pos h6];simp-dsimp[go_sem,hN];refine ii ?_ ?_<;>intro h7<;>simp at h7
  .simp-dsimp[go_sem,hN];exact⟨_,.refl _,H s,rfl,ac,bm,T.und' _,av,av⟩
  .simp-dsimp[go_sem,hN];exact⟨_,.refl _,H s,rfl,ac,bm,T.und' _,av,av⟩
 rw[if_neg h6];simp-dsimp[go_sem,hN];refine ii ?_ ?_<;>intro h7<;>simp at h7
 .rw[if_pos h7];simp-dsimp[go_sem,hN];refine ii ?_ ?_<;>intro h8<;>simp at h8
  .simp-dsimp[go_sem,hN];exact⟨_,.refl _,H s,rfl,ac,bm,T.und' _,av,av⟩
  rw[if_neg aa];simp-dsimp[go_sem,hN];refine iy (qep (T.ext [.cells t.x] ag) s t.body (dp+1) vx) ?_;rintro r h' ⟨rfl,rfl⟩;simp-dsimp[go_sem,hN];refine ii ?_ ?_<;>intro h9<;>simp at h9
  .simp-dsimp[go_sem,hN];exact⟨_,.refl _,H (qqd t.body s).2,rfl,ac,bm,T.und' _,av,av⟩
  rw[if_neg af];simp-dsimp[go_sem,hN,lb0,T.len];refine iy (qep (T.ext [.cells t.x] ag) (qqd t.body s).2 t.els (dp+1) qpn) ?_;rintro r h' ⟨rfl,rfl⟩;simp-dsimp[go_sem,hN];exact⟨_,.refl _,H (qqd t.els (qqd t.body s).2).2,rfl,ac,bm,T.und' _,av,av⟩
 rw[if_neg h7];simp-dsimp[go_sem,hN];refine ii ?_ ?_<;>intro h8<;>simp at h8
 .rw[if_pos h8];simp-dsimp[go_sem,hN]
  repeat refine⟨af,?_⟩
  refine ii ?_ ?_<;>intro h9<;>simp at h9
  .simp-dsimp[go_sem,hN];exact⟨_,.refl _,H s,rfl,ac,bm,T.und' _,av,av⟩
  rw[if_neg af];simp-dsimp[go_sem,hN];refine iy (xiv (T.ext [.cells t.x] ag) s t.name 1) ?_;rintro r h' ⟨rfl,rfl⟩;simp-dsimp[go_sem,hN];refine jt 6 mixed ae ae ?_;simp-dsimp[go_sem,hN,T.lc',T.lb',T.sb',T.len];refine iy (qep (T.ext [.cells t.x] ag) ⟨lx s.visible t.name 1,lx s.loops t.name true,lx s.all t.name 1⟩ t.body (dp+1) vx) ?_;rintro r h' ⟨rfl,rfl⟩;simp-dsimp[go_sem,hN];refine jt 6 mixed ae ae ?_;simp-dsimp[go_sem,hN,T.lc',T.la',T.sa',T.len];exact⟨_,.refl _,H ⟨qog (qqd t.body ⟨lx s.visible t.name 1,lx s.loops t.name true,lx s.all t.name 1⟩).2.visible t.name,(qqd t.body ⟨lx s.visible t.name 1,lx s.loops t.name true,lx s.all t.name 1⟩).2.loops,(qqd t.body ⟨lx s.visible t.name 1,lx s.loops t.name true,lx s.all t.name 1⟩).2.all⟩,rfl,ac,bm,T.und' _,av,av⟩
 rw[if_neg h8];simp-dsimp[go_sem,hN];exact⟨_,.refl _,H s,rfl,ac,bm,T.und' _,av,av⟩
termination_by SizeOf.sizeOf t
end
end
def vf(h:g9)(p:Proc)(s:TS):g9:=h++[.cells p.c,.map (mr I s.visible),.map (mr Bo s.loops),.map (mr I s.all),.cells [.mapr (h.length+1),.mapr (h.length+2),.mapr (h.length+3)]]
theorem jb2(h:g9)(hu:hUnder h.length h=true)(p:Proc):TH (h.length+4) (h.length+1) (h.length+2) (h.length+3) (vf h p) (h.length+5) where
 len:=λs=>by simp[vf]
 hc:=aa
 ha:=aa
 hb:=aa
 hd:=aa
 lc:=λs=>by simp[vf]
 la:=λs=>by simp[vf]
 lb:=λs=>by simp[vf]
 ld:=λs=>by simp[vf]
 sa:=λs v=>by simp[vf]
 sb:=λs v=>by simp[vf]
 sd:=λs v=>by simp[vf]
 und:=λs=>by
  rw[vf,tj hu];have k1:∀n l,(AObj.map (mr I l)).under n=true:=xd9 (λ_ _=>rfl);have k2:∀n l,(AObj.map (mr Bo l)).under n=true:=xd9 (λ_ _=>rfl);simp only[hUnder,k1,k2,fa,dh];simp[go_sem]
set_option maxHeartbeats 2000000 in
theorem jk4(p:Proc)(h:g9):ACalls prog 224 [.agg p.c] h λr h'=>r=.ret (.tuple [.top,I (qtb p)])/\h'=h:=by
 refine mh func224 ntmps224 rfl ae rfl λE hN hh hu hb iq ju=>?_;simp[go_sem]at hb;have T:=jb2 h hu p;simp-dsimp[go_sem,hN];refine iv (xns p) ?_;simp-dsimp[go_sem,hN];refine ii ?_ ?_<;>intro h0<;>simp at h0
 .simp-dsimp[go_sem,hN];refine⟨.tuple [.top,_],.tuple ⟨.top _,.refl _,trivial⟩,h,?_⟩;rw[qtb,if_pos h0];simp[go_sem,hu]
 have jm:p.params.length<=6:=by grind[qps,xad]
 simp-dsimp[go_sem,hN];refine td (α:=TS) p.params.length (λn x=>qum (p.params.drop n) x=qum p.params ⟨[],[],[]⟩/\(p.params.drop n).any (λx=>decide (x.ty=3))=p.params.any (λx=>decide (x.ty=3))) (λn x=>⟨[(1,.ptr h.length 0),(5,.ptr (h.length+4) 0),(23,.slice (p.params.map Param.c)),(24,I p.params.length),(25,I n)],vf h p x⟩) ⟨[],[],[]⟩ ac (Wk.mk qgf (by simp[go_sem,vf,mr,ra]) (T.und' _) qhc) ?_;intro n x hn ⟨hI,hJ⟩;have hw:=jj hn hb.2.1.1;simp-dsimp[go_sem,hN];refine ii ?_ ?_<;>intro hc<;>simp at hc
 .rw[jv hc]at hI hJ;rw[qjd]at hJ;rw[qum,fj]at hI;simp-dsimp[go_sem,hN,hc];refine ii ?_ ?_<;>intro h1<;>simp at h1
  .simp-dsimp[go_sem,hN];refine⟨.tuple [.top,_],.tuple ⟨.top _,.refl _,trivial⟩,h,?_⟩;rw[qtb,if_neg aa,if_pos af];simp[go_sem,hu,vf,hwk.app0]
  simp-dsimp[go_sem,hN];refine iy (xiv (T.ext [.cells p.params[n].c] ag) x p.params[n].name p.params[n].ty) ?_;rintro r h' ⟨rfl,rfl⟩;simp-dsimp[go_sem,hN,hw];exact⟨hc,_,⟨hI,by rw[<-hJ];simp[h1]⟩,Wk.mk qgf ac (T.und' _) qhc⟩
 rw[cq aa]at hI hJ;have x0:∀(x:TS) (l:g9),(vf h p x++l)[h.length]?=some (.cells p.c):=λx l=>by simp[vf]
 have x1:∀(x:TS) (o:AObj) (l:g9),(vf h p x++o::l)[h.length+5]?=some o:=λx o l=>by
  rw[cx (by rw[T.len];omega),T.len,fe];rfl
 have x2:∀(x:TS) (o o':AObj) (l:g9),(vf h p x++o::l).set (h.length+5) o'=vf h p x++o'::l:=λx o o' l=>by
  rw[fk _ _ (by rw[T.len];omega),T.len,fe];rfl
 have k2:∀n l,(AObj.map (mr Bo l)).under n=true:=xd9 (λ_ _=>rfl);have xu:∀(x:TS) (m:List (ig×Bool)),hUnder (vf h p x++[AObj.map (mr Bo m)]).length (vf h p x++[AObj.map (mr Bo m)])=true:=λx m=>by
  rw[c7,tj (T.und' x)];simp only[hUnder,k2,fa]
 simp-dsimp[go_sem,hN,x0];refine iv (xwg p aa) ?_;simp-dsimp[go_sem,hN];refine td (α:=List (ig×Bool)) (qrq p).length (λn m=>qx8 m ((qrq p).drop n)=qx8 [] (qrq p)) (λn m=>⟨[(1,.ptr h.length 0),(5,.ptr (h.length+4) 0),(8,.mapr (h.length+5)),(41,.slice ((qrq p).map ja)),(42,I (qrq p).length),(43,I n)],vf h p x++[AObj.map (mr Bo m)]⟩) [] ac (Wk.mk af (by simp[mr,ra]) (xu _ _) (by simp[go_sem,T.len];try omega)) ?_;intro n m hn hM;have qm:(qrq p).length<=407:=by
  have:=qwf qra wu List.length xlo (λs _=>by simp[wu]) p.body 1 (401,p.params.map (·.name))
  simp only[eo]at this;unfold qrq;omega
 have hw:=jj hn aa;simp-dsimp[go_sem,hN];refine ii ?_ ?_<;>intro hc<;>simp at hc
 .rw[jv hc,qx8]at hM;rcases hk:kz m (qrq p)[n]with _|bo
  .rw[hk]at hM;simp-dsimp[go_sem,hN,hc,x1,x2,hk,ja,hw];exact⟨_,hM,Wk.mk af ac (xu _ _) qhc⟩
  .rw[hk]at hM;simp-dsimp[go_sem,hN,hc,x1,x2,hk,ja,hw];refine ii (λh1=>?_) (λh1=>?_)
   .simp-dsimp[go_sem,hN];refine⟨.tuple [.top,_],.tuple ⟨.top _,.refl _,trivial⟩,h,?_⟩;rw[qtb,if_neg aa,if_neg af,if_pos af];simp[go_sem,hu,vf,hwk.app0]
   .simp-dsimp[go_sem,hN,x1,x2,hw];subst h1;exact⟨hc,_,hM,Wk.mk af ac (xu _ _) qhc⟩
 rw[cq aa,qx8]at hM;have y0:∀(x:TS) (l:g9),(vf h p x++l)[h.length+4]?=some (.cells [.mapr (h.length+1),.mapr (h.length+2),.mapr (h.length+3)]):=λx l=>T.lc' x l;simp-dsimp[go_sem,hN,x0];refine iy (qep (T.ext [AObj.map (mr Bo m)] (by simp_all[hUnder,fa])) x p.body 1 (xow h0)) ?_;rintro r h' ⟨rfl,rfl⟩;simp-dsimp[go_sem,hN,y0];refine⟨.tuple [.top,_],.tuple ⟨.top _,.refl _,trivial⟩,h,?_⟩;rw[qtb,if_neg aa,if_neg af,if_neg af,<-hI];simp[go_sem,hu,vf,hwk.app0,qum]
theorem xru(p:Proc):APure prog 201 [.agg p.c] (I (qtb p)):=by
 refine kl func201 ntmps201 rfl ae rfl rfl λE h hN hh hu hb=>?_;simp-dsimp[go_sem,hN];refine iy (jk4 p _) ?_;rintro r h' ⟨rfl,rfl⟩;simp-dsimp[go_sem,hN]
theorem xnl(p:Proc)(l:List V):APure prog 174 [.agg p.c,.slice (l.map V.c)] (I (qrd p l)):=by
 refine kl func174 ntmps174 rfl ae rfl rfl λE h hN hh hu hb=>?_;simp[go_sem]at hb;simp-dsimp[go_sem,hN];refine iv (xru p) ?_;simp-dsimp[go_sem,hN];refine ii ?_ ?_<;>intro h0<;>simp at h0
 .simp-dsimp[go_sem,hN];rw[qrd,if_pos aa]
 rw[qrd,if_neg aa];have ij:l.length=p.params.length:=aa;simp-dsimp[go_sem,hN];refine jz l.length (λn=>qur (p.params.drop n) (l.drop n)=qur p.params l) (λn=>⟨[(2,.ptr h.length 0),(20,.slice (l.map V.c)),(21,I l.length),(22,I n)],h++[.cells p.c]⟩) ac mj ?_;intro n hn hI;have hw:=jj hn hb.2.1;simp-dsimp[go_sem,hN];refine ii ?_ ?_<;>intro hc<;>simp at hc
 .have sg:n<p.params.length:=aa;rw[jv hc,jv sg,qur]at hI;simp-dsimp[go_sem,hN,hc,sg];refine kq (jek l[n].s) ac ?_;simp-dsimp[go_sem,hN,sg]
  repeat refine⟨af,?_⟩
  refine ii (λh1=>?_) (λh1=>?_)
  .simp-dsimp[go_sem,hN];rw[<-hI];unfold xfb;simp at h1;grind
  .simp-dsimp[go_sem,hN,hw];refine⟨hc,by rw[<-hI];unfold xfb;simp at h1;grind,mj⟩
 .rw[cq aa,cq aa]at hI;simp-dsimp[go_sem,hN];exact hI.symm.trans (by simp[qur])
attribute [local go_sem] Cnt.c Cnt.plus Cnt.times Cnt.larger
set_option maxHeartbeats 1000000 in
theorem xgj(x y:Cnt):APure prog 226 [.agg x.c,.agg y.c] (.agg (x.plus y).c):=by
 refine kl func226 ntmps226 rfl ae rfl rfl λE h hN hh hu hb=>?_;simp-dsimp[go_sem,hN];refine jz 4 (λ_=>True) (λn=>⟨[(2,.ptr h.length 0),(3,.ptr (h.length+1) 0),(4,.ptr (h.length+2) 0),(6,I n)],h++[.cells ((x.plus y).c.take n++x.c.drop n),.cells y.c,.cells [I 0,I 0,I 0,I 0]]⟩) trivial mj ?_;intro n hn _;have hw:=jj hn aa;have cases:n=0\/n=1\/n=2\/n=3\/n=4:=aa;rcases cases with rfl|rfl|rfl|rfl|rfl
 .simp-dsimp[go_sem,hN];refine jt 9 mixed ae ae ?_;simp-dsimp[go_sem,hN,qm5,qpx,qpv];exact(Wk.mk ai ac am ag)
 .simp-dsimp[go_sem,hN];refine jt 9 mixed ae ae ?_;simp-dsimp[go_sem,hN,qm5,qpx,qpv];exact(Wk.mk ai ac am ag)
 .simp-dsimp[go_sem,hN];refine jt 9 mixed ae ae ?_;simp-dsimp[go_sem,hN,qm5,qpx,qpv];exact(Wk.mk ai ac am ag)
 .simp-dsimp[go_sem,hN];refine jt 9 mixed ae ae ?_;simp-dsimp[go_sem,hN,qm5,qpx,qpv];exact(Wk.mk ai ac am ag)
 .simp-dsimp[go_sem,hN]
set_option maxHeartbeats 1000000 in
theorem xxy(x y:Cnt):APure prog 266 [.agg x.c,.agg y.c] (.agg (x.larger y).c):=by
 refine kl func266 ntmps266 rfl ae rfl rfl λE h hN hh hu hb=>?_;simp-dsimp[go_sem,hN];refine jz 4 (λ_=>True) (λn=>⟨[(2,.ptr h.length 0),(3,.ptr (h.length+1) 0),(4,.ptr (h.length+2) 0),(6,I n)],h++[.cells ((x.larger y).c.take n++x.c.drop n),.cells y.c,.cells [I 0,I 0,I 0,I 0]]⟩) trivial mj ?_;intro n hn _;have hw:=jj hn aa;have cases:n=0\/n=1\/n=2\/n=3\/n=4:=aa;rcases cases with rfl|rfl|rfl|rfl|rfl
 .simp-dsimp[go_sem,hN];refine jt 8 mixed ae ae ?_;simp-dsimp[go_sem,hN,xdt,qpx,qpv];exact(Wk.mk ai ac am ag)
 .simp-dsimp[go_sem,hN];refine jt 8 mixed ae ae ?_;simp-dsimp[go_sem,hN,xdt,qpx,qpv];exact(Wk.mk ai ac am ag)
 .simp-dsimp[go_sem,hN];refine jt 8 mixed ae ae ?_;simp-dsimp[go_sem,hN,xdt,qpx,qpv];exact(Wk.mk ai ac am ag)
 .simp-dsimp[go_sem,hN];refine jt 8 mixed ae ae ?_;simp-dsimp[go_sem,hN,xdt,qpx,qpv];exact(Wk.mk ai ac am ag)
 .simp-dsimp[go_sem,hN]
set_option maxHeartbeats 1000000 in
theorem jjg(x:Cnt)(k:Int):APure prog 267 [.agg x.c,I k] (.agg (x.times k).c):=by
 refine kl func267 ntmps267 rfl ae rfl rfl λE h hN hh hu hb=>?_;simp-dsimp[go_sem,hN];refine jz 4 (λ_=>True) (λn=>⟨[(1,I k),(2,.ptr h.length 0),(4,.ptr (h.length+1) 0),(6,I n)],h++[.cells ((x.times k).c.take n++x.c.drop n),.cells [I 0,I 0,I 0,I 0]]⟩) trivial mj ?_;intro n hn _;have hw:=jj hn aa;have cases:n=0\/n=1\/n=2\/n=3\/n=4:=aa;rcases cases with rfl|rfl|rfl|rfl|rfl
 .simp-dsimp[go_sem,hN,qm5,qpx,qpv];exact(Wk.mk ai ac am ag)
 .simp-dsimp[go_sem,hN,qm5,qpx,qpv];exact(Wk.mk ai ac am ag)
 .simp-dsimp[go_sem,hN,qm5,qpx,qpv];exact(Wk.mk ai ac am ag)
 .simp-dsimp[go_sem,hN,qm5,qpx,qpv];exact(Wk.mk ai ac am ag)
 .simp-dsimp[go_sem,hN]
attribute [local go_sem] Cnt.c
theorem qdh(e:Ex):APure prog 265 [.agg e.x] (I (xz e)):=by
 refine kl func265 ntmps265 rfl ae rfl rfl λE h hN hh hu hb=>?_;simp[go_sem]at hb;rw[xu0];obtain⟨G,hG⟩:∃G:Int,G=if e.op=22\/e.op=23\/e.op=24 then 1 else 0:=⟨_,rfl⟩
 rw[<-hG];simp-dsimp[go_sem,hN];refine ii ?_ ?_<;>intro h1<;>simp at h1
 .simp-dsimp[go_sem,hN,decide_eq_true h1];have hv:G=1:=aa;refine td (α:=Int) e.args.length (λn m=>wh (e.args.drop n) m=wh e.args G) (λn m=>⟨[(1,.ptr h.length 0),(3,I m),(13,.slice (e.args.map Ex.c)),(14,I e.args.length),(15,I n)],h++[.cells e.x]⟩) G ac (Wk.mk ai ac am qho) ?_;intro n m hn hI;have hw:=jj hn hb.2.1;simp-dsimp[go_sem,hN];refine ii ?_ ?_<;>intro hc<;>simp at hc
  .rw[jv hc,wh]at hI;have il:SizeOf.sizeOf e.args[n]<SizeOf.sizeOf e:=Ex.arg_lt (dk hc);simp-dsimp[go_sem,hN,hc];refine iv (qdh e.args[n]) ?_;simp-dsimp[go_sem,hN,hw];exact⟨hc,_,hI,mj⟩
  .rw[cq aa,wh]at hI;simp-dsimp[go_sem,hN,qm5];rw[hI]
 simp-dsimp[go_sem,hN];refine ii ?_ ?_<;>intro h2<;>simp at h2
 .simp-dsimp[go_sem,hN,decide_eq_true h2];have hv:G=1:=aa;refine td (α:=Int) e.args.length (λn m=>wh (e.args.drop n) m=wh e.args G) (λn m=>⟨[(1,.ptr h.length 0),(3,I m),(13,.slice (e.args.map Ex.c)),(14,I e.args.length),(15,I n)],h++[.cells e.x]⟩) G ac (Wk.mk ai ac am qho) ?_;intro n m hn hI;have hw:=jj hn hb.2.1;simp-dsimp[go_sem,hN];refine ii ?_ ?_<;>intro hc<;>simp at hc
  .rw[jv hc,wh]at hI;have il:SizeOf.sizeOf e.args[n]<SizeOf.sizeOf e:=Ex.arg_lt (dk hc);simp-dsimp[go_sem,hN,hc];refine iv (qdh e.args[n]) ?_;simp-dsimp[go_sem,hN,hw];exact⟨hc,_,hI,mj⟩
  .rw[cq aa,wh]at hI;simp-dsimp[go_sem,hN,qm5];rw[hI]
 simp-dsimp[go_sem,hN];refine ii ?_ ?_<;>intro h3<;>simp at h3
 .simp-dsimp[go_sem,hN];have hv:G=1:=aa;refine td (α:=Int) e.args.length (λn m=>wh (e.args.drop n) m=wh e.args G) (λn m=>⟨[(1,.ptr h.length 0),(3,I m),(13,.slice (e.args.map Ex.c)),(14,I e.args.length),(15,I n)],h++[.cells e.x]⟩) G ac (Wk.mk ai ac am qho) ?_;intro n m hn hI;have hw:=jj hn hb.2.1;simp-dsimp[go_sem,hN];refine ii ?_ ?_<;>intro hc<;>simp at hc
  .rw[jv hc,wh]at hI;have il:SizeOf.sizeOf e.args[n]<SizeOf.sizeOf e:=Ex.arg_lt (dk hc);simp-dsimp[go_sem,hN,hc];refine iv (qdh e.args[n]) ?_;simp-dsimp[go_sem,hN,hw];exact⟨hc,_,hI,mj⟩
  .rw[cq aa,wh]at hI;simp-dsimp[go_sem,hN,qm5];rw[hI]
 .simp-dsimp[go_sem,hN];have hv:G=0:=aa;refine td (α:=Int) e.args.length (λn m=>wh (e.args.drop n) m=wh e.args G) (λn m=>⟨[(1,.ptr h.length 0),(3,I m),(13,.slice (e.args.map Ex.c)),(14,I e.args.length),(15,I n)],h++[.cells e.x]⟩) G ac (Wk.mk ai ac am qho) ?_;intro n m hn hI;have hw:=jj hn hb.2.1;simp-dsimp[go_sem,hN];refine ii ?_ ?_<;>intro hc<;>simp at hc
  .rw[jv hc,wh]at hI;have il:SizeOf.sizeOf e.args[n]<SizeOf.sizeOf e:=Ex.arg_lt (dk hc);simp-dsimp[go_sem,hN,hc];refine iv (qdh e.args[n]) ?_;simp-dsimp[go_sem,hN,hw];exact⟨hc,_,hI,mj⟩
  .rw[cq aa,wh]at hI;simp-dsimp[go_sem,hN,qm5];rw[hI]
termination_by SizeOf.sizeOf e
mutual
theorem jij(t:St):APure prog 227 [.agg t.x] (.agg (qxi t).c):=by
 refine kl func227 ntmps227 rfl ae rfl rfl λE h hN hh hu hb=>?_;have lt1:=St.body_le t;have lt2:=St.els_le t;rw[xtv];simp-dsimp[go_sem,hN];refine ii ?_ ?_<;>intro h8<;>simp at h8
 .simp-dsimp[go_sem,hN];refine iv (qdh t.a) ?_;simp-dsimp[go_sem,hN];refine ii ?_ ?_<;>intro h3<;>simp at h3<;>simp-dsimp[go_sem,hN]
  .refine jt 5 mixed ae ae ?_;simp-dsimp (maxSteps:=1000000) [go_sem,hN];refine m6 (qdh t.b) ac ?_;simp-dsimp[go_sem,hN,qm5];simp[qmt,h3]
  refine ii ?_ ?_<;>intro h4<;>simp at h4<;>simp-dsimp[go_sem,hN]
  .simp[qmt,h4]
  refine ii ?_ ?_<;>intro h7<;>simp at h7<;>simp-dsimp[go_sem,hN]
  .simp[qmt,h7]
  refine ii ?_ ?_<;>intro h5<;>simp at h5<;>simp-dsimp[go_sem,hN]
  .refine jt 8 mixed ae ae ?_;simp-dsimp[go_sem,hN];refine m6 (xfp t.body) ac ?_;simp-dsimp[go_sem,hN];refine m6 (xfp t.els) ac ?_;simp-dsimp[go_sem,hN];refine m6 (xxy (sf t.body) (sf t.els)) ac ?_;simp-dsimp[go_sem,hN];refine iv (xgj ⟨1,xz t.a,0,0⟩ ((sf t.body).larger (sf t.els))) ?_;simp-dsimp[go_sem,hN];rw[if_pos h5];simp[qmt,h5]
  refine ii ?_ ?_<;>intro h6<;>simp at h6<;>simp-dsimp[go_sem,hN]
  .refine jt 5 mixed ae ae ?_;simp-dsimp[go_sem,hN];refine m6 (qdh t.b) ac ?_;simp-dsimp[go_sem,hN,qm5];refine jt 7 mixed ae ae ?_;simp-dsimp[go_sem,hN];refine m6 (xfp t.body) ac ?_;simp-dsimp[go_sem,hN];refine m6 (jjg (sf t.body) t.max) ac ?_;simp-dsimp[go_sem,hN];refine iv (xgj ⟨pi (1+t.max),mn (pi (xz t.a+xz t.b)) 16385,0,0⟩ ((sf t.body).times t.max)) ?_;simp-dsimp[go_sem,hN];rw[if_neg aa,if_pos h6];simp[qmt,h6]
  rw[if_neg h5,if_neg h6];simp[qmt,h3,h4,h5,h6,h7,h8]
 .simp-dsimp[go_sem,hN];refine ii (λh3=>by simp at h3;omega) (λh3=>?_);simp at h3;simp-dsimp[go_sem,hN];refine ii (λh4=>by simp at h4;omega) (λh4=>?_);simp at h4;simp-dsimp[go_sem,hN];refine ii (λh7=>by simp at h7;omega) (λh7=>?_);simp at h7;simp-dsimp[go_sem,hN];refine ii (λh5=>by simp at h5;omega) (λh5=>?_);simp at h5;simp-dsimp[go_sem,hN];refine ii (λh6=>by simp at h6;omega) (λh6=>?_);simp at h6;simp-dsimp[go_sem,hN];rw[if_neg h5,if_neg h6];simp[qmt,h3,h4,h5,h6,h7,h8]
termination_by SizeOf.sizeOf t
theorem xfp(l:List St):APure prog 204 [.slice (l.map St.c)] (.agg (sf l).c):=by
 refine kl func204 ntmps204 rfl ae rfl rfl λE h hN hh hu hb=>?_;simp[go_sem]at hb;simp-dsimp[go_sem,hN];refine td (α:=Cnt) l.length (λn c=>qrm (l.drop n) c=sf l) (λn c=>⟨[(2,.ptr h.length 0),(3,.ptr (h.length+1) 0),(6,.slice (l.map St.c)),(7,I l.length),(8,I n)],h++[.cells [I 0,I 0,I 0,I 0],.cells c.c]⟩) ⟨0,0,0,0⟩ ac (mj (by simp[go_sem,Cnt.c])) ?_;intro n c hn hI;have hw:=jj hn hb.1;simp-dsimp[go_sem,hN];refine ii ?_ ?_<;>intro hc<;>simp at hc
 .rw[jv hc,qrm]at hI;have il:SizeOf.sizeOf l[n]<SizeOf.sizeOf l:=gb (dk hc);simp-dsimp[go_sem,hN,hc];refine jt 3 mixed ae ae ?_;simp-dsimp[go_sem,hN,hc];refine m6 (jij l[n]) ac ?_;simp-dsimp[go_sem,hN,hc];refine iv (xgj c (qxi l[n])) ?_;simp-dsimp[go_sem,hN,hc,hw];exact⟨_,hI,mj⟩
 .rw[cq aa,qrm]at hI;simp-dsimp[go_sem,hN];subst hI;simp[Cnt.c]
termination_by SizeOf.sizeOf l
end
end Go.Proofs.YtolejdhnnchfpaaGreatDoor
