/- Part 25 of a proof. -/
import Derived.Laws.Strings
import Derived.Test.YtolejdhnnchfpaaGreatDoorQ17
import Derived.Test.YtolejdhnnchfpaaGreatDoorQ24
set_option linter.all false
namespace Go.Cw
open Go Go.Abs
structure Shard where
 node:Int
 prs:List Pr
def Shard.c(x:Shard):List AV:=[I x.node,.slice (x.prs.map Pr.c)]
def rz(p:Plc)(txns:List Txn)(n:Int):Nat->LT
 | 0=>⟨[],[]⟩
 |m+1=>if p6 (l9 p (jn txns m)) n=true then⟨(rz p txns n m).glob++[⟨(m:Int),(vy p txns n m).all⟩],qp7 m (vy p txns n m) (rz p txns n m).qs⟩else rz p txns n m
def qsv(p:Plc)(txns:List Txn)(x:Shard):Nd:=⟨x.node,x.prs,rz p txns x.node txns.length,[],List.replicate txns.length false,List.replicate txns.length false⟩
def effZ:Eff:=⟨0,0,[],[],[],[],em,0⟩
def vt(p:Plc)(txns:List Txn)(l:List Shard):Sy:=⟨l.map (qsv p txns),[],List.replicate txns.length effZ⟩
section
variable (fmt:Int->ig) (procs:List Proc) (p:Plc) (txns:List Txn)
def qr9(σ:Sy):List Act:=σ.nds.zipIdx.flatMap λx=>((List.range txns.length).filter (qll p txns x.1)).map (Act.send x.2)
def qwh(σ:Sy):List Act:=(List.range σ.tr.length).map Act.dlv
def xag(σ:Sy):List Act:=σ.nds.zipIdx.flatMap λx=>((List.range txns.length).filter (qmx p txns x.1)).map (Act.exe x.2)
def wc(σ:Sy):List Act:=qr9 p txns σ++qwh σ++xag p txns σ
def sq(nd:Nd):Nat:=((List.range txns.length).filter λt=>p6 (l9 p (jn txns t)) nd.node&&!nd.sent.getD t false).length
def u0(nd:Nd):Nat:=((List.range txns.length).filter λt=>p6 (ma p (jn txns t)) nd.node&&!nd.exd.getD t false).length
def qor(l:List Nat):Nat:=l.foldr (· + ·) 0
def mu(σ:Sy):Nat:=17 * qor (σ.nds.map (sq p txns))+σ.tr.length+qor (σ.nds.map (u0 p txns))
def qrv(choices:List Int):Nat->Nat->Sy->Sy
 | 0,_,σ=>σ
 |f+1,step,σ=>match (wc p txns σ)[qrh choices step (wc p txns σ).length]? with
  |none=>σ
  |some a=>qrv choices f (step+1) (p7 fmt procs p txns σ a)
def xd2(l:List Shard)(choices:List Int):List Shard×List Eff :=
 let σ:=qrv fmt procs p txns choices (mu p txns (vt p txns l)) 0 (vt p txns l)
 (σ.nds.map λx=>⟨x.node,x.prs⟩,σ.efs)
end
section
variable {fmt:Int->ig} {procs:List Proc} {p:Plc} {txns:List Txn} {s:List Pr}
theorem xgc(hp:jy p=true)(n:Int):∀m,TabOk (vy p txns n) ((List.range m).filter λt=>p6 (l9 p (jn txns t)) n) (rz p txns n m)
 | 0=>by simp[rz,jix]
 |m+1=>by
  rw[rz,List.range_succ,List.filter_append];have ih:=xgc hp n m;by_cases h:p6 (l9 p (jn txns m)) n=true
  .rw[if_pos h];have:[m].filter (λt=>p6 (l9 p (jn txns t)) n)=[m]:=bx;rw[this];exact jey ih (qxf hp n m)
  .grind
theorem xjc(n t:Nat):(List.replicate n false).getD t false=false:=af
theorem xqu(hp:jy p=true)(hB:BatchIn fmt procs txns)(hs:l6 s)(h0:jl s=true){l:List Shard}(hn:l.map (·.node)=nq p)(hl:∀x∈l,jl x.prs=true/\l6 x.prs/\(∀q∈x.prs,ly p q.key=x.node)/\∀k,ly p k=x.node->jw x.prs k=jw s k) :
  SyOk fmt procs p txns s (vt p txns l):=by
 have hr:∀(x:Shard) t,uc p txns (qsv p txns x) t=false:=λx t=>by grind[uc,qsv,xjc]
 have hsd:∀(x:Shard) t,(qsv p txns x).sent.getD t false=false:=λx t=>xjc _ _;have hxd:∀(x:Shard) t,(qsv p txns x).exd.getD t false=false:=λx t=>xjc _ _;refine { nodes:=?_,nd:=λx hx=>?_,el:=by simp[vt],sx:=λx hx u hu=>?_,mt:=λm hm=>qip,mi:=λx hx m hm=>?_,has:=λy hy u hu=>?_,ef:=λx hx u h hu=>?_ }
 .rw[<-hn];simp[vt,qsv,qi3,Function.comp_def]
 .obtain⟨x0,o6,rfl⟩:=cy.1 hx;obtain⟨a1,a2,a3,a4⟩:=hl x0 o6;refine { ls:=by simp[qsv],le:=by simp[qsv],st:=a1,rg:=a2,ow:=a3,tb:=?_,ord:=λu hu=>?_,sp:=λu hu=>?_,xp:=λu hu=>?_,xs:=λu hu=>?_,get:=λk hk j hj hw=>?_,inb:=λm hm=>qip }
  .grind[qsv,xc,qju,xgc]
  .grind
  .grind
  .grind
  .grind
  .rw[xg1 hB hs h0 k 0 j aa hj λn hn' h1 h2=>?_]
   .exact a4 k hk
   .grind
 .obtain⟨x0,o6,rfl⟩:=cy.1 hx;rw[hxd]at hu;cases hu
 .obtain⟨x0,o6,rfl⟩:=cy.1 hx;cases hm
 .obtain⟨x0,o6,rfl⟩:=cy.1 hy;rw[hsd]at hu;cases hu
 .obtain⟨x0,o6,rfl⟩:=cy.1 hx;rw[hxd]at hu;cases hu
theorem xaf{σ:Sy}{a:Act}:a∈qr9 p txns σ↔∃i t,∃hi:i<σ.nds.length,t<txns.length/\qll p txns σ.nds[i] t=true/\a=.send i t:=by
 unfold qr9;simp only[qjt,cy,e9,ga,Prod.exists];constructor
 .grind
 .rintro⟨i,t,hi,ht,hc,rfl⟩;exact⟨σ.nds[i],i,List.mem_zipIdx_iff_getElem?.2 (cu hi),t,⟨ht,hc⟩,rfl⟩
theorem xa0{σ:Sy}{a:Act}:a∈xag p txns σ↔∃i t,∃hi:i<σ.nds.length,t<txns.length/\qmx p txns σ.nds[i] t=true/\a=.exe i t:=by
 unfold xag;simp only[qjt,cy,e9,ga,Prod.exists];constructor
 .grind
 .rintro⟨i,t,hi,ht,hc,rfl⟩;exact⟨σ.nds[i],i,List.mem_zipIdx_iff_getElem?.2 (cu hi),t,⟨ht,hc⟩,rfl⟩
theorem qzl{σ:Sy}{a:Act}:a∈qwh σ↔∃i,i<σ.tr.length/\a=.dlv i:=by grind[qwh]
theorem qvu{σ:Sy}{a:Act}:a∈wc p txns σ↔a∈qr9 p txns σ\/a∈qwh σ\/a∈xag p txns σ:=by simp[dw,wc]
theorem xqw(hp:jy p=true)(hB:BatchIn fmt procs txns)(hs:l6 s)(h0:jl s=true){σ:Sy}(Y:SyOk fmt procs p txns s σ){a:Act}(ha:a∈wc p txns σ):SyOk fmt procs p txns s (p7 fmt procs p txns σ a):=by
 rcases qvu.1 ha with h|h|h
 .grind[jj7,xaf]
 .grind[jet,qzl]
 .grind[je0,xa0]
theorem jkk(hp:jy p=true){σ:Sy}(Y:SyOk fmt procs p txns s σ)(ha:wc p txns σ=[]):∀t,t<txns.length->(∀y∈σ.nds,y.node∈l9 p (jn txns t)->y.sent.getD t false=true)/\∀x∈σ.nds,x.node∈ma p (jn txns t)->x.exd.getD t false=true:=by
 have kf:∀a,a∉wc p txns σ:=λa h=>by rw[ha]at h;cases h
 intro t
 induction t using Nat.strongRecOn with
 |ind t ih =>
  intro ht;have h1:∀y∈σ.nds,y.node∈l9 p (jn txns t)->y.sent.getD t false=true:=λy hy hpy=>by
   rcases hz:y.sent.getD t false with _|_
   .exfalso;have N:=Y.nd y hy;have hrt:uc p txns y t=false:=by
     unfold uc;split
     .rcases hx:y.exd.getD t false with _|_
      .rfl
      .rw[N.xs t hx hpy]at hz;cases hz
     .exact hz
    have hc:qll p txns y t=true:=qxp.2 ⟨hpy,hz,(N.granted hp).2 ⟨qxn.2 ⟨ht,hpy,hrt⟩,λj hj il=>by
     obtain⟨hj1,hj2,hj3⟩:=qxn.1 hj;obtain⟨g1,g2⟩:=ih j il hj1;exfalso;unfold uc at hj3;split at hj3
     .rename_i hx;rw[g2 y hy (qdp.1 hx)]at hj3;cases hj3
     .rw[g1 y hy hj2]at hj3;cases hj3⟩⟩
    obtain⟨i,hi,rfl⟩:=qja hy;exact kf _ (qvu.2 (.inl (xaf.2 ⟨i,t,hi,ht,hc,rfl⟩)))
   .rfl
  refine⟨h1,λx hx tc=>?_⟩;rcases hz:x.exd.getD t false with _|_
  .exfalso;have htr:σ.tr=[]:=by
    cases hh:σ.tr with
    |nil=>rfl
    |cons m l=>exact(kf (.dlv 0) (qvu.2 (.inr (.inl (qzl.2 ⟨0,by rw[hh];simp,rfl⟩))))).elim
   have lw:qr4 p (jn txns t) t x.node x.inbox=true:=by
    unfold qr4;rw[zg hp,dh,dr];intro m hm;have hmn:=xee (zg hp t) m hm;rw[<-Y.nodes]at hmn;obtain⟨y,hy,rfl⟩:=cy.1 hmn;obtain⟨z,g1,g2,g3,g4⟩:=Y.has y hy t (h1 y hy hm) x hx tc;rw[htr]at g1;have g1:=g1.resolve_left ac;exact gc.2 ⟨z,g1,by simp[g2,g3,g4]⟩
   have hc:qmx p txns x t=true:=qx4.2 ⟨tc,hz,lw⟩;obtain⟨i,hi,rfl⟩:=qja hx;exact kf _ (qvu.2 (.inr (.inr (xa0.2 ⟨i,t,hi,ht,hc,rfl⟩))))
  .rfl
def m5(p:Plc)(s:List Pr):List Shard:=if (jy p&&jl s)=true then(nq p).map λn=>⟨n,pq p s n⟩else []
theorem jd7(hp:jy p=true)(hB:BatchIn fmt procs txns)(hs:l6 s)(h0:jl s=true){σ:Sy}(Y:SyOk fmt procs p txns s σ)(ha:wc p txns σ=[]):(σ.nds.map λx=>(⟨x.node,x.prs⟩:Shard))=m5 p (qt fmt procs s txns).1/\σ.efs=(qt fmt procs s txns).2:=by
 have hd:=jkk hp Y ha;have qqj:ym fmt procs s txns txns.length=(qt fmt procs s txns).1:=by simp[gw,ym]
 have kp:jl (qt fmt procs s txns).1=true:=qqj▸xd4 hB hs h0 _;constructor
 .unfold m5;rw[if_pos af,<-Y.nodes,qi3];refine qjr λx hx=>?_;have N:=Y.nd x hx;have:x.prs=pq p (qt fmt procs s txns).1 x.node:=by
   refine xga N.st (xhx kp λk=>decide (ly p k=x.node)) λk=>?_;by_cases hk:ly p k=x.node
   .rw[xiz hk,<-qqj];refine N.get k hk _ (cn _) λt ht hw=>⟨λ_=>ht,λ_=>?_⟩
    exact(hd t ht).2 x hx (hk▸xlw (zg hp t) (xes hB hs ht hw))
   .rw[xau,xau]
    .rintro q hq rfl;have:=(e9.1 hq).2;exact hk af
    .rintro q hq rfl;exact hk (N.ow q hq)
  simp only[Function.comp];rw[<-this]
 .refine fh λt=>?_;by_cases ht:t<txns.length
  .rw[jel txns t ht];have it:=jhk (zg (txns:=txns) hp t);obtain⟨n,r,hr⟩:=List.exists_cons_of_ne_nil it;have th:=xt2 (zg (txns:=txns) hp t) n af;rw[<-Y.nodes]at th;obtain⟨x,hx,rfl⟩:=cy.1 th;exact Y.ef x hx t ht ((hd t ht).2 x hx af) af
  .rw[fq (by rw[Y.el];omega),fq (by rw[xhi];omega)]
theorem qw9:∀(l:List Nat) (i b:Nat) (hi:i<l.length),qor (l.set i b)+l[i]=qor l+b
 |x::l,0,b,hi=>by simp[qor];omega
 |x::l,i+1,b,hi=>by
  have:=qw9 l i b af;simp only[qj8,List.getElem_cons_succ];simp only[qor,List.foldr_cons]at this|-;omega
theorem filter_one{q r:Nat->Bool}{t n:Nat}(ht:t<n)(h1:q t=true)(h2:∀u,r u=(q u&&!decide (u=t))):((List.range n).filter r).length+1=((List.range n).filter q).length:=by
 have:(List.range n).filter r=((List.range n).filter q).erase t:=by
  rw[List.Nodup.erase_eq_filter (List.nodup_range.filter _),qki];refine qju λu _=>?_;rw[h2,Bool.and_comm];congr 1
 have hm:t∈(List.range n).filter q:=e9.2 ⟨ga.2 ht,h1⟩;have:=qj2 hm;rw[‹(List.range n).filter r=_›,List.length_erase_of_mem hm];omega
theorem xfl{l:List Bool}{i:Nat}(hi:i<l.length)(j:Nat):(!(l.set i true).getD j false)=(!l.getD j false&&!decide (j=i)):=af
theorem qy8{α:Type}[DecidableEq α]:∀(l m:List α),l.Nodup->(∀x∈l,x∈m)->l.length<=m.length
 | [],m,_,_=>dq _
 |x::l,m,hn,hs=>by
  obtain⟨h1,h2⟩:=qiy.1 hn;have hx:=hs x ac;have ih:=qy8 l (m.erase x) h2 λy hy=>(List.mem_erase_of_ne af).2 (hs y ck);rw[List.length_erase_of_mem hx]at ih;have:=qj2 hx;simp only[dy];omega
theorem xrf(hp:jy p=true)(f:Foot)(hn:(nq p).length<=16):(ma p f).length<=16:=by
 by_cases h:pf p f=true
 .refine dv ?_ hn;exact qy8 _ _ ((jjc p f).imp λh=>by omega) λx hx=>xt2 h x hx
 .grind[ma]
theorem xno(hp:jy p=true)(hn:(nq p).length<=16){σ:Sy}(Y:SyOk fmt procs p txns s σ){a:Act}(ha:a∈wc p txns σ):mu p txns (p7 fmt procs p txns σ a)<mu p txns σ:=by
 rcases qvu.1 ha with h|h|h
 .obtain⟨i,t,hi,ht,hc,rfl⟩:=xaf.1 h;obtain⟨c1,c2,c3⟩:=qxp.1 hc;have hd:p7 fmt procs p txns σ (.send i t)=⟨σ.nds.set i (pm p txns σ.nds[i] t),σ.tr++yl p σ.nds[i].node σ.nds[i].prs t (jn txns t),σ.efs⟩:=by
   simp only[p7,cu hi];rfl
  rw[hd];have N:=Y.nd _ (dk hi);have h1:sq p txns (pm p txns σ.nds[i] t)+1=sq p txns σ.nds[i]:=by
   unfold sq;refine filter_one ht qg6 λu=>?_;show(p6 (l9 p (jn txns u)) σ.nds[i].node&&!(σ.nds[i].sent.set t true).getD u false)=_;rw[xfl qgm,gh]
  have h2:u0 p txns (pm p txns σ.nds[i] t)=u0 p txns σ.nds[i]:=rfl;have h3:(yl p σ.nds[i].node σ.nds[i].prs t (jn txns t)).length<=16:=by grind[eo,yl,xrf]
  unfold mu;simp only[qiz,c7];have g1:=qw9 (σ.nds.map (sq p txns)) i (sq p txns (pm p txns σ.nds[i] t)) af;have g2:=qw9 (σ.nds.map (u0 p txns)) i (u0 p txns (pm p txns σ.nds[i] t)) af;rw[List.getElem_map]at g1 g2;omega
 .obtain⟨i,hi,rfl⟩:=qzl.1 h;have hd:p7 fmt procs p txns σ (.dlv i)=⟨σ.nds.map (r6 σ.tr[i]),σ.tr.eraseIdx i,σ.efs⟩:=by
   simp only[p7,cu hi];rfl
  rw[hd];unfold mu;simp only[qi3];rw[List.length_eraseIdx_of_lt hi];have e1:σ.nds.map (sq p txns∘r6 σ.tr[i])=σ.nds.map (sq p txns):=qjr λx _=>by simp[sq,qdk]
  have e2:σ.nds.map (u0 p txns∘r6 σ.tr[i])=σ.nds.map (u0 p txns):=qjr λx _=>by simp[u0,qdk]
  rw[e1,e2];omega
 .obtain⟨i,t,hi,ht,hc,rfl⟩:=xa0.1 h;obtain⟨c1,c2,c3⟩:=qx4.1 hc;obtain⟨e,hE⟩:∃e,e=(ru fmt procs (u3 t σ.nds[i].node σ.nds[i].inbox).1 txns[t]).2:=⟨_,rfl⟩
  have hd:p7 fmt procs p txns σ (.exe i t)=⟨σ.nds.set i (qj fmt procs p σ.nds[i] t e),σ.tr,if (ma p (jn txns t)).head?=some σ.nds[i].node then σ.efs.set t e else σ.efs⟩:=by
   simp only[p7,cu hi,cu ht,hE];rfl
  rw[hd];have N:=Y.nd _ (dk hi);have h1:u0 p txns (qj fmt procs p σ.nds[i] t e)+1=u0 p txns σ.nds[i]:=by
   unfold u0;refine filter_one ht qg6 λu=>?_;show(p6 (ma p (jn txns u)) σ.nds[i].node&&!(σ.nds[i].exd.set t true).getD u false)=_;rw[xfl qgn,gh]
  have h2:sq p txns (qj fmt procs p σ.nds[i] t e)=sq p txns σ.nds[i]:=rfl;unfold mu;simp only[qiz];have g1:=qw9 (σ.nds.map (sq p txns)) i (sq p txns (qj fmt procs p σ.nds[i] t e)) af;have g2:=qw9 (σ.nds.map (u0 p txns)) i (u0 p txns (qj fmt procs p σ.nds[i] t e)) af;rw[List.getElem_map]at g1 g2;omega
theorem xov{l:List Act}{choices:List Int}{step:Nat}(h:l≠[]):∃a∈l,l[qrh choices step l.length]?=some a:=by
 have hl:0<l.length:=List.length_pos_iff.2 h;have hc:=jeu (choices:=choices) (step:=step) hl;exact⟨l[qrh choices step l.length],dk hc,cu hc⟩
theorem xpc(hp:jy p=true)(hn:(nq p).length<=16)(hB:BatchIn fmt procs txns)(hs:l6 s)(h0:jl s=true)(choices:List Int):∀(f step:Nat) (σ:Sy),SyOk fmt procs p txns s σ->mu p txns σ<=f->SyOk fmt procs p txns s (qrv fmt procs p txns choices f step σ)/\wc p txns (qrv fmt procs p txns choices f step σ)=[]
 |f,step,σ,Y,hf=>by
  by_cases he:wc p txns σ=[]
  .have:qrv fmt procs p txns choices f step σ=σ:=by
    cases f with
    |zero=>rfl
    |succ f=>rw[qrv,he];rfl
   rw[this];exact⟨Y,he⟩
  .obtain⟨a,ha,hg⟩:=xov (choices:=choices) (step:=step) he;have hm:=xno hp hn Y ha;cases f with
   |zero=>omega
   |succ f =>
    rw[qrv,hg];exact xpc hp hn hB hs h0 choices f (step+1) _ (xqw hp hB hs h0 Y ha) aa
theorem xyw(hp:jy p=true)(hn:(nq p).length<=16)(hB:BatchIn fmt procs txns)(hs:l6 s)(h0:jl s=true){l:List Shard}(qm:l.map (·.node)=nq p)(hl:∀x∈l,jl x.prs=true/\l6 x.prs/\(∀q∈x.prs,ly p q.key=x.node)/\∀k,ly p k=x.node->jw x.prs k=jw s k)(choices:List Int) :
  xd2 fmt procs p txns l choices=(m5 p (qt fmt procs s txns).1,(qt fmt procs s txns).2):=by
 obtain⟨Y,he⟩:=xpc hp hn hB hs h0 choices _ 0 _ (xqu hp hB hs h0 qm hl) (cn _);obtain⟨h1,h2⟩:=jd7 hp hB hs h0 Y he;unfold xd2;simp only;rw[h1,h2]
end
theorem xr6:∀(l pre:List Part),xg pre l=true->∀x∈l,z8 x.node=true/\(x.dest≠0->z8 x.dest=true)
 | [],_,_,x,hx=>by cases hx
 |y::l,pre,h,x,hx=>by
  rw[xg]at h;simp only[cw]at h;obtain⟨⟨⟨⟨⟨_,_⟩,h1⟩,h2⟩,_⟩,h3⟩:=h;rcases c0.1 hx with rfl|hx
  .refine⟨h1,λhd=>?_⟩;unfold qo5 at h2;rw[if_neg hd]at h2;simp only[cw]at h2;exact h2.1.1.1.1
  .exact xr6 l _ h3 x hx
theorem xq1{p:Plc}:∀n∈nq p,1<=n/\n<=16:=λn hn=>by
 unfold nq at hn;split at hn
 .rename_i hv;rw[qsf]at hn;obtain⟨x,hx,hm⟩:=qjt.1 hn;unfold jy at hv;simp only[cw]at hv;obtain⟨h1,h2⟩:=xr6 _ _ hv.2 x hx;have key:∀m,z8 m=true->1<=m/\m<=16:=λm h=>by simpa[z8]using h
  split at hm
  .grind
  .grind
 .cases hn
theorem qc0(p:Plc):(nq p).length<=16:=by
 have:=qy8 (nq p) ((List.range 16).map λi:Nat=>(i:Int)+1) (xpi p) λn hn=>by
  obtain⟨h1,h2⟩:=xq1 n hn;exact cy.2 ⟨(n - 1).toNat,ga.2 aa,aa⟩
 simpa using this
theorem xt0(p:Plc)(f:Foot):(l9 p f).length<=16:=by
 by_cases h:pf p f=true
 .refine dv ?_ (qc0 p);exact qy8 _ _ ((xre p f).imp λh=>by omega) λx hx=>xee h x hx
 .grind[l9]
theorem xj9(p:Plc)(f:Foot):(ma p f).length<=16:=by
 by_cases h:pf p f=true
 .exact xrf (qnm h).1 f (qc0 p)
 .grind[ma]
def qmo(p:Plc)(x:Shard):Bool:=jl x.prs&&x.prs.all λq=>decide (ly p q.key=x.node)
def qmh(p:Plc)(l:List Shard):Bool:=jy p&&decide (l.map (·.node)=nq p)&&l.all (qmo p)
theorem qyy{p:Plc}{l:List Shard}:qmh p l=true↔jy p=true/\l.map (·.node)=nq p/\∀x∈l,jl x.prs=true/\∀q∈x.prs,ly p q.key=x.node:=by
 unfold qmh qmo;simp only[cw,decide_eq_true_eq,dr,and_assoc]
def qlk:Option Int->List Shard->Bool
 |_,[]=>true
 |q,x::l=>(match q with|none=>true|some y=>decide (y<x.node))&&jl x.prs&&qlk (some x.node) l
def qr5:List Shard->List Pr->List Pr×Int
 | [],out=>(out,0)
 |x::l,out=>if (ws out x.prs).2≠0 then([],(ws out x.prs).2)else qr5 l (ws out x.prs).1
def qlw(l:List Shard):List Pr×Int:=if qlk none l=true then qr5 l []else([],1)
theorem xr4:∀(l:List Shard) (q:Option Int),(l.map (·.node)).Pairwise (· < ·)->(∀y,q=some y->∀x∈l,y<x.node)->(∀x∈l,jl x.prs=true)->qlk q l=true
 | [],_,_,_,_=>rfl
 |x::l,q,h,hq,hs=>by
  obtain⟨h1,h2⟩:=eh.1 h;have ih:=xr4 l (some x.node) h2 (λy e z hz=>by cases e;exact h1 _ (cy.2 ⟨z,hz,rfl⟩)) λz hz=>hs z (by simp[hz]);have hx:=hs x ac;cases q with
  |none=>simp[qlk,hx,ih]
  |some y =>
   have:=hq y rfl x ac;simp[qlk,hx,ih,this]
theorem xo7{own:ig->Int}:∀(l:List Shard) (pre:List Int) (out:List Pr),(pre++l.map (·.node)).Nodup->(∀x∈l,jl x.prs=true/\∀q∈x.prs,own q.key=x.node)->jl out=true->(∀q∈out,own q.key∈pre) ->
  ∃qlq,qr5 l out=(qlq,0)/\jl qlq=true/\((∀x∈l,l6 x.prs)->l6 out->l6 qlq)/\∀k,(∀x∈l,own k=x.node->jw qlq k=jw x.prs k)/\((∀x∈l,own k≠x.node)->jw qlq k=jw out k)
 | [],pre,out,_,_,h,_=>⟨out,by rw[qr5],h,λ_ h=>h,λk=>⟨λm hm=>qip,λ_=>rfl⟩⟩
 |m::l,pre,out,hn,hl,h,ho=>by
  obtain⟨m1,m3⟩:=hl m ac;have hn':(pre++[m.node]++l.map (·.node)).Nodup:=af
  have tq:m.node∉pre:=λhx=>by grind
  have hfl:∀x∈l,x.node≠m.node:=λx hx e=>by grind
  have hu:ws out m.prs=(rx out m.prs,0):=by
   unfold ws;rw[if_neg af,if_neg];simp only[gc,not_exists,not_and];intro x hx hh;obtain⟨q,hq,e⟩:=cy.1 (qdj.1 hh);have:=ho q hq;rw[e,m3 x hx]at this;exact tq this
  have wy:r9 m.prs=true:=by
   obtain⟨b1,b2,b3⟩:=(tn m.prs).1 m1;exact(qbp _).2 ⟨λq hq=>(b1 q hq).1,b2,b3⟩
  have ha:=xan h wy;have qrg:∀q∈rx out m.prs,own q.key∈pre++[m.node]:=λq hq=>by
   have hg:=xb1 ((tn _).1 ha).2.2 hq;rw[qyu h m1]at hg;rcases hx:nf m.prs q.key with _|_
   .rw[hx,if_neg ac]at hg;have it:jw out q.key≠V.nil:=by
     rw[hg];intro e;have:=(((tn _).1 ha).1 q hq).2;rw[e]at this;exact this rfl
    have:=ho _ (xa1 it);exact dw.2 (.inl this)
   .obtain⟨x,hx,e⟩:=cy.1 (qdj.1 hx);rw[<-e,m3 x hx];simp
  obtain⟨qlq,g1,g2,g3,g4⟩:=xo7 l (pre++[m.node]) (rx out m.prs) hn' (λx hx=>hl x bu) ha qrg;refine⟨qlq,?_,g2,λhr1 hr2=>g3 (λx hx=>hr1 x bu) (xcr hr2 (hr1 m ac) h wy),λk=>⟨λx hx e=>?_,λhk=>?_⟩⟩
  .grind[qr5]
  .rcases c0.1 hx with rfl|hx
   .rw[(g4 k).2 (λy hy=>by rw[e];exact(hfl y hy).symm),qyu h m1];split
    .rfl
    .rename_i hh;rw[xer (k:=k) (a:=x.prs) af,xer];rcases hz:nf out k with _|_
     .rfl
     .obtain⟨q,hq,e1⟩:=cy.1 (qdj.1 hz);have:=ho q hq;rw[e1,e]at this;exact(tq this).elim
   .grind
  .rw[(g4 k).2 (λy hy=>hk y ck),qyu h m1,if_neg];intro hh;obtain⟨x,hx,e⟩:=cy.1 (qdj.1 hh);exact hk m ac af
theorem xku{p:Plc}{l:List Shard}(h:qmh p l=true):∃s,qlw l=(s,0)/\jl s=true/\((∀x∈l,l6 x.prs)->l6 s)/\∀x∈l,∀k,ly p k=x.node->jw x.prs k=jw s k:=by
 obtain⟨h1,h2,h3⟩:=qyy.1 h;have qyp:(l.map (·.node)).Pairwise (· < ·):=by grind[xba]
 obtain⟨s,g1,g2,g3,g4⟩:=xo7 (own:=ly p) l [] [] af h3 rfl ac;refine⟨s,?_,g2,λhr=>g3 hr (by simp[l6]),λx hx k hk=>((g4 k).1 x hx hk).symm⟩;unfold qlw;rw[if_pos (xr4 l none qyp ac λx hx=>(h3 x hx).1),g1]
theorem qtn{p:Plc}{s:List Pr}(hp:jy p=true)(hs:jl s=true):qmh p (m5 p s)=true:=by
 unfold m5;rw[if_pos af];refine qyy.2 ⟨hp,by simp[qi3,Function.comp_def],λx hx=>?_⟩;obtain⟨n,hn,rfl⟩:=cy.1 hx;exact⟨xhx hs λk=>decide (ly p k=n),λq hq=>by simpa using(e9.1 hq).2⟩
theorem qzu{p:Plc}{s:List Pr}(hp:jy p=true)(hs:jl s=true):qlw (m5 p s)=(s,0):=by
 obtain⟨s',g1,g2,_,g4⟩:=xku (qtn hp hs);rw[g1];have:s'=s:=xga g2 hs λk=>by
  have hx:(⟨ly p k,pq p s (ly p k)⟩:Shard)∈m5 p s:=by
   unfold m5;rw[if_pos af];exact cy.2 ⟨_,qx7 hp k,rfl⟩
  rw[<-g4 _ hx k rfl];exact xiz rfl
 rw[this]
theorem qwj{p:Plc}{s:List Pr}(hr:l6 s):∀x∈m5 p s,l6 x.prs:=λx hx=>by
 unfold m5 at hx;split at hx
 .obtain⟨n,hn,rfl⟩:=cy.1 hx;exact λq hq=>hr q (e9.1 hq).1
 .cases hx
theorem xtw{p:Plc}(hp:jy p=true):nq p≠[]:=List.ne_nil_of_mem (qx7 hp em)
theorem xj7{p:Plc}{s:List Pr}:m5 p s=[]↔¬(jy p=true/\jl s=true):=by simp_all[m5,xtw]
section
variable (fmt:Int->ig) (procs:List Proc) (p:Plc) (l:List Shard) (txns:List Txn) (choices:List Int)
def qmr:List Shard×List Eff:=if qmh p l=true then xd2 fmt procs p txns l choices else([],[])
def xjg:List Shard×List Eff:=if qmh p l=true then(m5 p (qt fmt procs (qlw l).1 txns).1,(qt fmt procs (qlw l).1 txns).2)else([],[])
end
section
variable {fmt:Int->ig} {procs:List Proc} {p:Plc} {l:List Shard} {txns:List Txn} {choices:List Int}
theorem xwt(hB:BatchIn fmt procs txns)(hr:∀x∈l,l6 x.prs):qmr fmt procs p l txns choices=xjg fmt procs p l txns:=by
 unfold qmr xjg;by_cases h:qmh p l=true
 .rw[if_pos h,if_pos h];obtain⟨h1,h2,h3⟩:=qyy.1 h;obtain⟨s,g1,g2,g3,g4⟩:=xku h;rw[g1];exact xyw h1 (qc0 p) hB (g3 hr) g2 h2 (λx hx=>⟨(h3 x hx).1,hr x hx,(h3 x hx).2,λk hk=>g4 x hx k hk⟩) choices
 .grind
theorem xae{s:List Pr}(hB:BatchIn fmt procs txns)(hr:l6 s)(hp:jy p=true)(hs:jl s=true):qmr fmt procs p (m5 p s) txns choices=(m5 p (qt fmt procs s txns).1,(qt fmt procs s txns).2):=by
 rw[xwt hB (qwj hr)];unfold xjg;rw[if_pos (qtn hp hs),qzu hp hs]
theorem xk6{s:List Pr}(h:¬(jy p=true/\jl s=true)):qmr fmt procs p (m5 p s) txns choices=([],[]):=by
 rw[xj7.2 h];unfold qmr;rw[if_neg];intro hx;obtain⟨h1,h2,_⟩:=qyy.1 hx;exact xtw h1 h2.symm
end
theorem xng:∀(p a b:List UInt8),Op.bytesLess (p++a) (p++b)=Op.bytesLess a b
 | [],_,_=>rfl
 |x::p,a,b=>by simp[Op.bytesLess,xng p a b,UInt8.lt_irrefl]
theorem ja7(a b:ig):js a b=Op.bytesLess (bl a) (bl b):=by simp[ByteArray.toList_eq,js,bl]
theorem xdf{a b:ig}{k:Nat}(he:(bl a).take k=(bl b).take k):js a b=Op.bytesLess ((bl a).drop k) ((bl b).drop k):=by grind[ja7,gn,xng]
theorem xdz(s:ig):(bl s).length=s.size:=by simp[bl]
theorem xz9{a b:ig}{k:Nat}(ha:k<a.size)(hb:k<b.size)(he:(bl a).take k=(bl b).take k)(h:qq a k=qq b k):(bl a).take (k+1)=(bl b).take (k+1):=by
 rw[ec qhx,ec qhx,he];have h1:(bl a)[k]'qhx=qq a k:=by grind[xdz,qq]
 have h2:(bl b)[k]'qhx=qq b k:=by grind[xdz,qq]
 rw[h1,h2,h]
theorem jjq{a b:ig}{k:Nat}(he:(bl a).take k=(bl b).take k)(h:k=b.size):js a b=false:=by
 rw[xdf he,cq (show (bl b).length<=k by rw[xdz];omega)];cases(bl a).drop k<;>rfl
theorem jab{a b:ig}{k:Nat}(he:(bl a).take k=(bl b).take k)(ha:k<a.size)(hb:k<b.size)(h:qq b k<qq a k):js a b=false:=by
 rw[xdf he,qnt ha,qnt hb];simp[Op.bytesLess,UInt8.lt_asymm h];intro e;rw[e]at h;exact(UInt8.lt_irrefl _ h).elim
theorem jji{a b:ig}{k:Nat}(he:(bl a).take k=(bl b).take k)(ha:k=a.size)(hb:k<b.size):js a b=true:=by
 rw[xdf he,qnt hb,cq (show (bl a).length<=k by rw[xdz];omega)];rfl
theorem jhc{a b:ig}{k:Nat}(he:(bl a).take k=(bl b).take k)(ha:k<a.size)(hb:k<b.size)(h:qq a k<qq b k):js a b=true:=by
 rw[xdf he,qnt ha,qnt hb];simp[Op.bytesLess,h]
structure YH(P:Program)(l:Nat)(HF:Nat->g9)(HX:Nat->Ex->g9)(stop:Ex->Bool)(n0:Nat):Prop where
 len:∀k,(HF k).length=n0
 lenX:∀k x,(HX k x).length=n0
 und:∀k,hUnder n0 (HF k)=true
 undX:∀k x,hUnder n0 (HX k x)=true
 y:∀k (x:Ex) (L:g9),AYield P l [.agg x.x] (HF k++L) λr h'=>(stop x=true->r=.ret (Bo false)/\h'=HX k x++L)/\(stop x=false->r=.ret (Bo true)/\h'=HF (k+1)++L)
theorem YH.ext{P:Program}{l:Nat}{HF:Nat->g9}{HX:Nat->Ex->g9}{stop:Ex->Bool}{n0:Nat}(Y:YH P l HF HX stop n0)(L:g9)(hL:hUnder (n0+L.length) L=true):YH P l (λk=>HF k++L) (λk x=>HX k x++L) stop (n0+L.length) where
 len:=λk=>by rw[c7,Y.len]
 lenX:=λk x=>by rw[c7,Y.lenX]
 und:=λk=>by rw[qx,uk aa (Y.und k),hL];rfl
 undX:=λk x=>by rw[qx,uk aa (Y.undX k x),hL];rfl
 y:=λk x L'=>by simpa[dn]using Y.y k x (L++L')
def y3(HF:Nat->g9)(HX:Nat->Ex->g9)(r:Nat×Option Ex):g9:=match r.2 with
 |none=>HF r.1
 |some e=>HX r.1 e
def gM(ms:List (Option Nat)):g9:=ms.map λ|none=>.none|some D=>nu D
def dM(ms:List (Option Nat)):List Deferred:=(ms.filterMap id).reverse.map qmy
def ql7:Nat->List (Option Nat)->List (Nat×Nat)
 |_,[]=>[]
 |k,none::l=>ql7 (k+1) l
 |k,some D::l=>ql7 (k+1) l++[(k,D)]
theorem xfj:∀(ms:List (Option Nat)) (k:Nat),(ql7 k ms).map (λp=>qmy p.2)=dM ms
 | [],_=>rfl
 |none::l,k=>by simp only[ql7,xfj l];rfl
 |some D::l,k=>by simp[ql7,xfj l,dM]
theorem qu5:∀(ms:List (Option Nat)) (k:Nat) (p:Nat×Nat),p∈ql7 k ms->k<=p.1/\p.1<k+ms.length/\(gM ms)[p.1 - k]?=some (nu p.2)
 | [],_,p,h=>by simp[ql7]at h
 |none::l,k,p,h=>by
  obtain⟨h1,h2,h3⟩:=qu5 l (k+1) p h;refine⟨aa,az,?_⟩;rw[show p.1 - k=(p.1 - (k+1))+1 by omega];exact h3
 |some D::l,k,p,h=>by
  rw[ql7,dw]at h;rcases h with h|h
  .obtain⟨h1,h2,h3⟩:=qu5 l (k+1) p h;refine⟨aa,az,?_⟩;rw[show p.1 - k=(p.1 - (k+1))+1 by omega];exact h3
  .grind[gM]
theorem xfu:∀(ms:List (Option Nat)) (k:Nat),((ql7 k ms).map (·.1)).Nodup
 | [],_=>qjb
 |none::l,k=>xfu l (k+1)
 |some D::l,k=>by
  rw[ql7,eg,qjm];refine⟨xfu l (k+1),ac,λa ha b hb=>?_⟩;rw[cy]at ha;obtain⟨p,hp,rfl⟩:=ha;have:=(qu5 l (k+1) p hp).1;simp at hb;omega
theorem xfi:∀(l:List (Nat×Nat)) (A Z:g9),(∀p,p∈l->A.length<=p.1)->∃Z',qee l (A++Z)=A++Z'
 | [],A,Z,_=>⟨Z,rfl⟩
 |p::l,A,Z,h=>by
  rw[qee,fk _ _ (h p ac)];exact xfi l A _ λq hq=>h q qgj
theorem xw1(a b:List (Option Nat)):gM (a++b)=gM a++gM b:=by simp[gM]
theorem xze(ms:List (Option Nat))(D:Nat):dM (ms++[none,none,some D])=qmy D::dM ms:=by simp[dM,List.filterMap_append]
theorem xmg(ms:List (Option Nat))(m:Nat):hUnder m (gM ms)=true:=by
 rw[qb1];intro o ho;simp only[gM,cy]at ho;obtain⟨x,_,rfl⟩:=ho;cases x<;>rfl
section
variable {P:Program} {E:Ent} {p:Tmp} {ll body:Code}
def uh(E:Ent)(e:Env)(p:Tmp)(ll body:Code)(l D:Nat)(fn:FuncId)(st:LoopState)(pe:Option Code):AObj:=.raw l (uu st pe fn #[p] ll body D) (slots E.N e)
def xo8(E:Ent)(idx:Nat)(r0 rb rd:AObj)(R:AEnd->g9->Prop):AExit->List Deferred->Env->Prop
 | .normal,_,e=>e.h[idx]?=some rb/\∃h',Wk E ⟨[],e.h.set idx r0⟩ ⟨[],h'⟩/\R (.ret (.val (.bool true))) h'
 | .ret,_,e=>e.h[idx]?=some rb/\∃h',Wk E ⟨[],e.h.set idx rd⟩ ⟨[],h'⟩/\R (.ret (.val (.bool false))) h'
 |_,_,_=>False
theorem jcd{g:Operand}{gf:FuncId}{caps:List AV}{Q:AExit->List Deferred->Env->Prop}{ds:List Deferred}{e:Env}(hg:e.get g=.fn (.func gf) [] caps)(hcaps:∀H,ko H caps=caps)
  (B:Nat->g9) (X:Nat->Ex->g9) (stop:Ex->Bool) (xs:List Ex) (k n0:Nat) (hB:e.h=B k) (len:∀j,(B j).length=n0) (lenX:∀j x,(X j x).length=n0) (und:∀j,hUnder n0 (B j)=true) (undX:∀j x,hUnder n0 (X j x)=true)
  (na:lj n0 (slots E.N e)=true) (hp:p<E.N)
  (hit:∀(l:Nat) (L:g9) (HX:Nat->Ex->g9) (n1:Nat),YH P l (λj=>B j++L) HX stop n1->ACalls P gf ([.fn (.yield l) [] []]++caps) (B k++L) λr h'=>r=.ret (.tuple [])/\h'=y3 (λj=>B j++L) HX (scan stop xs k))
  (xgp:∀(E':Ent) (l D j:Nat) (x:Ex) (L:g9) (r0 rb rd:AObj),(∀m,n0<=m->r0.under m=true/\rb.under m=true/\rd.under m=true)->E'.N=E.N->E'.h=B j++nu D::r0::L->hUnder E'.h.length E'.h=true->(AV.agg x.x).bd ->
   qf P E' (some l) ll (qu2 (λds e1=>ds=[]/\e1.h[n0+1]?=some r0 /\
    qf P E' (some l) body (xo8 E' (n0+1) r0 rb rd λr h' =>
     (stop x=true->r=.ret (Bo false)/\h'=X j x++nu D::rd::L)/\(stop x=false->r=.ret (Bo true)/\h'=B (j+1)++nu D::r0::L))
     [] ⟨e1.t,e1.h.set (n0+1) rb⟩) (λ_ _ _=>False)) [] ⟨(p,.agg x.x)::qdl 0 (slots E.N e),E'.h⟩)
  (hdone:∀(j D:Nat) (o:AObj),scan stop xs k=(j,none)->Q .normal (qmy D::ds) ⟨e.t,B j++[nu D,o]⟩)
  (hstop:∀(j:Nat) (x:Ex) (D:Nat) (o:AObj),scan stop xs k=(j,some x)->Q .ret (qmy D::ds) ⟨e.t,X j x++[nu D,o]⟩) :
  qf P E none (.rangeFunc g #[p] ll body) Q ds e:=by
 refine xnd hg λfn D l=>?_;have hL:∀st pe,hUnder (n0+2) [nu D,uh E e p ll body l D fn st pe]=true:=λst pe=>by
  simp only[hUnder,nu,uh,AObj.under,lj,dh,fa];exact qbz aa _ na
 have qm:ko (e.h++[nu D,.raw l (uu .ready none fn #[p] ll body D) (slots E.N e)]) ([.fn (.yield l) [] []]++caps)=[.fn (.yield l) [] []]++caps:=by grind[ko,AV.norm]
 rw[qm,hB];have Y:YH P l (λj=>B j++[nu D,uh E e p ll body l D fn .ready none]) (λj x=>X j x++[nu D,uh E e p ll body l D fn .done (some .ret)]) stop (n0+2):={
  len:=λj=>by simp[len]
  lenX:=λj x=>by simp[lenX]
  und:=λj=>by rw[qx,uk aa (und j),hL];rfl
  undX:=λj x=>by rw[qx,uk aa (undX j x),hL];rfl
  y:=λj x L=>by
   have hidx:(B j++[nu D,uh E e p ll body l D fn .ready none]++L)[n0+1]?=some (.raw l (uu .ready none fn #[p] ll body D) (slots E.N e)):=by
    rw[dn,cx af,len,show n0+1 - n0=1 by omega];rfl
   refine xld hidx qid λE' hN hh hu hbd _=>?_;have hN':E'.N=E.N:=qid;have za:E'.h=B j++nu D::uh E e p ll body l D fn .ready none::L:=af;have zh:∀st pe m,n0<=m->(uh E e p ll body l D fn st pe).under m=true:=λst pe m hm=>qbz hm _ na;have:=xgp E' l D j x L _ (uh E e p ll body l D fn .busy none) (uh E e p ll body l D fn .done (some .ret)) (λm hm=>⟨zh _ _ m hm,zh _ _ m hm,zh _ _ m hm⟩) hN' za af hbd;have hJ:∀R,xo8 E' (n0+1) (uh E e p ll body l D fn .ready none) (uh E e p ll body l D fn .busy none) (uh E e p ll body l D fn .done (some .ret)) R=xmw E' (n0+1) l fn #[p] ll body D (slots E.N e) R:=λR=>by
    funext x ds e;cases x<;>rfl
   rw[hJ,za]at this;simpa[uh]using this }
 refine(hit l [nu D,uh E e p ll body l D fn .ready none] _ (n0+2) Y).mono ?_;rintro r h' ⟨rfl,rfl⟩;refine⟨⟨_,rfl⟩,?_⟩;rcases hsc:scan stop xs k with⟨j,_|x⟩
 .refine⟨.ready,none,ac,?_,?_⟩
  .simp only[y3];rw[cx af,len,len,show n0+1 - n0=1 by omega];rfl
  .simp_all[y3]
 .refine⟨.done,some .ret,ac,?_,?_⟩
  .simp only[y3];rw[cx af,len,lenX,show n0+1 - n0=1 by omega];rfl
  .simp_all[y3,xi7]
end
structure RM where
 vars:List Pr
 own:List Pr
 st:Int
 code:Int
 out:List V
 reads:List ig
 puts:List ig
 miss:ig
 steps:Int
def RM.c(C:Cfg)(m:RM):List AV:=[.slice (C.state.map Pr.c),Bo C.all,.slice (C.rd.map ja),.slice (C.wr.map ja),.slice (m.vars.map Pr.c),.slice (m.own.map Pr.c),I m.st,I m.code,.slice (m.out.map V.c),.slice (m.reads.map ja),.slice (m.puts.map ja),.slice [],S m.miss,I m.steps]
def RM.ab(m:RM)(c:Int):RM:={ m with st:=2,code:=c,out:=[] }
def RM.rst(m:RM)(k:ig):RM:={ m with st:=3,code:=0,out:=[],miss:=k }
def qzx(l:List Pr)(k:ig):Nat:=if (l[qkw k l]?).map Pr.key=some k then qkw k l+1 else qkw k l
def qou(l:List Pr)(p:Pr):List Pr:=l.take (qkw p.key l)++p::l.drop (qzx l p.key)
def xi4(C:Cfg)(m:RM)(k:ig)(v:V):RM :=
 if sw k=false then m.ab 1004
 else if C.all=false/\l8 C.wr k=false then m.rst k
 else { m with puts:=yv m.puts k,own:=qou m.own ⟨k,v⟩ }
def xip(m:RM)(v:V):RM:=if 16<=(m.out.length:Int)then m.ab 1007 else { m with out:=m.out++[v] }
section
variable (C:Cfg)
end
theorem qem{α:Type}:∀(l:List (ig×α)) (s k:ig) (v:α),kz (lx l s v) k=if s=k then some v else kz l k
 | [],s,k,v=>by simp only[lx,kz]
 |p::l,s,k,v=>by
  rw[lx];split
  .grind[kz]
  .rename_i h;rw[kz,qem l s k v,kz];split
   .grind
   .rfl
theorem xn5:∀(a b:List UInt8),(Go.Lib.compareBytes a b<0↔Op.bytesLess a b=true)/\(Go.Lib.compareBytes a b=0↔a=b)
 | [],[]=>by simp[Go.Lib.compareBytes,Op.bytesLess]
 | [],_::_=>by simp[Go.Lib.compareBytes,Op.bytesLess]
 |_::_,[]=>by simp[Go.Lib.compareBytes,Op.bytesLess]
 |x::a,y::b=>by
  have ih:=xn5 a b;simp only[Go.Lib.compareBytes,Op.bytesLess,List.cons.injEq];split
  .rename_i h;have:x≠y:=by rintro rfl;exact absurd h ac
   simp[h,this]
  .rename_i h;split
   .rename_i h2;have:x≠y:=by rintro rfl;exact absurd h2 ac
    simp[h,this]
   .rename_i h2;have:x=y:=by
     apply UInt8.toNat_inj.1;have h3:¬x.toNat<y.toNat:=h;have h4:¬y.toNat<x.toNat:=h2;omega
    subst this;simp[ih]
theorem xew(a b:ig):(qti a b<0↔js a b=true)/\(qti a b=0↔a=b):=by
 have h:=xn5 a.data.toList b.data.toList;have e:∀x:ig,x.toList=x.data.toList:=λx=>by simp[ByteArray.toList_eq]
 refine⟨?_,?_⟩
 .grind[qti,js]
 .unfold qti;rw[h.2];constructor
  .intro he;have:a.data=b.data:=Array.toList_inj.1 he;cases a;cases b;simp_all
  .grind
theorem xzy{p q:Pr}{l:List Pr}(h:js q.key p.key=true):qou (q::l) p=q::qou l p:=by grind[qkw,qi6,qou,qzx]
theorem xsd(l:List Pr)(p:Pr)(k:ig):nf (qou l p) k=(decide (p.key=k)||nf l k)/\jw (qou l p) k=if p.key=k then p.v else jw l k:=by
 induction l with
 |nil=>simp[qou,qzx,qkw,nf,si,jw]
 |cons q l ih =>
  by_cases h:js q.key p.key=true
  .grind[xzy,nf,si,jw,Bool.or_assoc,Bool.or_comm,qr2]
  .grind[qkw,qou,qzx,nf,si,jw]
structure Sim(s:MS)(m:RM):Prop where
 vars:∀k,kz s.vars k=if nf m.vars k=true then some (jw m.vars k)else none
 own:∀k,kz s.own k=if l8 s.puts k=true then some (jw m.own k)else none
 keys:pb m.own=s.puts
 out:m.out=s.out
 reads:m.reads=s.reads
 puts:m.puts=s.puts
 steps:m.steps=s.steps
 st:m.st=0
 code:m.code=0
 miss:m.miss=em
structure Dead(z:Stop)(s:MS)(m:RM):Prop where
 reads:m.reads=s.reads
 puts:m.puts=s.puts
 steps:m.steps=s.steps
 out:m.out=[]
 st:m.st=z.status
 code:m.code=z.code
 miss:m.miss=z.miss
 ne:z.status≠0
theorem Sim.ab{s:MS}{m:RM}(h:Sim s m)(c:Int):Dead (ab c) s (m.ab c):=⟨h.reads,h.puts,h.steps,rfl,rfl,rfl,h.miss,by simp[Go.Cw.ab]⟩
theorem Sim.rst{s:MS}{m:RM}(h:Sim s m)(k:ig):Dead (rst k) s (m.rst k):=⟨h.reads,h.puts,h.steps,rfl,rfl,rfl,rfl,by simp[Go.Cw.rst]⟩
def EvSim(x:EV×MS)(y:V×RM):Prop:=match x.1 with
 | .ok v=>y.1=v/\Sim x.2 y.2
 | .error z=>y.1=V.nil/\Dead z x.2 y.2
theorem EvSim.ok{v:V}{s:MS}{m:RM}(h:Sim s m):EvSim (.ok v,s) (v,m):=⟨rfl,h⟩
theorem EvSim.ab{c:Int}{s:MS}{m:RM}(h:Sim s m):EvSim (.error (ab c),s) (V.nil,m.ab c):=⟨rfl,h.ab c⟩
section
variable {C:Cfg}
end
def qn:List Pr->List Pr->List Pr×Bool
 | [],b=>(b,false)
 |x::a,[]=>(x::a,false)
 |x::a,y::b=>if js x.key y.key=true then(x::(qn a (y::b)).1,(qn a (y::b)).2)else if js y.key x.key=true then(y::(qn (x::a) b).1,(qn (x::a) b).2)else((qn a b).1,true)
termination_by a b=>a.length+b.length
theorem xev:∀(a b:List Pr),(∀q∈b,q.v.k≠0)->(qn a b).2=false->(qn a b).1=o8 a b
 | [],[],_,_=>by rw[qn,o8]
 | [],y::b,hb,h=>by
  have ih:=xev [] b (λq hq=>hb q qgj) (by rw[qn]);rw[qn]at ih|-;rw[o8,<-ih];unfold qrk;rw[if_neg (hb y ac)]
 |x::a,[],hb,h=>by
  rw[qn];have:∀l:List Pr,o8 l []=l:=λl=>by
   induction l with
   |nil=>rw[o8]
   |cons p l ih=>rw[o8,ih]
  rw[this]
 |x::a,y::b,hb,h=>by
  rw[qn]at h|-;rw[o8];have hy:=hb y ac;split
  .rename_i h1;rw[if_pos h1]at h;simp only at h|-;rw[xev a (y::b) hb h]
  .rename_i h1;rw[if_neg h1]at h;split
   .rename_i h2;rw[if_pos h2]at h;simp only at h|-;rw[xev (x::a) b (λq hq=>hb q qgj) h];unfold qrk;rw[if_neg hy]
   .rename_i h2;rw[if_neg h2]at h;cases h
termination_by a b=>a.length+b.length
theorem xie:∀(a b:List Pr),kg (pb a)->kg (pb b)->(qn a b).2=b.any λx=>nf a x.key
 | [],b,_,_=>by
  rw[qn]
  symm
  rw[List.any_eq_false];intro x hx;simp[nf,si]
 |x::a,[],_,_=>by rw[qn];rfl
 |x::a,y::b,ha,hb=>by
  obtain⟨a1,a2⟩:=eh.1 ha;obtain⟨b1,b2⟩:=eh.1 hb;have kf:∀(k:ig),js k x.key=true->nf (x::a) k=false:=λk hk=>xbh.2 λq hq=>by
   rcases c0.1 hq with rfl|hq
   .exact λe=>qr2 hk e.symm
   .exact λe=>qr2 (qdc hk (a1 q.key (cy.2 ⟨q,hq,rfl⟩))) e.symm
  have hgt:∀(k:ig),js x.key k=true->nf (x::a) k=nf a k:=λk hk=>by
   unfold nf;rw[si,show decide (x.key=k)=false by simpa using qr2 hk,qi0]
  have hgts:∀l:List Pr,(∀q∈l,js x.key q.key=true)->(l.any λz=>nf (x::a) z.key)=l.any λz=>nf a z.key:=λl hl=>by
   induction l with
   |nil=>rfl
   |cons q l ih=>rw[qjd,qjd,hgt _ (hl q ac),ih λz hz=>hl z (by simp[hz])]
  have hby:∀q∈b,js y.key q.key=true:=λq hq=>b1 q.key (cy.2 ⟨q,hq,rfl⟩);rw[qn];split
  .rename_i h1;simp only;rw[xie a (y::b) a2 hb,hgts (y::b)];intro q hq;rcases c0.1 hq with rfl|hq
   .exact h1
   .exact qdc h1 (hby q hq)
  .split
   .rename_i h1 h2;simp only;rw[xie (x::a) b ha b2,qjd,kf _ h2,qi0]
   .rename_i h1 h2;have e:=qvh h1 h2;rw[qjd,show nf (x::a) y.key=true from qdj.2 (by simp[e])];rfl
termination_by a b=>a.length+b.length
def nR(k:Nat):List AV:=[I (k:Int)]
def lR(l:List Nat):List AV:=[.slice (l.map nR)]
section
variable {fmt:Int->ig} {procs:List Proc} {s:List Pr} {l:List Txn} {effs:List Eff} {done:List Bool}
theorem jj5{choices:List Int}{step n:Nat}:qrh choices step n=if h:step<choices.length then(if choices[step]<0 then 0 else choices[step].toNat % n)else 0:=by grind[cu,fq,qrh]
end
end Go.Cw
