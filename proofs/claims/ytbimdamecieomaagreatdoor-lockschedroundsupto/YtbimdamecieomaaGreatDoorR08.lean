/- Part 8 of a proof. -/
import Derived.Test.YtbimdamecieomaaGreatDoorR07
set_option linter.all false
namespace Go.Abs
section
variable {P:Program} {E:Ent}
theorem RelL.app{c:Ctx}{xs ys:List AV}{us vs:Array Value}(h:RelL c xs us)(k:RelL c ys vs):RelL c (xs++ys) (us++vs) :=
 ⟨by simp[h.1,k.1],fun j x v hx hv=>by
  by_cases hj:j<xs.length
  ·rw[cu hj]at hx;rw[qlr (by rw[h.1];exact hj)]at hv;exact h.2 j x v hx hv
  ·rw[cy aa]at hx;rw[Array.getElem?_append_right (by rw[h.1];omega),h.1]at hv;exact k.2 _ x v hx hv⟩
theorem RelL.map{c:Ctx}{g:Operand→AV}{ev:Operand→Value}{l:Array Operand}(hg:∀x,x∈l.toList→Rel c (g x) (ev x)):RelL c (l.toList.map g) (l.map ev) :=
 ⟨ae,(xl0 hg).2⟩
theorem RelL.norm{c:Ctx}{h:gz}{w:World}(s:HSim c h w){xs:List AV}{vs:Array Value}(k:RelL c xs vs):RelL (c.share h w) (kc h xs) vs :=
 ⟨by rw[qd8];simp[k.1],fun j x v hx hv=>by
  rw[qd8]at hx;simp only[dq,dn]at hx;obtain⟨y,hy,rfl⟩:=hx;exact qep s (k.2 j y v hy hv)⟩
theorem qxz{o:Oper}{ev:Operand→Value}{w:World}{f:Operand}{args:Array Operand}{ts:Array TypeId}(ho:o.op=.call { callee:=.value f,args:=args,argTypes:=ts }){fid:FuncId}{us vs:Array Value}
  (hf:ev f=.func (.func fid) us vs) (hen:qwf P fid):(execOp ev o).run P w=.ok (.enter fid (us++args.map ev++vs)) w:=by
 obtain⟨fn,h1,h2,h3⟩:=hen;have hb:fn.body.isNone=false:=by
  cases hbd:fn.body with
  |none=>rw[hbd]at h2;simp at h2
  |some b=>rfl
 simp only[execOp,ho,resolve,hf,Deferred.ofValue,invoke,callFunc,dh,dy,dj,run_program,h1,h3,hb,fw,if_false]
theorem qdj(w:World)(o:Obj):(newObj o).run P w=.ok w.heap.size (w.alloc o):=rfl
theorem xk5{c:Ctx}{e:Env}{a:Act}{w:World}(s:Sim E.N c e a w)(k:E.ok c e.h w){o:Oper}{f:Operand}{args:Array Operand}{ts:Array TypeId}(ho:o.op=.call { callee:=.value f,args:=args,argTypes:=ts })
  (ix:l6 e true (f::args.toList)) {fid:FuncId} {first caps:List AV} (hf:e.getS f=.fn (.func fid) first caps) {R:AEnd→gz→Prop}
  (hc:ACalls P fid (kc e.h (first++args.toList.map e.getS++caps)) e.h R) {next:Act→World→Prop} {Q:Exit→Act→World→Prop}
  (vt:∀v h' c' w' u,R (.ret v) h'→c.le c'→HSim c' h' w'→E.ok c' h' w'→Rel c' v u→next (a.put o.dst u) w')
  (qwp:∀v h' c' w' u,R (.panic v) h'→c.le c'→HSim c' h' w'→E.ok c' h' w'→Rel c' v u→Q (.panic [⟨u,false,false⟩]) a w'):o.wp P a w next Q:=by
 have jz:=qx s ix;have xd:=jz f ae;rw[hf]at xd;obtain⟨us,vs,hev,h1,h2⟩:∃us vs,a.eval f=.func (.func fid) us vs∧RelL c first us∧RelL c caps vs:=by
  generalize a.eval f=z at xd;cases xd with
  |data h=>cases h
  |fn f ys xs us vs pf hl h' h=>exact⟨us,vs,rfl,⟨pf,h'⟩,⟨hl,h⟩⟩
 have qrh:RelL c (args.toList.map e.getS) (args.map a.eval):=RelL.map fun x hx=>jz x bt;have xbg:=(RelL.app (RelL.app h1 qrh) h2).norm s.hs;obtain⟨s1,k1⟩:=qx1 s.hs k;unfold Oper.wp;rw[qxz ho hev hc.1];refine(hc.2 _ w _ s1 xbg).mono ?_;rintro en w' ⟨r,h',c',hR,hE,jd,kb⟩;have ig:c.le c':=(qxd c e.h w).trans kb.ext;have jm:E.ok c' h' w':=k1.trans kb;cases r with
 |ret v =>
  cases en with
  |returned u=>exact vt v h' c' w' u hR ig jd jm hE
  |_=>simp[EndR]at hE
 |panic v =>
  cases en with
  |panicked ch =>
   cases ch with
   |nil=>simp[EndR]at hE
   |cons p l =>
    cases l with
    |nil =>
     obtain⟨u,r,g⟩:=p;cases r<;>cases g<;>simp only[EndR]at hE;exact qwp v h' c' w' u hR ig jd jm hE
    |cons=>simp[EndR]at hE
  |_=>simp[EndR]at hE
theorem xxd{h:gz}{sz:Nat}:∀{k:Nat} {l:List (Nat×AV)} {rows:List (List AV)},qrd h sz k l=some rows →
  rows.length=l.length∧∀(i:Nat) (p:Nat×AV),l[i]?=some p→p.1=k+i∧p.2.cellsOk=true∧p.2.cells.length=sz∧rows[i]?=some (kc h p.2.cells)∧∀x,x∈kc h p.2.cells→x.isData=true
 |k,[],rows,hr=>by simp only[qrd,d7]at hr;subst hr;simp
 |k,(i,x)::l,rows,hr=>by
  simp only[qrd]at hr;split at hr
  ·rename_i hc;obtain⟨rfl,h1,h2,h3⟩:=hc;simp only[dn]at hr;obtain⟨rows',je,rfl⟩:=hr;obtain⟨h4,h5⟩:=xxd je;refine⟨by simp[h4],fun j p hp=>?_⟩;cases j with
   |zero=>simp at hp;subst hp;exact⟨ae,h1,h2,ae,dw.1 h3⟩
   |succ j =>
    obtain⟨g1,g2⟩:=h5 j p qha;exact⟨aa,by simpa using g2⟩
  ·cases hr
theorem xb8{c:Ctx}{x:AV}{v:Value}(h:x.isData=true)(hr:Rel c x v):DRel c.D x v:=by
 cases x with
 |val u=>obtain rfl:=hr.val_inv;exact .val v h (qsm hr)
 |slice rows=>exact hr.slice_inv
 |_=>simp[AV.isData]at h
theorem xoe{c:Ctx}{h:gz}{w:World}(s:HSim c h w)(k:E.ok c h w){T el sz n:Nat}(hk:ij P T=.slice el sz){parts:List (Nat×AV)}{qs:Array (Nat×Value)}(hl:parts.length=qs.size)
  (hpq:∀(j:Nat) (p:Nat×AV) (q:Nat×Value),parts[j]?=some p→qs[j]?=some q→p.1=q.1∧Rel c p.2 q.2) {rows:List (List AV)} (hr:qrd h sz 0 parts=some rows) (hn:rows.length=n) (kq:0<sz) (yx:n * sz≤16777216)
  (oh:ij P el≠.other) (pr:iy P el=sz) :
  ∃v w' c',(Instr.buildSlice T n qs).run P w=.ok v w'∧c.le c'∧HSim c' h w'∧E.ok c' h w'∧Rel c' (.slice rows) v:=by
 obtain⟨iT,dT,zT,_,r8,_,vz,_⟩:=lj hk ae;obtain⟨rfl,ie,lx,wv⟩:=xx vz;obtain⟨ie',de,ze,tp,_,hze,_,hts,_,pi,tf⟩:=lj (P:=P) (t:=el) rfl oh;rw[lx]at tp;cases tp;subst wv;obtain⟨nk,hspec⟩:=xxd hr;have hpn:parts.length=n:=aa;have xp:∀xs:List AV,(kc h xs).length=xs.length:=fun xs=>by rw[qd8];simp
 -- the zero cells
 let zs:Array Value:=(Array.range (n * ie.size)).map (ze.cells[· % ze.cells.size]!)
 -- filling
 have qxw:∀(m:Nat) (qs':List (Nat×Value)) (cs:Array Value),cs.size=n * ie.size→m+qs'.length=n→(∀j q,qs'[j]?=some q→q.1=m+j∧q.2.cells.size=ie.size) →
   ∃tw,Instr.fill (fun i=>some (i * ie.size,ie.size)) cs qs'=some tw∧tw.size=n * ie.size∧(∀k,k<m * ie.size→tw[k]?=cs[k]?) ∧
    ∀j q t u,qs'[j]?=some q→q.2.cells[t]?=some u→tw[(m+j) * ie.size+t]?=some u:=by
  intro m qs'
  induction qs' generalizing m with
  |nil=>intro cs ma _ _;exact⟨cs,rfl,ma,fun _ _=>rfl,ae⟩
  |cons q qs' ih =>
   intro cs ma hm hq;obtain⟨i,v⟩:=q;obtain⟨h1,h2⟩:=hq 0 (i,v) rfl;simp only[d6]at h1 h2;subst h1;have ig:i * ie.size+ie.size≤n * ie.size:=by
    have:(i+1) * ie.size≤n * ie.size:=fb _ qhj;rw[fi]at this;omega
   let cs1:=v.cells.zipIdx.foldl (fun (cs:Array Value) (p:Value×Nat)=>cs.setIfInBounds (i * ie.size+p.2) p.1) cs
   have hcs1:cs1=(v.cells.toList.zipIdx 0).foldl (fun (cs:Array Value) (p:Value×Nat)=>cs.setIfInBounds (i * ie.size+p.2) p.1) cs:=by
    show v.cells.zipIdx.foldl _ cs=_;rw[←ql9,Array.toList_zipIdx]
   obtain⟨g1,g2⟩:=xdn (i * ie.size) v.cells.toList 0 cs;have g2:=g2 (by simp[h2];omega);obtain⟨tw,f1,f2,f3,f4⟩:=ih (i+1) cs1 (by rw[hcs1,g1];exact ma) qhj (fun j q xm=>by
    have:=hq (j+1) q (by simpa using xm);exact⟨aa,this.2⟩)
   refine⟨tw,?_,f2,fun k hk=>?_,fun j q t u xm hu=>?_⟩
   ·simp only[Instr.fill];rw[if_neg (by rw[h2,ma];simp;omega)];exact f1
   ·rw[f3 k (by rw[fi];omega),hcs1,g2 k,if_neg aa]
   ·cases j with
    |zero =>
     simp at xm;subst xm;have ht:t<ie.size:=by rw[←h2];exact(f0.1 hu).1
     have e1:(i+1) * ie.size=i * ie.size+ie.size:=by rw[fi];omega
     rw[d6,f3 _ aa,hcs1,g2,if_pos (by simp[h2];omega)];simpa using hu
    |succ j =>
     have:=f4 j q t u (by simpa using xm) hu;rw[show i+(j+1)=i+1+j from by omega];exact this
 obtain⟨tw,hf1,hf2,_,hf4⟩:=qxw 0 qs.toList zs (by simp[zs]) am (fun j q hq=>by
  have hjlt:j<parts.length:=by rw[hl];have:=(cq.1 hq).1;simpa using this
  obtain⟨e1,e2⟩:=hpq j parts[j] q qk6 qj6;obtain⟨p1,p2,p3,_⟩:=hspec j parts[j] qk6;exact⟨aa,by rw[(e2.cells p2).1,p3]⟩)
 obtain⟨c',ig,s1,k1,hD⟩:=xdk (E:=E) (qx1 s k).1 (qx1 s k).2 tw el;have hlit:¬(n * ie.size > 2 ^ 24):=am;have hzv:(zeroValue el).run P w=.ok ze w:=qgf;refine⟨.slice (some ⟨w.heap.size,0,none⟩) n n,w.alloc (.cells tw el),c',?_,(qxd c h w).trans ig,s1,k1,?_⟩
 ·simp only[Instr.buildSlice,dh,po r8,dj,z8 lx,if_neg hlit];by_cases h0:n * ie.size=0
  ·have hz0:(Array.range (n * ie.size)).map (fun x=>(#[]:Array Value)[x % (#[]:Array Value).size]!)=zs:=by
    simp[zs,h0]
   simp only[h0,if_true,dy,dj,dh];rw[h0]at hz0;simp only[hz0,hf1,newRow,dh,qdj,dj,dy]
  ·simp only[if_neg h0,dh,hzv,dj,dy];have hzz:(Array.range (n * ie.size)).map (fun x=>ze.cells[x % ze.cells.size]!)=zs:=rfl;simp only[hzz,hf1,newRow,dh,qdj,dj,dy]
 ·have mw:∀(i j:Nat) (r:List AV) (x:AV),rows[i]?=some r→r[j]?=some x→∃v,c'.D w.heap.size (i * ie.size+j)=some v∧DRel c'.D x v:=by
   intro i j r x je hx;have qyu:i<parts.length:=by rw[←nk];exact(cq.1 je).1
   obtain⟨p1,p2,p3,p4,p5⟩:=hspec i parts[i] (by simp[qyu]);rw[p4]at je;cases je;have hqlt:i<qs.size:=aa;obtain⟨e1,e2⟩:=hpq i parts[i] qs[i] (by simp[qyu]) (by simp[hqlt]);obtain⟨q1,q2⟩:=e2.cells p2;have mc:=hx;rw[qd8,dq,dn]at mc;obtain⟨y,hy,hyx⟩:=mc;have hjlt:j<qs[i].2.cells.size:=by rw[q1];exact(cq.1 hy).1
   obtain⟨r1,r2⟩:=q2 j y qs[i].2.cells[j] hy qk6;have h6:=hf4 i qs[i] j qs[i].2.cells[j] (by simp[hqlt]) qk6;rw[db]at h6;refine⟨_,hD _ _ h6,?_⟩;have h7:=qep s r1;rw[hyx]at h7;exact(xb8 (p5 x (c7 hx)) h7).mono ig.D
  have hdr:DRel c'.D (.slice rows) (.slice (some ⟨w.heap.size,0,none⟩) rows.length n):=.slice rows w.heap.size 0 n ie.size (fun i j=>(c'.D w.heap.size (i * ie.size+j)).getD undef) (fun r je=>by
    obtain⟨i,hi⟩:=dv je;have qyu:i<parts.length:=by rw[←nk];exact(cq.1 hi).1
    obtain⟨p1,p2,p3,p4,p5⟩:=hspec i parts[i] (by simp[qyu]);rw[p4]at hi;cases hi;rw[xp,p3]) (by
    rw[hn];have:n * 1≤n * ie.size:=Nat.mul_le_mul_left _ kq;omega) aa (fun i j r x je hx=>by
    obtain⟨v,hv,_⟩:=mw i j r x je hx;rw[db,hv];rfl) fun i j r x je hx=>by
    obtain⟨v,hv,hd⟩:=mw i j r x je hx;rw[hv];exact hd
  rw[hn]at hdr;exact .data hdr
theorem xrt{T el sz:Nat}(hk:ij P T=.slice el sz)(oh:ij P el≠.other)(pr:iy P el=sz)(kq:0<sz)(yx:sz≤16777216){v:Value}(hc:v.cells.size=sz)(w:World) :
  (Instr.buildSlice T 1 #[(0,v)]).run P w=.ok (.slice (some ⟨w.heap.size,0,none⟩) 1 1) (w.alloc (.cells v.cells el)):=by
 obtain⟨iT,dT,zT,_,r8,_,vz,_⟩:=lj hk ae;obtain⟨rfl,ie,lx,wv⟩:=xx vz;obtain⟨ie',de,ze,tp,_,hze,_,hts,_,pi,tf⟩:=lj (P:=P) (t:=el) rfl oh;rw[lx]at tp;cases tp;subst wv;have hzv:(zeroValue el).run P w=.ok ze w:=qgf
 let zs:Array Value:=(Array.range (1 * ie.size)).map (ze.cells[· % ze.cells.size]!)
 have hzz:zs.size=ie.size:=by simp[zs]
 have qxw:Instr.fill (fun i=>some (i * ie.size,ie.size)) zs [(0,v)]=some v.cells:=by
  simp only[Instr.fill];rw[if_neg (by rw[hc,hzz];simp)];congr 1;have hcs1:v.cells.zipIdx.foldl (fun (cs:Array Value) (p:Value×Nat)=>cs.setIfInBounds (0 * ie.size+p.2) p.1) zs=(v.cells.toList.zipIdx 0).foldl (fun (cs:Array Value) (p:Value×Nat)=>cs.setIfInBounds (0 * ie.size+p.2) p.1) zs:=by
   rw[←ql9,Array.toList_zipIdx]
  obtain⟨g1,g2⟩:=xdn (0 * ie.size) v.cells.toList 0 zs;have g2:=g2 (by simp[hc,hzz]);rw[hcs1];apply Array.ext
  ·rw[g1,hzz,hc]
  ·intro k h1 h2;have h9:=g2 k;rw[if_pos (by simp[hc];omega),fm h1]at h9;simp only[Nat.zero_mul,Nat.sub_zero,d6,fc,fm h2,d7]at h9⊢;exact h9
 have hlit:¬(1 * ie.size > 2 ^ 24):=am;have h0:¬(1 * ie.size=0):=aa;simp only[Instr.buildSlice,dh,po r8,dj,z8 lx,if_neg hlit,if_neg h0,hzv,dy];have hzz':(Array.range (1 * ie.size)).map (fun x=>ze.cells[x % ze.cells.size]!)=zs:=rfl;simp only[hzz',qxw,newRow,dh,qdj,dj,dy]
theorem xqc{c:Ctx}{h:gz}{w:World}(s:HSim c h w)(k:E.ok c h w){T el sz n:Nat}(hk:ij P T=.slice el sz){parts:List (Nat×AV)}{qs:Array (Nat×Value)}(hl:parts.length=qs.size)
  (hpq:∀(j:Nat) (p:Nat×AV) (q:Nat×Value),parts[j]?=some p→qs[j]?=some q→p.1=q.1∧Rel c p.2 q.2) {cs:List AV} (hr:qzq sz n parts=some cs) (kq:0<sz) (yx:sz≤16777216)
  (oh:ij P el≠.other) (pr:iy P el=sz) :
  ∃v w' c',(Instr.buildSlice T n qs).run P w=.ok v w'∧c.le c'∧HSim c' h w'∧E.ok c' h w'∧Rel c' (.lit cs) v:=by
 unfold qzq at hr;split at hr
 ·rename_i x;split at hr
  ·rename_i hx;obtain⟨jm,hxl⟩:=hx;cases hr;have hq0:qs[0]?=some qs[0]!:=by
    have h1:0<qs.size:=qjn;rw[getElem!_pos qs 0 h1,fm h1]
   obtain⟨e1,e2⟩:=hpq 0 (0,x) _ rfl hq0;have hqs:qs = #[(0,(qs[0]!).2)]:=by
    apply Array.ext
    ·rw[←hl];simp
    ·intro i h1 h2;have:i=0:=qk1;subst this;rw[getElem!_pos qs 0 h1]at e1⊢;simp only[List.getElem_toArray,List.getElem_cons_zero];exact Prod.ext e1.symm rfl
   generalize(qs[0]!).2=v at hqs e2;subst hqs;obtain⟨mq,ox⟩:=e2.cells jm;have jx:=xrt (P:=P) hk oh pr kq yx (v:=v) (by rw[mq,hxl]) w;obtain⟨c1,qm6,s1,k1,hD1⟩:=xdk s k v.cells el;refine⟨_,_,c1,jx,qm6,s1,k1,?_⟩;refine .lit x.cells w.heap.size 0 1 (fun j=>v.cells[j]!) (fun j y hy=>?_) (fun j y hy=>?_) (fun j y hy=>?_)
   all_goals have ib:j<v.cells.size:=by rw[mq];exact(cq.1 hy).1
   ·rw[db,getElem!_pos v.cells j ib];exact hD1 j _ (fm ib)
   ·rw[getElem!_pos v.cells j ib];exact((ox j y v.cells[j] hy (fm ib)).1).mono qm6
   ·rw[getElem!_pos v.cells j ib];exact(ox j y v.cells[j] hy (fm ib)).2
  ·cases hr
 ·cases hr
end
theorem xd4{α:Type}(l us:List α)(p k:Nat)(h:p+us.length≤l.length) :
  (l.take p++us++l.drop (p+us.length))[k]?=if k<p then l[k]? else if k<p+us.length then us[k - p]? else l[k]?:=by
 have hm:min p l.length=p:=aa;by_cases h1:k<p
 ·rw[if_pos h1,dr,cu am,dx,if_pos h1]
 ·rw[if_neg h1];by_cases h2:k<p+us.length
  ·rw[if_pos h2,dr,cy am,cu am];simp only[du,hm]
  ·rw[if_neg h2,cy am,ez];simp only[cz,du,hm];congr 1;omega
section
variable {P:Program} {E:Ent}
theorem jol{c:Ctx}{h:gz}{w:World}(hs:HSim c h w)(k:E.ok c h w){o:Oper}{ev:Operand→Value}{T:TypeId}{ad x:Operand}(jy:o.op=.store T ad x){i n sz r q e:Nat}{rows:List (List AV)}{y:AV}
  (x9:Rel c (.optr i n sz r q) (ev ad)) (l8:Rel c y (ev x)) (hi:h[i]?=some (.uarr e sz rows)) (hn:rows.length=n) (hr:r<rows.length) (jm:y.cellsOk=true) (qpe:(kc h y.cells).all AV.isData=true)
  (jq:y.cells.length=iy P T) (hk:ij P T≠.other) (ig:q+y.cells.length≤sz) :
  ∃w',(execOp ev o).run P w=.ok .skip w'∧HSim c (h.set i (.uarr e sz (rows.set r ((rows.getD r []).take q++kc h y.cells++(rows.getD r []).drop (q+y.cells.length))))) w' ∧
   E.ok c (h.set i (.uarr e sz (rows.set r ((rows.getD r []).take q++kc h y.cells++(rows.getD r []).drop (q+y.cells.length))))) w':=by
 obtain⟨b,o',len,cap,zw,hv⟩:=qxn x9;subst hn;obtain⟨v',vs,h1,ly,v8,h2,h3,h4,h5⟩:=hs.obj i _ hi;rw[hv]at h1;cases h1;rcases h2.2 with⟨e1,_⟩|⟨g,cp,cur,e1,_,hg,nz,pz,ma,u5⟩
 ·cases e1
 ·cases e1;obtain⟨c1,c2⟩:=l8.cells jm;obtain⟨iT,d,z,t1,t2,t3,t4,t5,_⟩:=lj (P:=P) (t:=T) rfl hk;have m7:∀v,v∈(ev x).cells.toList→v.oneCell'=true:=fun v hv=>by
   obtain⟨j,hj⟩:=dv hv;have ib:j<y.cells.length:=by rw[←c1];have:=(cq.1 hj).1;simpa using this
   exact(c2 j _ v qi0 bf).2
  have uv:(ev x).cells.toList.length=y.cells.length:=by simpa using c1
  have hrs:(r+1) * sz≤rows.length * sz:=fb _ hr;rw[fi,qlb]at hrs;have hcs':rows.length * sz≤cur.size:=qgc;have hp:(r * sz+q)+(ev x).cells.toList.length≤cur.size:=by rw[uv];omega
  have jx:=run_storeCells_at P b (r * sz+q) e (ev x).cells.toList 0 cur w hg aa m7;simp only[d6]at jx;have pr:(ev x).cells.size=iT.size:=by rw[c1,jq,t5]
  have mj:(execOp ev o).run P w=.ok .skip (w.setRow b (cur.toList.take (r * sz+q)++(ev x).cells.toList++cur.toList.drop (r * sz+q+(ev x).cells.toList.length)).toArray):=by
   simp only[execOp,jy,Instr.storeAt,zw,db,Instr.sureAddr,storeVar,dh,dy,dj,z8 t1,pr,ne_eq,not_true_eq_false,if_false,jx]
  have o9:∀g,g≠b→(w.setRow b (cur.toList.take (r * sz+q)++(ev x).cells.toList++cur.toList.drop (r * sz+q+(ev x).cells.toList.length)).toArray).heap[g]?=w.heap[g]?:=fun g hg=>setRow_other w b g _ hg;have u6:(w.setRow b (cur.toList.take (r * sz+q)++(ev x).cells.toList++cur.toList.drop (r * sz+q+(ev x).cells.toList.length)).toArray).heap.size=w.heap.size:=qgw;have px:jb c i (.uarr e sz rows)=some b:=qhp
  let rows':=rows.set r ((rows.getD r []).take q++kc h y.cells++(rows.getD r []).drop (q+y.cells.length))
  have qya:jb c i (.uarr e sz rows')=some b:=by simp[jb,rows',hv,Value.ownBlock]
  have qx5:rows[r]?=some (rows.getD r []):=qi3;have nk:(rows.getD r []).length=sz:=h4 _ (c7 qx5);have xp:(kc h y.cells).length=y.cells.length:=by simp[qd8]
  have o7:∀j ob b',(h.set i (.uarr e sz rows'))[j]?=some ob→jb c j ob=some b'→∃o0,h[j]?=some o0∧jb c j o0=some b':=fun j ob b' hj il=>by
   rcases l7 hj with⟨rfl,rfl⟩|⟨ii,h1⟩
   ·exact⟨_,hi,qio⟩
   ·exact⟨ob,h1,il⟩
  have uh:∀kk,kk<rows.length * sz→vs[kk]?=cur.toList[kk]?:=fun kk hkk=>by rw[←u5,dx,if_pos hkk]
  have sw:ObjR c (w.setRow b (cur.toList.take (r * sz+q)++(ev x).cells.toList++cur.toList.drop (r * sz+q+(ev x).cells.toList.length)).toArray) i (.uarr e sz rows'):=by
   refine⟨.slice (some ⟨b,0,none⟩) rows.length cap,(cur.toList.take (r * sz+q)++(ev x).cells.toList++cur.toList.drop (r * sz+q+(ev x).cells.toList.length)).take (rows.length * sz),by simp[rows',hv],rfl,by simpa[rows']using v8,⟨?_,.inr ⟨b,cap,_,qkt,di _,setRow_heap w b cur _ e (0,0) hg,by simpa[rows']using nz,pz,?_,qkt⟩⟩,by simpa[rows']using h3,fun r' je=>?_,fun i' j qyg x' hrw mc=>?_⟩
   ·simp[rows',uv];omega
   ·simp[uv];omega
   ·rcases qmk je with h6|h6
    ·exact h4 r' h6
    ·rw[h6];simp only[cz,du,gd,xp,nk];omega
   ·have ib:i'<rows.length:=by have:=(cq.1 hrw).1;simpa[rows']using this
    have his:(i'+1) * sz≤rows.length * sz:=fb _ ib;rw[fi,qlb]at his;have qg:=xd4 cur.toList (ev x).cells.toList (r * sz+q) (i' * sz+j) qha;rcases l7 hrw with⟨rfl,rfl⟩|⟨ii,h6⟩
    ·have hj:j<sz:=by
      have:=(cq.1 mc).1;simp only[cz,du,gd,xp,nk]at this;omega
     rw[dx,if_pos aa,qg];have v6:=xd4 (rows.getD i' []) (kc h y.cells) q j (by rw[xp,nk];exact ig);rw[xp]at v6;rw[v6]at mc;by_cases y6:j<q
     ·rw[if_pos y6]at mc;rw[if_pos aa,←uh _ aa];exact h5 i' j _ x' qx5 mc
     ·rw[if_neg y6]at mc;rw[if_neg aa];by_cases hj2:j<q+y.cells.length
      ·rw[if_pos hj2]at mc;rw[if_pos aa];have hjc:j - q<y.cells.length:=aa;have hxm:=c7 mc;have e2:i' * sz+j - (i' * sz+q)=j - q:=aa;rw[e2];simp only[qd8,dq,dn]at mc;obtain⟨y0,hy0,rfl⟩:=mc;have xai:j - q<(ev x).cells.size:=by rw[c1];exact hjc
       refine⟨(ev x).cells[j - q],qjs,xb8 (dw.1 qpe _ hxm) (qep hs (c2 _ y0 _ hy0 qjs).1)⟩
      ·rw[if_neg hj2]at mc;rw[if_neg aa,←uh _ aa];exact h5 i' j _ x' qx5 mc
    ·have qy9:=h4 qyg (c7 h6);have hj:j<sz:=by rw[←qy9];exact(cq.1 mc).1
     rw[dx,if_pos aa,qg];rcases d8 i' r with h7|h7
     ·have:(i'+1) * sz≤r * sz:=fb _ h7;rw[fi,qlb]at this;rw[if_pos aa,←uh _ aa];exact h5 i' j qyg x' h6 mc
     ·have:(r+1) * sz≤i' * sz:=fb _ aa;rw[fi,qlb]at this;rw[if_neg aa,if_neg aa,←uh _ aa];exact h5 i' j qyg x' h6 mc
  refine⟨_,mj,⟨fun g j v hD=>?_,fun j hj=>hs.dom j bf,fun j ob hj=>?_,fun j j' ob o2 b' hj oq jw li=>?_,fun j ob b' m v hj jw hD=>?_⟩,⟨k.edom,k.ext,k.blk0,bz,k.os,k.tape,k.output,qkf,fun g jf iz=>?_,fun j ob b' hj jw=>?_,k.dold⟩⟩
  ·have jf:g≠b:=fun e2=>by
    subst e2;exact hs.sep i _ g j v hi px hD
   rw[World.cell?_of_block (w:=w) (o9 g jf)];exact hs.data g j v hD
  ·rcases l7 hj with⟨rfl,rfl⟩|⟨ii,h6⟩
   ·exact sw
   ·refine(hs.obj j ob h6).keep (.refl c) (fun _=>rfl) fun b' il=>o9 b' fun e2=>ii ?_;subst e2;exact hs.apart j i ob _ b' h6 hi il px
  ·obtain⟨o3,g1,wb⟩:=o7 j ob b' hj jw;obtain⟨o4,g2,g2'⟩:=o7 j' o2 b' oq li;exact hs.apart j j' o3 o4 b' g1 g2 wb g2'
  ·rcases l7 hj with⟨rfl,rfl⟩|⟨ii,h6⟩
   ·have qvw:jb c j (.uarr e sz rows')=some b':=jw;rw[qya]at qvw;have h9:(AObj.uarr e sz rows).shares m:=hs.sep j (.uarr e sz rows) b' m v hi (by rw[px,qvw]) hD;exact h9
   ·exact hs.sep j ob b' m v h6 jw hD
  ·have ii:g≠b:=fun e2=>by
    subst e2;rcases k.newobj i _ g hi px with⟨o0,h6,h7⟩|h6
    ·exact iz i o0 h6 h7
    ·omega
   rw[o9 g ii];exact k.frame g jf iz
  ·obtain⟨o3,g1,wb⟩:=o7 j ob b' hj jw;exact k.newobj j o3 b' g1 wb
theorem jnj{c:Ctx}{h:gz}{w:World}(hs:HSim c h w)(k:E.ok c h w){o:Oper}{ev:Operand→Value}{T:TypeId}{ad x:Operand}(jy:o.op=.store T ad x){i n sz r q e:Nat}{rows:List (List AV)}{y:AV}
  (x9:Rel c (.optr i n sz r q) (ev ad)) (l8:Rel c y (ev x)) (hi:h[i]?=some (.oarr e sz rows)) (hn:rows.length=n) (hr:r<rows.length) (jm:y.cellsOk=true)
  (jq:y.cells.length=iy P T) (hk:ij P T≠.other) (ig:q+y.cells.length≤sz) :
  ∃w',(execOp ev o).run P w=.ok .skip w'∧HSim c (h.set i (.oarr e sz (rows.set r ((rows.getD r []).take q++y.cells++(rows.getD r []).drop (q+y.cells.length))))) w' ∧
   E.ok c (h.set i (.oarr e sz (rows.set r ((rows.getD r []).take q++y.cells++(rows.getD r []).drop (q+y.cells.length))))) w':=by
 obtain⟨b,o',len,cap,zw,hv⟩:=qxn x9;subst hn;obtain⟨v',vs,h1,ly,v8,h2,h3,h4,h5⟩:=hs.obj i _ hi;rw[hv]at h1;cases h1;rcases h2.2 with⟨e1,_⟩|⟨g,cp,cur,e1,_,hg,nz,pz,ma,u5⟩
 ·cases e1
 ·cases e1;obtain⟨c1,c2⟩:=l8.cells jm;obtain⟨iT,d,z,t1,t2,t3,t4,t5,_⟩:=lj (P:=P) (t:=T) rfl hk;have m7:∀v,v∈(ev x).cells.toList→v.oneCell'=true:=fun v hv=>by
   obtain⟨j,hj⟩:=dv hv;have ib:j<y.cells.length:=by rw[←c1];have:=(cq.1 hj).1;simpa using this
   exact(c2 j _ v qi0 bf).2
  have uv:(ev x).cells.toList.length=y.cells.length:=by simpa using c1
  have hrs:(r+1) * sz≤rows.length * sz:=fb _ hr;rw[fi,qlb]at hrs;have hcs':rows.length * sz≤cur.size:=qgc;have hp:(r * sz+q)+(ev x).cells.toList.length≤cur.size:=by rw[uv];omega
  have jx:=run_storeCells_at P b (r * sz+q) e (ev x).cells.toList 0 cur w hg aa m7;simp only[d6]at jx;have pr:(ev x).cells.size=iT.size:=by rw[c1,jq,t5]
  have mj:(execOp ev o).run P w=.ok .skip (w.setRow b (cur.toList.take (r * sz+q)++(ev x).cells.toList++cur.toList.drop (r * sz+q+(ev x).cells.toList.length)).toArray):=by
   simp only[execOp,jy,Instr.storeAt,zw,db,Instr.sureAddr,storeVar,dh,dy,dj,z8 t1,pr,ne_eq,not_true_eq_false,if_false,jx]
  have o9:∀g,g≠b→(w.setRow b (cur.toList.take (r * sz+q)++(ev x).cells.toList++cur.toList.drop (r * sz+q+(ev x).cells.toList.length)).toArray).heap[g]?=w.heap[g]?:=fun g hg=>setRow_other w b g _ hg;have u6:(w.setRow b (cur.toList.take (r * sz+q)++(ev x).cells.toList++cur.toList.drop (r * sz+q+(ev x).cells.toList.length)).toArray).heap.size=w.heap.size:=qgw;have px:jb c i (.oarr e sz rows)=some b:=qhp
  let rows':=rows.set r ((rows.getD r []).take q++y.cells++(rows.getD r []).drop (q+y.cells.length))
  have qya:jb c i (.oarr e sz rows')=some b:=by simp[jb,rows',hv,Value.ownBlock]
  have qx5:rows[r]?=some (rows.getD r []):=qi3;have nk:(rows.getD r []).length=sz:=h4 _ (c7 qx5);have xp:(y.cells).length=y.cells.length:=rfl;have o7:∀j ob b',(h.set i (.oarr e sz rows'))[j]?=some ob→jb c j ob=some b'→∃o0,h[j]?=some o0∧jb c j o0=some b':=fun j ob b' hj il=>by
   rcases l7 hj with⟨rfl,rfl⟩|⟨ii,h1⟩
   ·exact⟨_,hi,qio⟩
   ·exact⟨ob,h1,il⟩
  have uh:∀kk,kk<rows.length * sz→vs[kk]?=cur.toList[kk]?:=fun kk hkk=>by rw[←u5,dx,if_pos hkk]
  have sw:ObjR c (w.setRow b (cur.toList.take (r * sz+q)++(ev x).cells.toList++cur.toList.drop (r * sz+q+(ev x).cells.toList.length)).toArray) i (.oarr e sz rows'):=by
   refine⟨.slice (some ⟨b,0,none⟩) rows.length cap,(cur.toList.take (r * sz+q)++(ev x).cells.toList++cur.toList.drop (r * sz+q+(ev x).cells.toList.length)).take (rows.length * sz),by simp[rows',hv],rfl,by simpa[rows']using v8,⟨?_,.inr ⟨b,cap,_,qkt,di _,setRow_heap w b cur _ e (0,0) hg,by simpa[rows']using nz,pz,?_,qkt⟩⟩,by simpa[rows']using h3,fun r' je=>?_,fun i' j qyg x' hrw mc=>?_⟩
   ·simp[rows',uv];omega
   ·simp[uv];omega
   ·rcases qmk je with h6|h6
    ·exact h4 r' h6
    ·rw[h6];simp only[cz,du,gd,xp,nk];omega
   ·have ib:i'<rows.length:=by have:=(cq.1 hrw).1;simpa[rows']using this
    have his:(i'+1) * sz≤rows.length * sz:=fb _ ib;rw[fi,qlb]at his;have qg:=xd4 cur.toList (ev x).cells.toList (r * sz+q) (i' * sz+j) qha;rcases l7 hrw with⟨rfl,rfl⟩|⟨ii,h6⟩
    ·have hj:j<sz:=by
      have:=(cq.1 mc).1;simp only[cz,du,gd,xp,nk]at this;omega
     rw[dx,if_pos aa,qg];have v6:=xd4 (rows.getD i' []) (y.cells) q j (by rw[xp,nk];exact ig);rw[xp]at v6;rw[v6]at mc;by_cases y6:j<q
     ·rw[if_pos y6]at mc;rw[if_pos aa,←uh _ aa];exact h5 i' j _ x' qx5 mc
     ·rw[if_neg y6]at mc;rw[if_neg aa];by_cases hj2:j<q+y.cells.length
      ·rw[if_pos hj2]at mc;rw[if_pos aa];have hjc:j - q<y.cells.length:=aa;have e2:i' * sz+j - (i' * sz+q)=j - q:=aa;rw[e2];have xai:j - q<(ev x).cells.size:=by rw[c1];exact hjc
       exact⟨(ev x).cells[j - q],qjs,c2 _ x' _ mc qjs⟩
      ·rw[if_neg hj2]at mc;rw[if_neg aa,←uh _ aa];exact h5 i' j _ x' qx5 mc
    ·have qy9:=h4 qyg (c7 h6);have hj:j<sz:=by rw[←qy9];exact(cq.1 mc).1
     rw[dx,if_pos aa,qg];rcases d8 i' r with h7|h7
     ·have:(i'+1) * sz≤r * sz:=fb _ h7;rw[fi,qlb]at this;rw[if_pos aa,←uh _ aa];exact h5 i' j qyg x' h6 mc
     ·have:(r+1) * sz≤i' * sz:=fb _ aa;rw[fi,qlb]at this;rw[if_neg aa,if_neg aa,←uh _ aa];exact h5 i' j qyg x' h6 mc
  refine⟨_,mj,⟨fun g j v hD=>?_,fun j hj=>hs.dom j bf,fun j ob hj=>?_,fun j j' ob o2 b' hj oq jw li=>?_,fun j ob b' m v hj jw hD=>?_⟩,⟨k.edom,k.ext,k.blk0,bz,k.os,k.tape,k.output,qkf,fun g jf iz=>?_,fun j ob b' hj jw=>?_,k.dold⟩⟩
  ·have jf:g≠b:=fun e2=>by
    subst e2;exact hs.sep i _ g j v hi px hD
   rw[World.cell?_of_block (w:=w) (o9 g jf)];exact hs.data g j v hD
  ·rcases l7 hj with⟨rfl,rfl⟩|⟨ii,h6⟩
   ·exact sw
   ·refine(hs.obj j ob h6).keep (.refl c) (fun _=>rfl) fun b' il=>o9 b' fun e2=>ii ?_;subst e2;exact hs.apart j i ob _ b' h6 hi il px
  ·obtain⟨o3,g1,wb⟩:=o7 j ob b' hj jw;obtain⟨o4,g2,g2'⟩:=o7 j' o2 b' oq li;exact hs.apart j j' o3 o4 b' g1 g2 wb g2'
  ·rcases l7 hj with⟨rfl,rfl⟩|⟨ii,h6⟩
   ·have qvw:jb c j (.oarr e sz rows')=some b':=jw;rw[qya]at qvw;have h9:(AObj.oarr e sz rows).shares m:=hs.sep j (.oarr e sz rows) b' m v hi (by rw[px,qvw]) hD;exact h9
   ·exact hs.sep j ob b' m v h6 jw hD
  ·have ii:g≠b:=fun e2=>by
    subst e2;rcases k.newobj i _ g hi px with⟨o0,h6,h7⟩|h6
    ·exact iz i o0 h6 h7
    ·omega
   rw[o9 g ii];exact k.frame g jf iz
  ·obtain⟨o3,g1,wb⟩:=o7 j ob b' hj jw;exact k.newobj j o3 b' g1 wb
end
end Go.Abs
