/- Part 8 of a proof: AbsO, AbsXs -/
import Derived.Test.YtilhejdbiionhaaGreatDoorR07
set_option linter.all false

namespace Go.Abs
section
variable {P:Program} {E:Ent}
theorem RelL.app{c:Ctx}{xs ys:List AV}{us vs:Array Value}(h:RelL c xs us)(k:RelL c ys vs):RelL c (xs++ys) (us++vs) :=
 ⟨by simp[h.1,k.1],fun j x v hx hv=>by
  by_cases hj:j<xs.length
  ·rw[List.getElem?_append_left hj]at hx;rw[Array.getElem?_append_left (by rw[h.1];exact hj)]at hv;exact h.2 j x v hx hv
  ·rw[List.getElem?_append_right (by omega)]at hx;rw[Array.getElem?_append_right (by rw[h.1];omega),h.1]at hv;exact k.2 _ x v hx hv⟩
theorem RelL.map{c:Ctx}{g:Operand→AV}{ev:Operand→Value}{l:Array Operand}(hg:∀x,x∈l.toList→Rel c (g x) (ev x)):RelL c (l.toList.map g) (l.map ev) :=
 ⟨by simp,(relMap hg).2⟩
theorem RelL.norm{c:Ctx}{h:qab}{w:World}(s:HSim c h w){xs:List AV}{vs:Array Value}(k:RelL c xs vs):RelL (c.share h w) (qbi h xs) vs :=
 ⟨by rw[normL_eq];simp[k.1],fun j x v hx hv=>by
  rw[normL_eq]at hx;simp only[List.getElem?_map,Option.map_eq_some_iff]at hx;obtain⟨y,hy,rfl⟩:=hx;exact norm_rel s (k.2 j y v hy hv)⟩
theorem run_enter{o:Oper}{ev:Operand→Value}{w:World}{f:Operand}{args:Array Operand}{ts:Array TypeId}(ho:o.op=.call { callee:=.value f,args:=args,argTypes:=ts }){fid:FuncId}{us vs:Array Value}
  (hf:ev f=.func (.func fid) us vs) (hen:Enter P fid):(execOp ev o).run P w=.ok (.enter fid (us++args.map ev++vs)) w:=by
 obtain⟨fn,h1,h2,h3⟩:=hen;have hb:fn.body.isNone=false:=by
  cases hbd:fn.body with
  |none=>rw[hbd]at h2;simp at h2
  |some b=>rfl
 simp only[execOp,ho,resolve,hf,Deferred.ofValue,invoke,callFunc,Sem.run_bind,Sem.run_pure,Result.andThen_ok,run_program,h1,h3,hb,Bool.false_eq_true,if_false]
theorem qc2(w:World)(o:Obj):(newObj o).run P w=.ok w.heap.size (w.alloc o):=rfl
theorem call_ok{c:Ctx}{e:Env}{a:Act}{w:World}(s:Sim E.N c e a w)(k:E.ok c e.h w){o:Oper}{f:Operand}{args:Array Operand}{ts:Array TypeId}(ho:o.op=.call { callee:=.value f,args:=args,argTypes:=ts })
  (hall:qaw e true (f::args.toList)) {fid:FuncId} {first caps:List AV} (hf:e.getS f=.fn (.func fid) first caps) {R:AEnd→qab→Prop}
  (hc:ACalls P fid (qbi e.h (first++args.toList.map e.getS++caps)) e.h R) {next:Act→World→Prop} {Q:Exit→Act→World→Prop}
  (hret:∀v h' c' w' u,R (.ret v) h'→c.le c'→HSim c' h' w'→E.ok c' h' w'→Rel c' v u→next (a.put o.dst u) w')
  (hpan:∀v h' c' w' u,R (.panic v) h'→c.le c'→HSim c' h' w'→E.ok c' h' w'→Rel c' v u→Q (.panic [⟨u,false,false⟩]) a w'):o.wp P a w next Q:=by
 have hrel:=qbe s hall;have hfr:=hrel f (by simp);rw[hf]at hfr;obtain⟨us,vs,hev,h1,h2⟩:∃us vs,a.eval f=.func (.func fid) us vs∧RelL c first us∧RelL c caps vs:=by
  generalize a.eval f=z at hfr;cases hfr with
  |data h=>cases h
  |fn f ys xs us vs hl' hl h' h=>exact⟨us,vs,rfl,⟨hl',h'⟩,⟨hl,h⟩⟩
 have hargs:RelL c (args.toList.map e.getS) (args.map a.eval):=RelL.map fun x hx=>hrel x (by simp[hx]);have hlist:=(RelL.app (RelL.app h1 hargs) h2).norm s.hs;obtain⟨s1,k1⟩:=share_ok s.hs k;unfold Oper.wp;rw[run_enter ho hev hc.1];refine(hc.2 _ w _ s1 hlist).mono ?_;rintro en w' ⟨r,h',c',hR,hE,hs',hk'⟩;have hle:c.le c':=(share_le c e.h w).trans hk'.ext;have hok:E.ok c' h' w':=k1.trans hk';cases r with
 |ret v =>
  cases en with
  |returned u=>exact hret v h' c' w' u hR hle hs' hok hE
  |_=>simp[EndR]at hE
 |panic v =>
  cases en with
  |panicked ch =>
   cases ch with
   |nil=>simp[EndR]at hE
   |cons p l =>
    cases l with
    |nil =>
     obtain⟨u,r,g⟩:=p;cases r<;>cases g<;>simp only[EndR]at hE;exact hpan v h' c' w' u hR hle hs' hok hE
    |cons=>simp[EndR]at hE
  |_=>simp[EndR]at hE
theorem litRows_spec{h:qab}{sz:Nat}:∀{k:Nat} {l:List (Nat×AV)} {rows:List (List AV)},litRows h sz k l=some rows →
  rows.length=l.length∧∀(i:Nat) (p:Nat×AV),l[i]?=some p→p.1=k+i∧p.2.cellsOk=true∧p.2.cells.length=sz∧rows[i]?=some (qbi h p.2.cells)∧∀x,x∈qbi h p.2.cells→x.isData=true
 |k,[],rows,hr=>by simp only[litRows,Option.some.injEq]at hr;subst hr;simp
 |k,(i,x)::l,rows,hr=>by
  simp only[litRows]at hr;split at hr
  ·rename_i hc;obtain⟨rfl,h1,h2,h3⟩:=hc;simp only[Option.map_eq_some_iff]at hr;obtain⟨rows',hr',rfl⟩:=hr;obtain⟨h4,h5⟩:=litRows_spec hr';refine⟨by simp[h4],fun j p hp=>?_⟩;cases j with
   |zero=>simp at hp;subst hp;exact⟨by simp,h1,h2,by simp,List.all_eq_true.1 h3⟩
   |succ j =>
    obtain⟨g1,g2⟩:=h5 j p (by simpa using hp);exact⟨by omega,by simpa using g2⟩
  ·cases hr
theorem isData_rel{c:Ctx}{x:AV}{v:Value}(h:x.isData=true)(hr:Rel c x v):DRel c.D x v:=by
 cases x with
 |val u=>obtain rfl:=hr.val_inv;exact .val v h (val_ok hr)
 |slice rows=>exact hr.slice_inv
 |_=>simp[AV.isData]at h
theorem lit_ok{c:Ctx}{h:qab}{w:World}(s:HSim c h w)(k:E.ok c h w){T el sz n:Nat}(hk:qah P T=.slice el sz){parts:List (Nat×AV)}{qs:Array (Nat×Value)}(hl:parts.length=qs.size)
  (hpq:∀(j:Nat) (p:Nat×AV) (q:Nat×Value),parts[j]?=some p→qs[j]?=some q→p.1=q.1∧Rel c p.2 q.2) {rows:List (List AV)} (hr:litRows h sz 0 parts=some rows) (hn:rows.length=n) (hpos:0<sz) (h24:n * sz≤16777216)
  (hke:qah P el≠.other) (hsize:qat P el=sz) :
  ∃v w' c',(Instr.buildSlice T n qs).run P w=.ok v w'∧c.le c'∧HSim c' h w'∧E.ok c' h w'∧Rel c' (.slice rows) v:=by
 obtain⟨iT,dT,zT,_,hund,_,hkd,_⟩:=qas hk (by simp);obtain⟨rfl,ie,hie,hies⟩:=qbq hkd;obtain⟨ie',de,ze,hie',_,hze,_,hts,_,hzs,hz1⟩:=qas (P:=P) (t:=el) rfl hke;rw[hie]at hie';cases hie';subst hies;obtain⟨hrl,hspec⟩:=litRows_spec hr;have hpn:parts.length=n:=by omega
 have hnl:∀xs:List AV,(qbi h xs).length=xs.length:=fun xs=>by rw[normL_eq];simp
 -- the zero cells
 let zs:Array Value:=(Array.range (n * ie.size)).map (ze.cells[· % ze.cells.size]!)
 -- filling
 have hfill:∀(m:Nat) (qs':List (Nat×Value)) (cs:Array Value),cs.size=n * ie.size→m+qs'.length=n→(∀j q,qs'[j]?=some q→q.1=m+j∧q.2.cells.size=ie.size) →
   ∃cs',Instr.fill (fun i=>some (i * ie.size,ie.size)) cs qs'=some cs'∧cs'.size=n * ie.size∧(∀k,k<m * ie.size→cs'[k]?=cs[k]?) ∧
    ∀j q t u,qs'[j]?=some q→q.2.cells[t]?=some u→cs'[(m+j) * ie.size+t]?=some u:=by
  intro m qs'
  induction qs' generalizing m with
  |nil=>intro cs hcs _ _;exact⟨cs,rfl,hcs,fun _ _=>rfl,by simp⟩
  |cons q qs' ih =>
   intro cs hcs hm hq;obtain⟨i,v⟩:=q;obtain⟨h1,h2⟩:=hq 0 (i,v) rfl;simp only[Nat.add_zero]at h1 h2;subst h1;have hle:i * ie.size+ie.size≤n * ie.size:=by
    have:(i+1) * ie.size≤n * ie.size:=Nat.mul_le_mul_right _ (by simp at hm;omega);rw[Nat.add_mul]at this;omega
   let cs1:=v.cells.zipIdx.foldl (fun (cs:Array Value) (p:Value×Nat)=>cs.setIfInBounds (i * ie.size+p.2) p.1) cs
   have hcs1:cs1=(v.cells.toList.zipIdx 0).foldl (fun (cs:Array Value) (p:Value×Nat)=>cs.setIfInBounds (i * ie.size+p.2) p.1) cs:=by
    show v.cells.zipIdx.foldl _ cs=_;rw[←Array.foldl_toList,Array.toList_zipIdx]
   obtain⟨g1,g2⟩:=setAll_get (i * ie.size) v.cells.toList 0 cs;have g2:=g2 (by simp[h2];omega);obtain⟨cs',f1,f2,f3,f4⟩:=ih (i+1) cs1 (by rw[hcs1,g1];exact hcs) (by simp at hm;omega) (fun j q hq'=>by
    have:=hq (j+1) q (by simpa using hq');exact⟨by omega,this.2⟩)
   refine⟨cs',?_,f2,fun k hk=>?_,fun j q t u hq' hu=>?_⟩
   ·simp only[Instr.fill];rw[if_neg (by rw[h2,hcs];simp;omega)];exact f1
   ·rw[f3 k (by rw[Nat.add_mul];omega),hcs1,g2 k,if_neg (by omega)]
   ·cases j with
    |zero =>
     simp at hq';subst hq';have ht:t<ie.size:=by rw[←h2];exact(Array.getElem?_eq_some_iff.1 hu).1
     have e1:(i+1) * ie.size=i * ie.size+ie.size:=by rw[Nat.add_mul];omega
     rw[Nat.add_zero,f3 _ (by omega),hcs1,g2,if_pos (by simp[h2];omega)];simpa using hu
    |succ j =>
     have:=f4 j q t u (by simpa using hq') hu;rw[show i+(j+1)=i+1+j from by omega];exact this
 obtain⟨cs',hf1,hf2,_,hf4⟩:=hfill 0 qs.toList zs (by simp[zs]) (by simp;omega) (fun j q hq=>by
  have hjlt:j<parts.length:=by rw[hl];have:=(List.getElem?_eq_some_iff.1 hq).1;simpa using this
  obtain⟨e1,e2⟩:=hpq j parts[j] q (by simp[hjlt]) (by simpa using hq);obtain⟨p1,p2,p3,_⟩:=hspec j parts[j] (by simp[hjlt]);exact⟨by omega,by rw[(e2.cells p2).1,p3]⟩)
 obtain⟨c',hle,s1,k1,hD⟩:=data_ok (E:=E) (share_ok s k).1 (share_ok s k).2 cs' el;have hlit:¬(n * ie.size > 2 ^ 24):=by simp;omega
 have hzv:(zeroValue el).run P w=.ok ze w:=by simp[zeroValue,run_typeInfo _ hie,hze]
 refine⟨.slice (some ⟨w.heap.size,0,none⟩) n n,w.alloc (.cells cs' el),c',?_,(share_le c h w).trans hle,s1,k1,?_⟩
 ·simp only[Instr.buildSlice,Sem.run_bind,qa0 hund,Result.andThen_ok,qbh hie,if_neg hlit];by_cases h0:n * ie.size=0
  ·have hz0:(Array.range (n * ie.size)).map (fun x=>(#[]:Array Value)[x % (#[]:Array Value).size]!)=zs:=by
    simp[zs,h0]
   simp only[h0,if_true,Sem.run_pure,Result.andThen_ok,Sem.run_bind];rw[h0]at hz0;simp only[hz0,hf1,newRow,Sem.run_bind,qc2,Result.andThen_ok,Sem.run_pure]
  ·simp only[if_neg h0,Sem.run_bind,hzv,Result.andThen_ok,Sem.run_pure];have hzz:(Array.range (n * ie.size)).map (fun x=>ze.cells[x % ze.cells.size]!)=zs:=rfl;simp only[hzz,hf1,newRow,Sem.run_bind,qc2,Result.andThen_ok,Sem.run_pure]
 ·have hcell:∀(i j:Nat) (r:List AV) (x:AV),rows[i]?=some r→r[j]?=some x→∃v,c'.D w.heap.size (i * ie.size+j)=some v∧DRel c'.D x v:=by
   intro i j r x hr' hx;have hilt:i<parts.length:=by rw[←hrl];exact(List.getElem?_eq_some_iff.1 hr').1
   obtain⟨p1,p2,p3,p4,p5⟩:=hspec i parts[i] (by simp[hilt]);rw[p4]at hr';cases hr';have hqlt:i<qs.size:=by omega
   obtain⟨e1,e2⟩:=hpq i parts[i] qs[i] (by simp[hilt]) (by simp[hqlt]);obtain⟨q1,q2⟩:=e2.cells p2;have hx':=hx;rw[normL_eq,List.getElem?_map,Option.map_eq_some_iff]at hx';obtain⟨y,hy,hyx⟩:=hx';have hjlt:j<qs[i].2.cells.size:=by rw[q1];exact(List.getElem?_eq_some_iff.1 hy).1
   obtain⟨r1,r2⟩:=q2 j y qs[i].2.cells[j] hy (by simp[hjlt]);have h6:=hf4 i qs[i] j qs[i].2.cells[j] (by simp[hqlt]) (by simp[hjlt]);rw[Nat.zero_add]at h6;refine⟨_,hD _ _ h6,?_⟩;have h7:=norm_rel s r1;rw[hyx]at h7;exact(isData_rel (p5 x (List.mem_of_getElem? hx)) h7).mono hle.D
  have hdr:DRel c'.D (.slice rows) (.slice (some ⟨w.heap.size,0,none⟩) rows.length n):=.slice rows w.heap.size 0 n ie.size (fun i j=>(c'.D w.heap.size (i * ie.size+j)).getD undef) (fun r hr'=>by
    obtain⟨i,hi⟩:=List.getElem?_of_mem hr';have hilt:i<parts.length:=by rw[←hrl];exact(List.getElem?_eq_some_iff.1 hi).1
    obtain⟨p1,p2,p3,p4,p5⟩:=hspec i parts[i] (by simp[hilt]);rw[p4]at hi;cases hi;rw[hnl,p3]) (by
    rw[hn];have:n * 1≤n * ie.size:=Nat.mul_le_mul_left _ hpos;omega) (by omega) (fun i j r x hr' hx=>by
    obtain⟨v,hv,_⟩:=hcell i j r x hr' hx;rw[Nat.zero_add,hv];rfl) fun i j r x hr' hx=>by
    obtain⟨v,hv,hd⟩:=hcell i j r x hr' hx;rw[hv];exact hd
  rw[hn]at hdr;exact .data hdr
theorem run_buildK{T el sz:Nat}(hk:qah P T=.slice el sz)(hke:qah P el≠.other)(hsize:qat P el=sz)(hpos:0<sz)(h24:sz≤16777216){v:Value}(hc:v.cells.size=sz)(w:World) :
  (Instr.buildSlice T 1 #[(0,v)]).run P w=.ok (.slice (some ⟨w.heap.size,0,none⟩) 1 1) (w.alloc (.cells v.cells el)):=by
 obtain⟨iT,dT,zT,_,hund,_,hkd,_⟩:=qas hk (by simp);obtain⟨rfl,ie,hie,hies⟩:=qbq hkd;obtain⟨ie',de,ze,hie',_,hze,_,hts,_,hzs,hz1⟩:=qas (P:=P) (t:=el) rfl hke;rw[hie]at hie';cases hie';subst hies;have hzv:(zeroValue el).run P w=.ok ze w:=by simp[zeroValue,run_typeInfo _ hie,hze]
 let zs:Array Value:=(Array.range (1 * ie.size)).map (ze.cells[· % ze.cells.size]!)
 have hzz:zs.size=ie.size:=by simp[zs]
 have hfill:Instr.fill (fun i=>some (i * ie.size,ie.size)) zs [(0,v)]=some v.cells:=by
  simp only[Instr.fill];rw[if_neg (by rw[hc,hzz];simp)];congr 1;have hcs1:v.cells.zipIdx.foldl (fun (cs:Array Value) (p:Value×Nat)=>cs.setIfInBounds (0 * ie.size+p.2) p.1) zs=(v.cells.toList.zipIdx 0).foldl (fun (cs:Array Value) (p:Value×Nat)=>cs.setIfInBounds (0 * ie.size+p.2) p.1) zs:=by
   rw[←Array.foldl_toList,Array.toList_zipIdx]
  obtain⟨g1,g2⟩:=setAll_get (0 * ie.size) v.cells.toList 0 zs;have g2:=g2 (by simp[hc,hzz]);rw[hcs1];apply Array.ext
  ·rw[g1,hzz,hc]
  ·intro k h1 h2;have h9:=g2 k;rw[if_pos (by simp[hc];omega),Array.getElem?_eq_getElem h1]at h9;simp only[Nat.zero_mul,Nat.sub_zero,Nat.add_zero,Array.getElem?_toList,Array.getElem?_eq_getElem h2,Option.some.injEq]at h9⊢;exact h9
 have hlit:¬(1 * ie.size > 2 ^ 24):=by simp;omega
 have h0:¬(1 * ie.size=0):=by omega
 simp only[Instr.buildSlice,Sem.run_bind,qa0 hund,Result.andThen_ok,qbh hie,if_neg hlit,if_neg h0,hzv,Sem.run_pure];have hzz':(Array.range (1 * ie.size)).map (fun x=>ze.cells[x % ze.cells.size]!)=zs:=rfl;simp only[hzz',hfill,newRow,Sem.run_bind,qc2,Result.andThen_ok,Sem.run_pure]
theorem lit1_ok{c:Ctx}{h:qab}{w:World}(s:HSim c h w)(k:E.ok c h w){T el sz n:Nat}(hk:qah P T=.slice el sz){parts:List (Nat×AV)}{qs:Array (Nat×Value)}(hl:parts.length=qs.size)
  (hpq:∀(j:Nat) (p:Nat×AV) (q:Nat×Value),parts[j]?=some p→qs[j]?=some q→p.1=q.1∧Rel c p.2 q.2) {cs:List AV} (hr:litOne sz n parts=some cs) (hpos:0<sz) (h24:sz≤16777216)
  (hke:qah P el≠.other) (hsize:qat P el=sz) :
  ∃v w' c',(Instr.buildSlice T n qs).run P w=.ok v w'∧c.le c'∧HSim c' h w'∧E.ok c' h w'∧Rel c' (.lit cs) v:=by
 unfold litOne at hr;split at hr
 ·rename_i x;split at hr
  ·rename_i hx;obtain⟨hok,hxl⟩:=hx;cases hr;have hq0:qs[0]?=some qs[0]!:=by
    have h1:0<qs.size:=by rw[←hl];simp
    rw[getElem!_pos qs 0 h1,Array.getElem?_eq_getElem h1]
   obtain⟨e1,e2⟩:=hpq 0 (0,x) _ rfl hq0;have hqs:qs = #[(0,(qs[0]!).2)]:=by
    apply Array.ext
    ·rw[←hl];simp
    ·intro i h1 h2;have:i=0:=by simp at h2;exact h2
     subst this;rw[getElem!_pos qs 0 h1]at e1⊢;simp only[List.getElem_toArray,List.getElem_cons_zero];exact Prod.ext e1.symm rfl
   generalize(qs[0]!).2=v at hqs e2;subst hqs;obtain⟨hc1,hc2⟩:=e2.cells hok;have hrun:=run_buildK (P:=P) hk hke hsize hpos h24 (v:=v) (by rw[hc1,hxl]) w;obtain⟨c1,hle1,s1,k1,hD1⟩:=data_ok s k v.cells el;refine⟨_,_,c1,hrun,hle1,s1,k1,?_⟩;refine .lit x.cells w.heap.size 0 1 (fun j=>v.cells[j]!) (fun j y hy=>?_) (fun j y hy=>?_) (fun j y hy=>?_)
   all_goals have hlt:j<v.cells.size:=by rw[hc1];exact(List.getElem?_eq_some_iff.1 hy).1
   ·rw[Nat.zero_add,getElem!_pos v.cells j hlt];exact hD1 j _ (Array.getElem?_eq_getElem hlt)
   ·rw[getElem!_pos v.cells j hlt];exact((hc2 j y v.cells[j] hy (Array.getElem?_eq_getElem hlt)).1).mono hle1
   ·rw[getElem!_pos v.cells j hlt];exact(hc2 j y v.cells[j] hy (Array.getElem?_eq_getElem hlt)).2
  ·cases hr
 ·cases hr
end
end Go.Abs

namespace Go.Abs
theorem splice_get{α:Type}(l us:List α)(p k:Nat)(h:p+us.length≤l.length) :
  (l.take p++us++l.drop (p+us.length))[k]?=if k<p then l[k]? else if k<p+us.length then us[k - p]? else l[k]?:=by
 have hm:min p l.length=p:=by omega
 by_cases h1:k<p
 ·rw[if_pos h1,List.append_assoc,List.getElem?_append_left (by simp;omega),List.getElem?_take,if_pos h1]
 ·rw[if_neg h1];by_cases h2:k<p+us.length
  ·rw[if_pos h2,List.append_assoc,List.getElem?_append_right (by simp;omega),List.getElem?_append_left (by simp;omega)];simp only[List.length_take,hm]
  ·rw[if_neg h2,List.getElem?_append_right (by simp;omega),List.getElem?_drop];simp only[List.length_append,List.length_take,hm];congr 1;omega
section
variable {P:Program} {E:Ent}
theorem ustore_run{c:Ctx}{h:qab}{w:World}(hs:HSim c h w)(k:E.ok c h w){o:Oper}{ev:Operand→Value}{T:TypeId}{ad x:Operand}(hop:o.op=.store T ad x){i n sz r q e:Nat}{rows:List (List AV)}{y:AV}
  (hra:Rel c (.optr i n sz r q) (ev ad)) (hrx:Rel c y (ev x)) (hi:h[i]?=some (.uarr e sz rows)) (hn:rows.length=n) (hr:r<rows.length) (hok:y.cellsOk=true) (hdat:(qbi h y.cells).all AV.isData=true)
  (hsz:y.cells.length=qat P T) (hk:qah P T≠.other) (hle:q+y.cells.length≤sz) :
  ∃w',(execOp ev o).run P w=.ok .skip w'∧HSim c (h.set i (.uarr e sz (rows.set r ((rows.getD r []).take q++qbi h y.cells++(rows.getD r []).drop (q+y.cells.length))))) w' ∧
   E.ok c (h.set i (.uarr e sz (rows.set r ((rows.getD r []).take q++qbi h y.cells++(rows.getD r []).drop (q+y.cells.length))))) w':=by
 obtain⟨b,o',len,cap,hav,hv⟩:=optr_inv hra;subst hn;obtain⟨v',vs,h1,ho1,hmax,h2,h3,h4,h5⟩:=hs.obj i _ hi;rw[hv]at h1;cases h1;rcases h2.2 with⟨e1,_⟩|⟨g,cp,cur,e1,_,hg,hnc,hcm,hcs,htake⟩
 ·cases e1
 ·cases e1;obtain⟨c1,c2⟩:=hrx.cells hok;obtain⟨iT,d,z,t1,t2,t3,t4,t5,_⟩:=qas (P:=P) (t:=T) rfl hk;have hone:∀v,v∈(ev x).cells.toList→v.oneCell'=true:=fun v hv=>by
   obtain⟨j,hj⟩:=List.getElem?_of_mem hv;have hlt:j<y.cells.length:=by rw[←c1];have:=(List.getElem?_eq_some_iff.1 hj).1;simpa using this
   exact(c2 j _ v (by simp[hlt];rfl) (by simpa using hj)).2
  have hul:(ev x).cells.toList.length=y.cells.length:=by simpa using c1
  have hrs:(r+1) * sz≤rows.length * sz:=Nat.mul_le_mul_right _ hr;rw[Nat.add_mul,Nat.one_mul]at hrs;have hcs':rows.length * sz≤cur.size:=by rw[hcs];exact Nat.mul_le_mul_right _ hnc
  have hp:(r * sz+q)+(ev x).cells.toList.length≤cur.size:=by rw[hul];omega
  have hrun:=run_storeCells_at P b (r * sz+q) e (ev x).cells.toList 0 cur w hg (by omega) hone;simp only[Nat.add_zero]at hrun;have hsize:(ev x).cells.size=iT.size:=by rw[c1,hsz,t5]
  have hst:(execOp ev o).run P w=.ok .skip (w.setRow b (cur.toList.take (r * sz+q)++(ev x).cells.toList++cur.toList.drop (r * sz+q+(ev x).cells.toList.length)).toArray):=by
   simp only[execOp,hop,Instr.storeAt,hav,Nat.zero_add,Instr.sureAddr,storeVar,Sem.run_bind,Sem.run_pure,Result.andThen_ok,qbh t1,hsize,ne_eq,not_true_eq_false,if_false,hrun]
  have hoth:∀g,g≠b→(w.setRow b (cur.toList.take (r * sz+q)++(ev x).cells.toList++cur.toList.drop (r * sz+q+(ev x).cells.toList.length)).toArray).heap[g]?=w.heap[g]?:=fun g hg=>setRow_other w b g _ hg;have hsz':(w.setRow b (cur.toList.take (r * sz+q)++(ev x).cells.toList++cur.toList.drop (r * sz+q+(ev x).cells.toList.length)).toArray).heap.size=w.heap.size:=by simp[World.setRow]
  have hbo:qag c i (.uarr e sz rows)=some b:=by simp[qag,hv,Value.ownBlock]
  let rows':=rows.set r ((rows.getD r []).take q++qbi h y.cells++(rows.getD r []).drop (q+y.cells.length))
  have hbo':qag c i (.uarr e sz rows')=some b:=by simp[qag,rows',hv,Value.ownBlock]
  have hrow0:rows[r]?=some (rows.getD r []):=by simp[List.getD,hr]
  have hrl:(rows.getD r []).length=sz:=h4 _ (List.mem_of_getElem? hrow0);have hnl:(qbi h y.cells).length=y.cells.length:=by simp[normL_eq]
  have holt:∀j ob b',(h.set i (.uarr e sz rows'))[j]?=some ob→qag c j ob=some b'→∃o0,h[j]?=some o0∧qag c j o0=some b':=fun j ob b' hj hb'=>by
   rcases qad hj with⟨rfl,rfl⟩|⟨hne,h1⟩
   ·exact⟨_,hi,by rw[hbo,←hbo',hb']⟩
   ·exact⟨ob,h1,hb'⟩
  have hvs:∀kk,kk<rows.length * sz→vs[kk]?=cur.toList[kk]?:=fun kk hkk=>by rw[←htake,List.getElem?_take,if_pos hkk]
  have hnew:ObjR c (w.setRow b (cur.toList.take (r * sz+q)++(ev x).cells.toList++cur.toList.drop (r * sz+q+(ev x).cells.toList.length)).toArray) i (.uarr e sz rows'):=by
   refine⟨.slice (some ⟨b,0,none⟩) rows.length cap,(cur.toList.take (r * sz+q)++(ev x).cells.toList++cur.toList.drop (r * sz+q+(ev x).cells.toList.length)).take (rows.length * sz),by simp[rows',hv],rfl,by simpa[rows']using hmax,⟨?_,.inr ⟨b,cap,_,by simp[rows'],Nat.zero_le _,setRow_heap w b cur _ e (0,0) hg,by simpa[rows']using hnc,hcm,?_,by simp[rows']⟩⟩,by simpa[rows']using h3,fun r' hr'=>?_,fun i' j row' x' hrw hx'=>?_⟩
   ·simp[rows',hul];omega
   ·simp[hul];omega
   ·rcases List.mem_or_eq_of_mem_set hr' with h6|h6
    ·exact h4 r' h6
    ·rw[h6];simp only[List.length_append,List.length_take,List.length_drop,hnl,hrl];omega
   ·have hlt:i'<rows.length:=by have:=(List.getElem?_eq_some_iff.1 hrw).1;simpa[rows']using this
    have his:(i'+1) * sz≤rows.length * sz:=Nat.mul_le_mul_right _ hlt;rw[Nat.add_mul,Nat.one_mul]at his;have hget:=splice_get cur.toList (ev x).cells.toList (r * sz+q) (i' * sz+j) (by simpa using hp);rcases qad hrw with⟨rfl,rfl⟩|⟨hne,h6⟩
    ·have hj:j<sz:=by
      have:=(List.getElem?_eq_some_iff.1 hx').1;simp only[List.length_append,List.length_take,List.length_drop,hnl,hrl]at this;omega
     rw[List.getElem?_take,if_pos (by omega),hget];have hg2:=splice_get (rows.getD i' []) (qbi h y.cells) q j (by rw[hnl,hrl];exact hle);rw[hnl]at hg2;rw[hg2]at hx';by_cases hj1:j<q
     ·rw[if_pos hj1]at hx';rw[if_pos (by omega),←hvs _ (by omega)];exact h5 i' j _ x' hrow0 hx'
     ·rw[if_neg hj1]at hx';rw[if_neg (by omega)];by_cases hj2:j<q+y.cells.length
      ·rw[if_pos hj2]at hx';rw[if_pos (by omega)];have hjc:j - q<y.cells.length:=by omega
       have hxm:=List.mem_of_getElem? hx';have e2:i' * sz+j - (i' * sz+q)=j - q:=by omega
       rw[e2];simp only[normL_eq,List.getElem?_map,Option.map_eq_some_iff]at hx';obtain⟨y0,hy0,rfl⟩:=hx';have hlt2:j - q<(ev x).cells.size:=by rw[c1];exact hjc
       refine⟨(ev x).cells[j - q],by simp[hlt2],isData_rel (List.all_eq_true.1 hdat _ hxm) (norm_rel hs (c2 _ y0 _ hy0 (by simp[hlt2])).1)⟩
      ·rw[if_neg hj2]at hx';rw[if_neg (by omega),←hvs _ (by omega)];exact h5 i' j _ x' hrow0 hx'
    ·have hrow':=h4 row' (List.mem_of_getElem? h6);have hj:j<sz:=by rw[←hrow'];exact(List.getElem?_eq_some_iff.1 hx').1
     rw[List.getElem?_take,if_pos (by omega),hget];rcases Nat.lt_or_ge i' r with h7|h7
     ·have:(i'+1) * sz≤r * sz:=Nat.mul_le_mul_right _ h7;rw[Nat.add_mul,Nat.one_mul]at this;rw[if_pos (by omega),←hvs _ (by omega)];exact h5 i' j row' x' h6 hx'
     ·have:(r+1) * sz≤i' * sz:=Nat.mul_le_mul_right _ (by omega);rw[Nat.add_mul,Nat.one_mul]at this;rw[if_neg (by omega),if_neg (by omega),←hvs _ (by omega)];exact h5 i' j row' x' h6 hx'
  refine⟨_,hst,⟨fun g j v hD=>?_,fun j hj=>hs.dom j (by simpa using hj),fun j ob hj=>?_,fun j j' ob o2 b' hj hj' hb1 hb2=>?_,fun j ob b' m v hj hb1 hD=>?_⟩,⟨k.edom,k.ext,k.blk0,by simpa using k.len,k.os,k.tape,k.output,by rw[hsz'];exact k.size,fun g hg' hno=>?_,fun j ob b' hj hb1=>?_,k.dold⟩⟩
  ·have hg':g≠b:=fun e2=>by
    subst e2;exact hs.sep i _ g j v hi hbo hD
   rw[World.cell?_of_block (w:=w) (hoth g hg')];exact hs.data g j v hD
  ·rcases qad hj with⟨rfl,rfl⟩|⟨hne,h6⟩
   ·exact hnew
   ·refine(hs.obj j ob h6).keep (.refl c) (fun _=>rfl) fun b' hb'=>hoth b' fun e2=>hne ?_;subst e2;exact hs.apart j i ob _ b' h6 hi hb' hbo
  ·obtain⟨o3,g1,g1'⟩:=holt j ob b' hj hb1;obtain⟨o4,g2,g2'⟩:=holt j' o2 b' hj' hb2;exact hs.apart j j' o3 o4 b' g1 g2 g1' g2'
  ·rcases qad hj with⟨rfl,rfl⟩|⟨hne,h6⟩
   ·have hb1':qag c j (.uarr e sz rows')=some b':=hb1;rw[hbo']at hb1';have h9:(AObj.uarr e sz rows).shares m:=hs.sep j (.uarr e sz rows) b' m v hi (by rw[hbo,hb1']) hD;exact h9
   ·exact hs.sep j ob b' m v h6 hb1 hD
  ·have hne:g≠b:=fun e2=>by
    subst e2;rcases k.newobj i _ g hi hbo with⟨o0,h6,h7⟩|h6
    ·exact hno i o0 h6 h7
    ·omega
   rw[hoth g hne];exact k.frame g hg' hno
  ·obtain⟨o3,g1,g1'⟩:=holt j ob b' hj hb1;exact k.newobj j o3 b' g1 g1'
theorem ostore_run{c:Ctx}{h:qab}{w:World}(hs:HSim c h w)(k:E.ok c h w){o:Oper}{ev:Operand→Value}{T:TypeId}{ad x:Operand}(hop:o.op=.store T ad x){i n sz r q e:Nat}{rows:List (List AV)}{y:AV}
  (hra:Rel c (.optr i n sz r q) (ev ad)) (hrx:Rel c y (ev x)) (hi:h[i]?=some (.oarr e sz rows)) (hn:rows.length=n) (hr:r<rows.length) (hok:y.cellsOk=true)
  (hsz:y.cells.length=qat P T) (hk:qah P T≠.other) (hle:q+y.cells.length≤sz) :
  ∃w',(execOp ev o).run P w=.ok .skip w'∧HSim c (h.set i (.oarr e sz (rows.set r ((rows.getD r []).take q++y.cells++(rows.getD r []).drop (q+y.cells.length))))) w' ∧
   E.ok c (h.set i (.oarr e sz (rows.set r ((rows.getD r []).take q++y.cells++(rows.getD r []).drop (q+y.cells.length))))) w':=by
 obtain⟨b,o',len,cap,hav,hv⟩:=optr_inv hra;subst hn;obtain⟨v',vs,h1,ho1,hmax,h2,h3,h4,h5⟩:=hs.obj i _ hi;rw[hv]at h1;cases h1;rcases h2.2 with⟨e1,_⟩|⟨g,cp,cur,e1,_,hg,hnc,hcm,hcs,htake⟩
 ·cases e1
 ·cases e1;obtain⟨c1,c2⟩:=hrx.cells hok;obtain⟨iT,d,z,t1,t2,t3,t4,t5,_⟩:=qas (P:=P) (t:=T) rfl hk;have hone:∀v,v∈(ev x).cells.toList→v.oneCell'=true:=fun v hv=>by
   obtain⟨j,hj⟩:=List.getElem?_of_mem hv;have hlt:j<y.cells.length:=by rw[←c1];have:=(List.getElem?_eq_some_iff.1 hj).1;simpa using this
   exact(c2 j _ v (by simp[hlt];rfl) (by simpa using hj)).2
  have hul:(ev x).cells.toList.length=y.cells.length:=by simpa using c1
  have hrs:(r+1) * sz≤rows.length * sz:=Nat.mul_le_mul_right _ hr;rw[Nat.add_mul,Nat.one_mul]at hrs;have hcs':rows.length * sz≤cur.size:=by rw[hcs];exact Nat.mul_le_mul_right _ hnc
  have hp:(r * sz+q)+(ev x).cells.toList.length≤cur.size:=by rw[hul];omega
  have hrun:=run_storeCells_at P b (r * sz+q) e (ev x).cells.toList 0 cur w hg (by omega) hone;simp only[Nat.add_zero]at hrun;have hsize:(ev x).cells.size=iT.size:=by rw[c1,hsz,t5]
  have hst:(execOp ev o).run P w=.ok .skip (w.setRow b (cur.toList.take (r * sz+q)++(ev x).cells.toList++cur.toList.drop (r * sz+q+(ev x).cells.toList.length)).toArray):=by
   simp only[execOp,hop,Instr.storeAt,hav,Nat.zero_add,Instr.sureAddr,storeVar,Sem.run_bind,Sem.run_pure,Result.andThen_ok,qbh t1,hsize,ne_eq,not_true_eq_false,if_false,hrun]
  have hoth:∀g,g≠b→(w.setRow b (cur.toList.take (r * sz+q)++(ev x).cells.toList++cur.toList.drop (r * sz+q+(ev x).cells.toList.length)).toArray).heap[g]?=w.heap[g]?:=fun g hg=>setRow_other w b g _ hg;have hsz':(w.setRow b (cur.toList.take (r * sz+q)++(ev x).cells.toList++cur.toList.drop (r * sz+q+(ev x).cells.toList.length)).toArray).heap.size=w.heap.size:=by simp[World.setRow]
  have hbo:qag c i (.oarr e sz rows)=some b:=by simp[qag,hv,Value.ownBlock]
  let rows':=rows.set r ((rows.getD r []).take q++y.cells++(rows.getD r []).drop (q+y.cells.length))
  have hbo':qag c i (.oarr e sz rows')=some b:=by simp[qag,rows',hv,Value.ownBlock]
  have hrow0:rows[r]?=some (rows.getD r []):=by simp[List.getD,hr]
  have hrl:(rows.getD r []).length=sz:=h4 _ (List.mem_of_getElem? hrow0);have hnl:(y.cells).length=y.cells.length:=rfl;have holt:∀j ob b',(h.set i (.oarr e sz rows'))[j]?=some ob→qag c j ob=some b'→∃o0,h[j]?=some o0∧qag c j o0=some b':=fun j ob b' hj hb'=>by
   rcases qad hj with⟨rfl,rfl⟩|⟨hne,h1⟩
   ·exact⟨_,hi,by rw[hbo,←hbo',hb']⟩
   ·exact⟨ob,h1,hb'⟩
  have hvs:∀kk,kk<rows.length * sz→vs[kk]?=cur.toList[kk]?:=fun kk hkk=>by rw[←htake,List.getElem?_take,if_pos hkk]
  have hnew:ObjR c (w.setRow b (cur.toList.take (r * sz+q)++(ev x).cells.toList++cur.toList.drop (r * sz+q+(ev x).cells.toList.length)).toArray) i (.oarr e sz rows'):=by
   refine⟨.slice (some ⟨b,0,none⟩) rows.length cap,(cur.toList.take (r * sz+q)++(ev x).cells.toList++cur.toList.drop (r * sz+q+(ev x).cells.toList.length)).take (rows.length * sz),by simp[rows',hv],rfl,by simpa[rows']using hmax,⟨?_,.inr ⟨b,cap,_,by simp[rows'],Nat.zero_le _,setRow_heap w b cur _ e (0,0) hg,by simpa[rows']using hnc,hcm,?_,by simp[rows']⟩⟩,by simpa[rows']using h3,fun r' hr'=>?_,fun i' j row' x' hrw hx'=>?_⟩
   ·simp[rows',hul];omega
   ·simp[hul];omega
   ·rcases List.mem_or_eq_of_mem_set hr' with h6|h6
    ·exact h4 r' h6
    ·rw[h6];simp only[List.length_append,List.length_take,List.length_drop,hnl,hrl];omega
   ·have hlt:i'<rows.length:=by have:=(List.getElem?_eq_some_iff.1 hrw).1;simpa[rows']using this
    have his:(i'+1) * sz≤rows.length * sz:=Nat.mul_le_mul_right _ hlt;rw[Nat.add_mul,Nat.one_mul]at his;have hget:=splice_get cur.toList (ev x).cells.toList (r * sz+q) (i' * sz+j) (by simpa using hp);rcases qad hrw with⟨rfl,rfl⟩|⟨hne,h6⟩
    ·have hj:j<sz:=by
      have:=(List.getElem?_eq_some_iff.1 hx').1;simp only[List.length_append,List.length_take,List.length_drop,hnl,hrl]at this;omega
     rw[List.getElem?_take,if_pos (by omega),hget];have hg2:=splice_get (rows.getD i' []) (y.cells) q j (by rw[hnl,hrl];exact hle);rw[hnl]at hg2;rw[hg2]at hx';by_cases hj1:j<q
     ·rw[if_pos hj1]at hx';rw[if_pos (by omega),←hvs _ (by omega)];exact h5 i' j _ x' hrow0 hx'
     ·rw[if_neg hj1]at hx';rw[if_neg (by omega)];by_cases hj2:j<q+y.cells.length
      ·rw[if_pos hj2]at hx';rw[if_pos (by omega)];have hjc:j - q<y.cells.length:=by omega
       have e2:i' * sz+j - (i' * sz+q)=j - q:=by omega
       rw[e2];have hlt2:j - q<(ev x).cells.size:=by rw[c1];exact hjc
       exact⟨(ev x).cells[j - q],by simp[hlt2],c2 _ x' _ hx' (by simp[hlt2])⟩
      ·rw[if_neg hj2]at hx';rw[if_neg (by omega),←hvs _ (by omega)];exact h5 i' j _ x' hrow0 hx'
    ·have hrow':=h4 row' (List.mem_of_getElem? h6);have hj:j<sz:=by rw[←hrow'];exact(List.getElem?_eq_some_iff.1 hx').1
     rw[List.getElem?_take,if_pos (by omega),hget];rcases Nat.lt_or_ge i' r with h7|h7
     ·have:(i'+1) * sz≤r * sz:=Nat.mul_le_mul_right _ h7;rw[Nat.add_mul,Nat.one_mul]at this;rw[if_pos (by omega),←hvs _ (by omega)];exact h5 i' j row' x' h6 hx'
     ·have:(r+1) * sz≤i' * sz:=Nat.mul_le_mul_right _ (by omega);rw[Nat.add_mul,Nat.one_mul]at this;rw[if_neg (by omega),if_neg (by omega),←hvs _ (by omega)];exact h5 i' j row' x' h6 hx'
  refine⟨_,hst,⟨fun g j v hD=>?_,fun j hj=>hs.dom j (by simpa using hj),fun j ob hj=>?_,fun j j' ob o2 b' hj hj' hb1 hb2=>?_,fun j ob b' m v hj hb1 hD=>?_⟩,⟨k.edom,k.ext,k.blk0,by simpa using k.len,k.os,k.tape,k.output,by rw[hsz'];exact k.size,fun g hg' hno=>?_,fun j ob b' hj hb1=>?_,k.dold⟩⟩
  ·have hg':g≠b:=fun e2=>by
    subst e2;exact hs.sep i _ g j v hi hbo hD
   rw[World.cell?_of_block (w:=w) (hoth g hg')];exact hs.data g j v hD
  ·rcases qad hj with⟨rfl,rfl⟩|⟨hne,h6⟩
   ·exact hnew
   ·refine(hs.obj j ob h6).keep (.refl c) (fun _=>rfl) fun b' hb'=>hoth b' fun e2=>hne ?_;subst e2;exact hs.apart j i ob _ b' h6 hi hb' hbo
  ·obtain⟨o3,g1,g1'⟩:=holt j ob b' hj hb1;obtain⟨o4,g2,g2'⟩:=holt j' o2 b' hj' hb2;exact hs.apart j j' o3 o4 b' g1 g2 g1' g2'
  ·rcases qad hj with⟨rfl,rfl⟩|⟨hne,h6⟩
   ·have hb1':qag c j (.oarr e sz rows')=some b':=hb1;rw[hbo']at hb1';have h9:(AObj.oarr e sz rows).shares m:=hs.sep j (.oarr e sz rows) b' m v hi (by rw[hbo,hb1']) hD;exact h9
   ·exact hs.sep j ob b' m v h6 hb1 hD
  ·have hne:g≠b:=fun e2=>by
    subst e2;rcases k.newobj i _ g hi hbo with⟨o0,h6,h7⟩|h6
    ·exact hno i o0 h6 h7
    ·omega
   rw[hoth g hne];exact k.frame g hg' hno
  ·obtain⟨o3,g1,g1'⟩:=holt j ob b' hj hb1;exact k.newobj j o3 b' g1 g1'
end
end Go.Abs
