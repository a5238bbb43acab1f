/- Part 29 of a proof: CwPi -/
import Derived.Test.YtilhejdbiionhaaGreatDoorV27
set_option linter.all false

namespace Go.Cw
open Go Go.Abs
def rdOp (op:Int):Bool:=decide (op=22)||decide (op=23)||decide (op=24)
theorem rdOp_iff (op:Int):rdOp op=true↔op=22∨op=23∨op=24:=by simp [rdOp,or_assoc]
mutual
def tntE (c:List qac):Ex→Bool
 | .mk op _ s args=>rdOp op||(decide (op=3)&&!hasK c s)||tntEL c args
def tntEL (c:List qac):List Ex→Bool
 | []=>false
 | e::l=>tntE c e||tntEL c l
end
theorem tntE_eq (c:List qac) (e:Ex):tntE c e=(rdOp e.op||(decide (e.op=3)&&!hasK c e.s)||tntEL c e.args):=by cases e;rw [tntE];rfl
theorem tntEL_any (c:List qac) (l:List Ex):tntEL c l=anyL (tntE c) l:=by
 induction l with
 | nil=>rfl
 | cons e l ih=>rw [tntEL,anyL,ih]
mutual
def opnE (c:List qac):Ex→Bool
 | .mk op _ _ args=>(rdOp op&&tntEL c args)||opnEL c args
def opnEL (c:List qac):List Ex→Bool
 | []=>false
 | e::l=>opnE c e||opnEL c l
end
theorem opnE_eq (c:List qac) (e:Ex):opnE c e=((rdOp e.op&&tntEL c e.args)||opnEL c e.args):=by cases e;rw [opnE];rfl
theorem opnEL_any (c:List qac) (l:List Ex):opnEL c l=anyL (opnE c) l:=by
 induction l with
 | nil=>rfl
 | cons e l ih=>rw [opnEL,anyL,ih]
def delS:List qac→qac→List qac
 | [],_=>[]
 | x::l,s=>if x=s then l else x::delS l s
theorem kDel_tru (s:qac):∀ (l:List qac),kDel (tru l) s=tru (delS l s)
 | []=>rfl
 | x::l=>by
  simp only [tru,List.map_cons,kDel,delS];split
  · rfl
  · exact congrArg ((x,true)::·) (kDel_tru s l)
theorem delS_sub (s:qac):∀ (l:List qac),(delS l s).Sublist l
 | []=>.refl _
 | x::l=>by
  rw [delS];split
  · exact List.sublist_cons_self _ _
  · exact (delS_sub s l).cons₂ _
theorem delS_same {s:qac}:∀ {l:List qac},delS l s=l→s∉l
 | [],_=>by simp
 | x::l,h=>by
  rw [delS] at h;split at h
  ·
   have:=congrArg List.length h;simp at this
  ·
   rename_i hx;simp only [List.cons.injEq,true_and] at h;simp only [List.mem_cons,not_or];exact ⟨fun e=>hx e.symm,delS_same h⟩
def dirtyT (c:List qac) (t:St):Bool:=tntE c t.a||(decide (t.op=6)&&tntE c t.b)
def brOp (op:Int):Bool:=decide (op=5)||decide (op=6)
mutual
def tntS:St→Bool→List qac→List qac
 | .mk op name mx a b body els,u,c =>
  tntL els (u||(brOp op&&dirtyT c (.mk op name mx a b body els))) (tntL body (u||(brOp op&&dirtyT c (.mk op name mx a b body els))) (if name≠em∧(u=true∨dirtyT c (.mk op name mx a b body els)=true) then delS c name else c))
def tntL:List St→Bool→List qac→List qac
 | [],_,c=>c
 | t::l,u,c=>tntL l u (tntS t u c)
end
theorem tntS_eq (t:St) (u:Bool) (c:List qac):tntS t u c=tntL t.els (u||(brOp t.op&&dirtyT c t)) (tntL t.body (u||(brOp t.op&&dirtyT c t)) (if t.name≠em∧(u=true∨dirtyT c t=true) then delS c t.name else c)):=by cases t;rw [tntS];rfl
mutual
theorem tntS_sub:∀ (t:St) (u:Bool) (c:List qac),(tntS t u c).Sublist c
 | .mk op name mx a b body els,u,c=>by
  rw [tntS];refine (tntL_sub els _ _).trans ((tntL_sub body _ _).trans ?_);split
  · exact delS_sub _ _
  · exact .refl _
theorem tntL_sub:∀ (l:List St) (u:Bool) (c:List qac),(tntL l u c).Sublist c
 | [],u,c=>by rw [tntL];exact .refl _
 | t::l,u,c=>by rw [tntL];exact (tntL_sub l _ _).trans (tntS_sub t u c)
end
theorem sub_eq {a b c:List qac} (h1:a.Sublist b) (h2:b.Sublist c) (h:a=c):b=c:=by
 subst h;exact h2.eq_of_length_le h1.length_le
theorem tntL_cons {t:St} {l:List St} {u:Bool} {c:List qac} (h:tntL (t::l) u c=c):tntS t u c=c∧tntL l u c=c:=by
 rw [tntL] at h;have h1:=sub_eq (tntL_sub l u (tntS t u c)) (tntS_sub t u c) h;exact ⟨h1,by rwa [h1] at h⟩
theorem tntS_same {t:St} {u:Bool} {c:List qac} (h:tntS t u c=c):(t.name≠em→(u=true∨dirtyT c t=true)→t.name∉c)∧tntL t.body (u||(brOp t.op&&dirtyT c t)) c=c∧tntL t.els (u||(brOp t.op&&dirtyT c t)) c=c:=by
 rw [tntS_eq] at h;have s1:(if t.name≠em∧(u=true∨dirtyT c t=true) then delS c t.name else c).Sublist c:=by
  split
  · exact delS_sub _ _
  · exact .refl _
 have h2:=sub_eq (tntL_sub t.els _ _) ((tntL_sub t.body _ _).trans s1) h;have h1:=sub_eq (tntL_sub t.body _ _) s1 h2;rw [h1] at h2 h;rw [h2] at h;refine ⟨fun hn hu=>?_,h2,h⟩;rw [if_pos ⟨hn,hu⟩] at h1;exact delS_same h1
def fixC (l:List St):Nat→List qac→List qac
 | 0,c=>c
 | n+1,c=>if (tntL l false c).length=c.length then tntL l false c else fixC l n (tntL l false c)
theorem fix_ok (l:List St):∀ (n:Nat) (c:List qac),c.length<n→tntL l false (fixC l n c)=fixC l n c
 | 0,c,h=>by omega
 | n+1,c,h=>by
  have hs:=tntL_sub l false c;rw [fixC];split
  ·
   rename_i he;have:=hs.eq_of_length he;rw [this,this]
  ·
   rename_i he;exact fix_ok l n _ (by have:=hs.length_le;omega)
mutual
def keyT (c:List qac):St→Bool
 | .mk op _ _ a b body els=>((decide (op=3)||decide (op=4))&&tntE c a)||opnE c a||opnE c b||keyTL c body||keyTL c els
def keyTL (c:List qac):List St→Bool
 | []=>false
 | t::l=>keyT c t||keyTL c l
end
theorem keyT_eq (c:List qac) (t:St):keyT c t=(((decide (t.op=3)||decide (t.op=4))&&tntE c t.a)||opnE c t.a||opnE c t.b||keyTL c t.body||keyTL c t.els):=by cases t;rw [keyT];rfl
theorem keyTL_any (c:List qac) (l:List St):keyTL c l=anyL (keyT c) l:=by
 induction l with
 | nil=>rfl
 | cons e l ih=>rw [keyTL,anyL,ih]
mutual
def brT (c:List qac):St→Bool
 | .mk op _ _ a b body els=>(decide (op=5)&&tntE c a)||(decide (op=6)&&(tntE c a||tntE c b))||brTL c body||brTL c els
def brTL (c:List qac):List St→Bool
 | []=>false
 | t::l=>brT c t||brTL c l
end
theorem brT_eq (c:List qac) (t:St):brT c t=((decide (t.op=5)&&tntE c t.a)||(decide (t.op=6)&&(tntE c t.a||tntE c t.b))||brTL c t.body||brTL c t.els):=by cases t;rw [brT];rfl
theorem brTL_any (c:List qac) (l:List St):brTL c l=anyL (brT c) l:=by
 induction l with
 | nil=>rfl
 | cons e l ih=>rw [brTL,anyL,ih]
def clean0 (p:Proc):List qac:=(qcf p).foldl addS []
def cleanP (p:Proc):List qac:=fixC p.body ((clean0 p).length+1) (clean0 p)
def indepS (p:Proc):Bool:=decide (qb3 p=0)&&!keyTL (cleanP p) p.body
def ctrlS (p:Proc):Bool:=decide (qb3 p=0)&&brTL (cleanP p) p.body
theorem cleanP_same (p:Proc):tntL p.body false (cleanP p)=cleanP p:=fix_ok _ _ _ (by omega)
theorem kDel_keys {α:Type} {k:qac}:∀ {l:List (qac×α)},(qba l).Nodup→∀ x∈qba (kDel l k),x∈qba l∧x≠k
 | [],_,x,h=>by simp [kDel,qba] at h
 | p::l,hn,x,h=>by
  simp only [qba,List.map_cons,List.nodup_cons] at hn;rw [kDel] at h;split at h
  ·
   rename_i hp;refine ⟨List.mem_cons_of_mem _ h,?_⟩;rintro rfl;exact hn.1 (hp▸h)
  ·
   rename_i hp;simp only [qba,List.map_cons,List.mem_cons] at h ⊢;rcases h with rfl | h
   · exact ⟨.inl rfl,hp⟩
   ·
    have:=kDel_keys hn.2 x h;exact ⟨.inr this.1,this.2⟩
theorem kDel_nod {α:Type} {l:List (qac×α)} (h:(qba l).Nodup) (k:qac):(qba (kDel l k)).Nodup:=h.sublist ((kDel_sub _ _).map _)
theorem delLets_keys:∀ (l:List St) (vis:Vis),(qba vis).Nodup→(qba (qdc l vis)).Nodup∧∀ x∈qba (qdc l vis),x∈qba vis∧∀ t∈l,t.op=1→x≠t.name
 | [],vis,h=>by
  rw [qdc];exact ⟨h,fun x hx=>⟨hx,by simp⟩⟩
 | t::l,vis,h=>by
  rw [qdc];by_cases h1:t.op=1
  ·
   rw [if_pos h1];have ih:=delLets_keys l (kDel vis t.name) (kDel_nod h _);refine ⟨ih.1,fun x hx=>?_⟩;have g:=kDel_keys h x (ih.2 x hx).1;refine ⟨g.1,fun s hs h2=>?_⟩;rcases List.mem_cons.1 hs with rfl | hs
   · exact g.2
   · exact (ih.2 x hx).2 s hs h2
  ·
   rw [if_neg h1];have ih:=delLets_keys l vis h;refine ⟨ih.1,fun x hx=>⟨(ih.2 x hx).1,fun s hs h2=>?_⟩⟩;rcases List.mem_cons.1 hs with rfl | hs
   · exact (h1 h2).elim
   · exact (ih.2 x hx).2 s hs h2
structure VK (ts ts':TS) (P:qac→Prop):Prop where
 nod:(qba ts'.visible).Nodup
 sub:∀ x∈qba ts'.visible,x∈qba ts.visible∨P x
theorem vk_blk {l:List St} {ts:TS} {f:TS→Int×TS} (hf:(f ts).1=0→VK ts (f ts).2 fun x=>∃ t∈l,t.op=1∧x=t.name) (h0:(qcg l f ts).1=0):VK ts (qcg l f ts).2 fun _=>False:=by
 unfold qcg at h0 ⊢;split at h0
 · rename_i h;exact (h h0).elim
 rename_i h;rw [if_neg h];have g:=hf (by simpa using h);have d:=delLets_keys l (f ts).2.visible g.nod;refine ⟨d.1,fun x hx=>.inl ?_⟩;rcases g.sub x (d.2 x hx).1 with h1 | ⟨t,h1,h2,h3⟩
 · exact h1
 · exact ((d.2 x hx).2 t h1 h2 h3).elim
theorem stT_ops {t:St} {ts:TS} (h:(stT t ts).1=0):(qc8 ts.visible t).2.2=0:=by
 rw [stT_eq] at h;unfold stStep at h;by_cases he:(qc8 ts.visible t).2.2≠0
 · rw [if_pos he] at h;exact (he h).elim
 · simpa using he
theorem stT_5 {t:St} {ts:TS} (h5:t.op=5) (h:(stT t ts).1=0):(qcg t.body (qdb t.body) ts).1=0∧stT t ts=qcg t.els (qdb t.els) (qcg t.body (qdb t.body) ts).2:=by
 have ho:=stT_ops h;rw [stT_eq] at h ⊢;unfold stStep at h ⊢;rw [if_neg (by rw [ho];simp),if_neg (by omega),if_neg (by omega),if_neg (by omega),if_neg (by omega),if_neg (by omega),if_pos h5] at h ⊢;by_cases h6:(qc8 ts.visible t).1≠3
 · rw [if_pos h6] at h;simp at h
 rw [if_neg h6] at h ⊢;by_cases h9:(qcg t.body (qdb t.body) ts).1≠0
 · rw [if_pos h9] at h;exact (h9 h).elim
 rw [if_neg h9] at h ⊢;exact ⟨by simpa using h9,rfl⟩
abbrev inLoop (t:St) (ts:TS):TS:=⟨qbz ts.visible t.name 1,qbz ts.loops t.name true,qbz ts.all t.name 1⟩
theorem stT_6 {t:St} {ts:TS} (h6:t.op=6) (h:(stT t ts).1=0):(qcg t.body (qdb t.body) (inLoop t ts)).1=0∧(stT t ts).2.visible=kDel (qcg t.body (qdb t.body) (inLoop t ts)).2.visible t.name:=by
 have ho:=stT_ops h;rw [stT_eq] at h ⊢;unfold stStep at h ⊢;rw [if_neg (by rw [ho];simp),if_neg (by omega),if_neg (by omega),if_neg (by omega),if_neg (by omega),if_neg (by omega),if_neg (by omega),if_pos h6] at h ⊢;by_cases h9:(qc8 ts.visible t).1≠1∨(qc8 ts.visible t).2.1≠1
 · rw [if_pos h9] at h;simp at h
 rw [if_neg h9] at h ⊢;exact ⟨h,rfl⟩
theorem blkOf_seq {l:List St} {u:TS} (h:(qcg l (qdb l) u).1=0):(qdb l u).1=0:=by
 unfold qcg at h;split at h
 · rename_i h1;exact (h1 h).elim
 · rename_i h1;simpa using h1
theorem vk_step (t:St) (ts:TS) (h:(qba ts.visible).Nodup) (h0:(stT t ts).1=0)
  (hB:∀ ts:TS,(qba ts.visible).Nodup→(qdb t.body ts).1=0→VK ts (qdb t.body ts).2 fun x=>∃ s∈t.body,s.op=1∧x=s.name)
  (hE:∀ ts:TS,(qba ts.visible).Nodup→(qdb t.els ts).1=0→VK ts (qdb t.els ts).2 fun x=>∃ s∈t.els,s.op=1∧x=s.name):VK ts (stT t ts).2 fun x=>t.op=1∧x=t.name:=by
 have hr:VK ts ts fun x=>t.op=1∧x=t.name:=⟨h,fun x hx=>.inl hx⟩
 by_cases h5:t.op=5
 ·
  obtain ⟨h8,h9⟩:=stT_5 h5 h0;rw [h9] at h0 ⊢;have g1:=vk_blk (l:=t.body) (f:=qdb t.body) (fun g=>hB ts h g) h8;have g2:=vk_blk (l:=t.els) (f:=qdb t.els) (fun g=>hE _ g1.nod g) h0;exact ⟨g2.nod,fun x hx=>.inl ((g1.sub x ((g2.sub x hx).resolve_right id)).resolve_right id)⟩
 by_cases h6:t.op=6
 ·
  obtain ⟨h8,h9⟩:=stT_6 h6 h0;have hn:=nodV_set ts.visible t.name 1 h;have g1:=vk_blk (ts:=inLoop t ts) (l:=t.body) (f:=qdb t.body) (fun g=>hB _ hn g) h8;refine ⟨by rw [h9];exact kDel_nod g1.nod _,fun x hx=>.inl ?_⟩;rw [h9] at hx;have g3:=kDel_keys g1.nod x hx;rcases (qbx _ _ _ _).1 ((g1.sub x g3.1).resolve_right id) with e | h
  · exact (g3.2 e).elim
  · exact h
 have ho:=stT_ops h0;rw [stT_eq] at h0 ⊢;unfold stStep at h0 ⊢;rw [if_neg (by rw [ho];simp)] at h0 ⊢;by_cases h1:t.op=1
 ·
  rw [if_pos h1];refine ⟨nodV_set _ _ _ h,fun x hx=>?_⟩;rcases (qbx _ _ _ _).1 hx with e | hx
  · exact .inr ⟨h1,e⟩
  · exact .inl hx
 rw [if_neg h1] at h0 ⊢;by_cases h2:t.op=2
 ·
  rw [if_pos h2];rcases qbm ts.visible t.name with _ | ty
  · exact hr
  · exact hr
 rw [if_neg h2] at h0 ⊢;by_cases h3:t.op=3
 · rw [if_pos h3];exact hr
 rw [if_neg h3] at h0 ⊢;by_cases h4:t.op=4
 · rw [if_pos h4];exact hr
 rw [if_neg h4] at h0 ⊢;by_cases h7:t.op=7
 · rw [if_pos h7];exact hr
 rw [if_neg h7,if_neg h5,if_neg h6];exact hr
mutual
theorem vk_st:∀ (t:St) (ts:TS),(qba ts.visible).Nodup→(stT t ts).1=0→VK ts (stT t ts).2 fun x=>t.op=1∧x=t.name
 | .mk op name mx a b body els,ts,h,h0=>vk_step (.mk op name mx a b body els) ts h h0 (fun ts h g=>vk_seq body ts h g) (fun ts h g=>vk_seq els ts h g)
theorem vk_seq:∀ (l:List St) (ts:TS),(qba ts.visible).Nodup→(qdb l ts).1=0→VK ts (qdb l ts).2 fun x=>∃ t∈l,t.op=1∧x=t.name
 | [],ts,h,_=>by rw [qdb];exact ⟨h,fun x hx=>.inl hx⟩
 | t::l,ts,h,h0=>by
  rw [qdb] at h0 ⊢;by_cases h1:(stT t ts).1≠0
  · rw [if_pos h1] at h0;exact (h1 h0).elim
  rw [if_neg h1] at h0 ⊢;have g1:=vk_st t ts h (by simpa using h1);have g2:=vk_seq l _ g1.nod h0;refine ⟨g2.nod,fun x hx=>?_⟩;rcases g2.sub x hx with h2 | ⟨s,h2,h3⟩
  ·
   rcases g1.sub x h2 with h4 | h4
   · exact .inl h4
   · exact .inr ⟨t,by simp,h4⟩
  · exact .inr ⟨s,by simp [h2],h3⟩
end
theorem exL_len {fmt:Int→qac}:∀ {l:List Ex} {f:MV} {x x':XS} {r:List AX},exL fmt l f x=(some r,x')→r.length=l.length
 | [],f,x,x',r,h=>by rw [exL] at h;cases h;rfl
 | e::l,f,x,x',r,h=>by
  rw [exL] at h;split at h
  · cases h
  ·
   split at h
   · cases h
   ·
    rename_i hL;cases h;simp [exL_len hL]
def Kn (f:MV) (s:qac):Prop:=∃ v,f s=some (kn v)
def KnO (C:List qac) (f:MV) (ts:TS):Prop:=∀ s∈qba ts.visible,s∈C→Kn f s
def KnUp (C:List qac) (f g:MV):Prop:=∀ s∈C,Kn f s→Kn g s
theorem KnUp.refl (C:List qac) (f:MV):KnUp C f f:=fun _ _ h=>h
theorem KnUp.trans {C:List qac} {f g h:MV} (a:KnUp C f g) (b:KnUp C g h):KnUp C f h:=fun s hs k=>b s hs (a s hs k)
theorem kn_of {a:AX} (h:a.known=true):a=kn a.v:=by cases a;simp only at h;subst h;rfl
theorem KnUp.set {C:List qac} {f:MV} {s:qac} {a:AX} (h:s∈C→a.known=true):KnUp C f (updF f s a):=fun k hk hx=>by
 unfold Kn updF;split
 ·
  rename_i e;subst e;exact ⟨a.v,by rw [← kn_of (h hk)]⟩
 · exact hx
theorem ofL_mem {vis:Vis}:∀ {l:List Ex},(ofL vis l).1=0→∀ e∈l,(ofE vis e).2=0
 | [],_,e,h=>by simp at h
 | x::l,h,e,he=>by
  rw [ofL] at h;split at h
  · rename_i h1;exact (h1 h).elim
  ·
   rename_i h1;rcases List.mem_cons.1 he with rfl | he
   · simpa using h1
   · exact ofL_mem h e he
theorem of_var {vis:Vis} {e:Ex} (h3:e.op=3) (h:(ofE vis e).2=0):e.s∈qba vis:=by
 rw [ofE_eq,if_pos h3] at h;rcases hg:qbm vis e.s with _ | ty
 · rw [hg] at h;simp [varT] at h
 · exact List.mem_map.2 ⟨_,kGet_mem hg,rfl⟩
theorem of_args {vis:Vis} {e:Ex} (h3:e.op≠3) (h:(ofE vis e).2=0):(ofL vis e.args).1=0:=by
 rw [ofE_eq,if_neg h3] at h;by_cases hl:(ofL vis e.args).1≠0
 · rw [if_pos hl] at h;exact (hl h).elim
 · simpa using hl
section
variable {fmt:Int→qac} {C:List qac}
theorem key_f {a:AX} (h:a.known=true) (wr:Bool) (x:XS):(keyX wr a x).2.f=x.f:=by
 unfold keyX;rw [if_neg (by simp [h])];split
 · rfl
 · cases wr<;>rfl
mutual
theorem ind_ev:∀ (e:Ex) (ts:TS) (f:MV) (x:XS),(ofE ts.visible e).2=0→KnO C f ts→(∃ d,chkE e d=0) →
  (tntE C e=false→(exE fmt e f x).1.2=true→(exE fmt e f x).1.1.known=true)∧(opnE C e=false→(exE fmt e f x).2.f=x.f)
 | .mk op n s args,ts,f,x,hT,hK,hc=>by
  obtain ⟨d,hc⟩:=hc;have har:=(chkE_ar hc).1;have hc':=(chkE_ar hc).2;simp only [Ex.op,Ex.args] at har hc';rw [exE,tntE,opnE];by_cases h1:op=1
  · simp only [h1,if_true];exact ⟨by simp [kn],by simp⟩
  by_cases h2:op=2
  · simp only [h2,show ¬ ((2:Int)=1) by decide,if_true,if_false];exact ⟨by simp [kn],by simp⟩
  by_cases h3:op=3
  ·
   have hv:s∈qba ts.visible:=of_var (e:=.mk op n s args) h3 hT;simp only [h3,show ¬ ((3:Int)=1) by decide,show ¬ ((3:Int)=2) by decide,if_true,if_false];refine ⟨fun ht _=>?_,fun _=>trivial⟩;have hs:s∈C:=by
    simp only [Bool.or_eq_false_iff,Bool.and_eq_false_iff,decide_true,Bool.true_eq_false,Bool.not_eq_false',false_or] at ht;exact hasK_iff.1 ht.1.2
   obtain ⟨v,hv⟩:=hK s hv hs;rw [hv];rfl
  have hL:(ofL ts.visible args).1=0:=of_args (e:=.mk op n s args) h3 hT;simp only [h1,h2,h3,if_false];obtain ⟨g1,g2⟩:=ind_evL args ts f x (ofL_mem hL) hK fun e he=>⟨_,hc' e he⟩
  rcases hx:exL fmt args f x with ⟨_ | l,x'⟩
  ·
   rw [hx] at g2;refine ⟨fun _ h=>(by cases h),fun ho=>?_⟩;simp only [Bool.or_eq_false_iff] at ho;exact g2 ho.2
  ·
   rw [hx] at g1 g2;simp only at g1 g2 ⊢;by_cases h22:op=22∨op=23∨op=24
   ·
    rw [if_pos h22];have hr:=(rdOp_iff op).2 h22;refine ⟨fun ht=>by rw [hr] at ht;simp at ht,fun ho=>?_⟩;simp only [hr,Bool.true_and,Bool.or_eq_false_iff] at ho;have hall:=g1 ho.1 l rfl;have har1:=arity_get h22;rcases l with _ | ⟨a,l⟩
    ·
     have hlen:=exL_len hx;simp at hlen;omega
    ·
     simp only [List.headD_cons];rw [key_f (hall a (by simp)),g2 ho.2]
   ·
    rw [if_neg h22];have hr:rdOp op=false:=by
     cases h:rdOp op with
     | false=>rfl
     | true=>exact (h22 ((rdOp_iff op).1 h)).elim
    by_cases hall:l.all (·.known)=false
    ·
     rw [if_pos hall];refine ⟨fun ht _=>?_,fun ho=>?_⟩
     ·
      simp only [hr,h3,decide_false,Bool.false_and,Bool.false_or] at ht;have:=g1 ht l rfl;rw [List.all_eq_true.2 this] at hall;cases hall
     ·
      simp only [Bool.or_eq_false_iff] at ho;exact g2 ho.2
    ·
     rw [if_neg hall];refine ⟨fun _ _=>by unfold apS;rfl,fun ho=>?_⟩;simp only [Bool.or_eq_false_iff] at ho;exact g2 ho.2
theorem ind_evL:∀ (l:List Ex) (ts:TS) (f:MV) (x:XS),(∀ e∈l,(ofE ts.visible e).2=0)→KnO C f ts→(∀ e∈l,∃ d,chkE e d=0) →
  (tntEL C l=false→∀ r,(exL fmt l f x).1=some r→∀ a∈r,a.known=true)∧(opnEL C l=false→(exL fmt l f x).2.f=x.f)
 | [],ts,f,x,_,_,_=>by
  rw [exL];exact ⟨fun _ r hr a ha=>(by cases hr;cases ha),fun _=>rfl⟩
 | e::l,ts,f,x,hT,hK,hc=>by
  rw [exL,tntEL,opnEL];obtain ⟨g1,g2⟩:=ind_ev e ts f x (hT e (by simp)) hK (hc e (by simp));rcases hx:exE fmt e f x with ⟨⟨a,_ | _⟩,x'⟩
  ·
   rw [hx] at g2;refine ⟨fun _ r hr=>(by cases hr),fun ho=>?_⟩;simp only [Bool.or_eq_false_iff] at ho;exact g2 ho.1
  ·
   rw [hx] at g1 g2;simp only at g1 g2 ⊢;obtain ⟨g3,g4⟩:=ind_evL l ts f x' (fun e he=>hT e (by simp [he])) hK fun e he=>hc e (by simp [he]);rcases hy:exL fmt l f x' with ⟨_ | r,x''⟩
   ·
    rw [hy] at g4;refine ⟨fun _ r hr=>(by cases hr),fun ho=>?_⟩;simp only [Bool.or_eq_false_iff] at ho;exact (g4 ho.2).trans (g2 ho.1)
   ·
    rw [hy] at g3 g4;simp only at g3 g4 ⊢;refine ⟨fun ht r' hr b hb=>?_,fun ho=>?_⟩
    ·
     simp only [Bool.or_eq_false_iff] at ht;cases hr;rcases List.mem_cons.1 hb with rfl | hb
     · exact g1 ht.1 trivial
     · exact g3 ht.2 r rfl b hb
    ·
     simp only [Bool.or_eq_false_iff] at ho;exact (g4 ho.2).trans (g2 ho.1)
end
theorem ind_cnt {ts:TS} {bX:MV→XS→Option MV×XS} {name:qac} (hb:∀ f x,KnO C f ts→Kn f name→(bX f x).2.f=x.f∧∀ f',(bX f x).1=some f'→KnUp C f f') :
  ∀ (n:Nat) (i:Int) (f:MV) (x:XS),KnO C f ts→(cntX bX name n i f x).2.f=x.f∧∀ f',(cntX bX name n i f x).1=some f'→KnUp C f f'
 | 0,i,f,x,_=>by
  rw [cntX];exact ⟨rfl,fun f' h=>(by cases h;exact KnUp.refl _ _)⟩
 | n+1,i,f,x,hK=>by
  rw [cntX];have hu:KnUp C f (updF f name (kn (vI i))):=KnUp.set fun _=>rfl;obtain ⟨g1,g2⟩:=hb (updF f name (kn (vI i))) x (fun s hs hC=>hu s hC (hK s hs hC)) ⟨vI i,by simp [updF]⟩;rcases hx:bX (updF f name (kn (vI i))) x with ⟨_ | f1,x'⟩
  ·
   rw [hx] at g1;exact ⟨g1,fun f' h=>(by cases h)⟩
  ·
   rw [hx] at g1 g2;simp only at g1 g2 ⊢;have hu2:=hu.trans (g2 f1 rfl);obtain ⟨g3,g4⟩:=ind_cnt hb n (i+1) f1 x' (fun s hs hC=>hu2 s hC (hK s hs hC));exact ⟨g3.trans g1,fun f' h=>hu2.trans (g4 f' h)⟩
theorem ops_a {vis:Vis} {t:St} (h:(qc8 vis t).2.2=0) (h8:t.op≠8):(ofE vis t.a).2=0:=by
 unfold qc8 at h;rw [if_neg h8] at h;split at h
 · rename_i h1;exact h1.1
 · exact h
theorem ops_b {vis:Vis} {t:St} (h:(qc8 vis t).2.2=0) (h3:t.op=3∨t.op=6):(ofE vis t.b).2=0:=by
 have ha:=ops_a h (by omega);unfold qc8 at h;rw [if_neg (by omega),if_pos ⟨ha,h3⟩] at h;exact h
theorem okS_name {t:St} {d:Nat} (h:okS t d) (h1:t.op=1∨t.op=2∨t.op=6):t.name≠em:=by
 have h2:=((qcm t d).1 h).1;have hu:(qa4 t.op).1.name=true:=by
  unfold qa4;rcases h1 with h1 | h1 | h1<;>simp [h1]
 unfold qbi at h2;simp only at h2;split at h2
 · cases h2
 split at h2
 · cases h2
 rename_i hn;intro e;refine hn ⟨hu,?_⟩;rw [e];decide
mutual
theorem ind_st:∀ (t:St) (d:Nat) (ts:TS) (f:MV) (x:XS),okS t d→(qba ts.visible).Nodup→(stT t ts).1=0→tntS t false C=C→keyT C t=false→brT C t=false→KnO C f ts →
  (exSt fmt t f x).2.f=x.f∧∀ f',(exSt fmt t f x).1=some f'→KnUp C f f'∧KnO C f' (stT t ts).2
 | .mk op name mx a b body els,d,ts,f,x,hO,hN,hT,hS,hk,hbr,hK=>by
  have hO':=(qcm _ _).1 hO;have oA:=fun k=>okS_a hO k;have oB:=fun k=>okS_b hO k;have hop:=okS_op hO;have hnm:=fun k=>okS_name hO k;have hvk:=vk_st (.mk op name mx a b body els) ts hN hT;obtain ⟨s1,s2,s3⟩:=tntS_same hS;rw [keyT] at hk;rw [brT] at hbr;simp only [St.op,St.a,St.b,St.body,St.els,St.name] at hO' oA oB hop hnm s1 s2 s3 hvk;obtain ⟨_,obody,oels⟩:=hO';have hK':∀ {f':MV},op≠1→KnUp C f f'→KnO C f' (stT (.mk op name mx a b body els) ts).2:=fun h1 hu s hs hC=>hu s hC (hK s ((hvk.sub s hs).resolve_right fun h=>h1 h.1) hC);simp only [Bool.or_eq_false_iff] at hk hbr;obtain ⟨⟨⟨⟨k1,k2⟩,k3⟩,k4⟩,k5⟩:=hk;obtain ⟨⟨⟨b1,b2⟩,b3⟩,b4⟩:=hbr;rw [exSt];by_cases h8:op=8
  ·
   rw [if_pos h8];exact ⟨rfl,fun f' h=>(by cases h)⟩
  rw [if_neg h8];have hT0:=stT_ops hT;have hTa:=ops_a hT0 h8;obtain ⟨e1,e2⟩:=ind_ev (fmt:=fmt) (C:=C) a ts f x hTa hK ⟨1,oA h8⟩;have e2:=e2 k2;rcases hx:exE fmt a f x with ⟨⟨va,_ | _⟩,x1⟩
  ·
   rw [hx] at e2;exact ⟨e2,fun f' h=>(by cases h)⟩
  rw [hx] at e1 e2;simp only at e1 e2 ⊢;have e1:=fun h=>e1 h trivial;by_cases h12:op=1∨op=2
  ·
   rw [if_pos h12];have hcl:name∈C→va.known=true:=fun hm=>e1 (by
    cases ht:tntE C a with
    | false=>rfl
    | true=>exact (s1 (hnm (by omega)) (.inr (by simp [dirtyT,St.a,ht])) hm).elim)
   refine ⟨e2,fun f' h=>?_⟩;cases h;have hu:=KnUp.set (f:=f) hcl;refine ⟨hu,fun s hs hC=>?_⟩;rcases hvk.sub s hs with h | ⟨_,rfl⟩
   · exact hu s hC (hK s h hC)
   · exact ⟨va.v,by simp [updF];exact kn_of (hcl hC)⟩
  rw [if_neg h12];have h1:op≠1:=fun e=>h12 (.inl e);by_cases h7:op=7
  ·
   rw [if_pos h7];exact ⟨e2,fun f' h=>(by cases h;exact ⟨KnUp.refl _ _,hK' h1 (KnUp.refl _ _)⟩)⟩
  rw [if_neg h7];have hkey:op=3∨op=4→va.known=true:=fun h=>e1 (by
   simp only [Bool.and_eq_false_iff,Bool.or_eq_false_iff,decide_eq_false_iff_not] at k1;rcases k1 with k1 | k1
   · omega
   · exact k1)
  by_cases h4:op=4
  ·
   rw [if_pos h4];refine ⟨(key_f (hkey (.inr h4)) _ _).trans e2,fun f' h=>?_⟩;simp only at h;split at h
   · cases h;exact ⟨KnUp.refl _ _,hK' h1 (KnUp.refl _ _)⟩
   · cases h
  rw [if_neg h4];by_cases h5:op=5
  ·
   rw [if_pos h5];subst h5;have hta:tntE C a=false:=by simpa using b1
   have hva:=e1 hta;have hd:dirtyT C (.mk 5 name mx a b body els)=false:=by simp [dirtyT,St.a,St.op,hta]
   rw [hd] at s2 s3;simp only [Bool.and_false,Bool.or_false] at s2 s3;obtain ⟨h9,h10⟩:=stT_5 (t:=.mk 5 name mx a b body els) rfl hT;rw [h10] at hT;simp only [St.body,St.els] at h9 hT;have g1:=vk_blk (l:=body) (f:=qdb body) (fun g=>vk_seq body ts hN g) h9;by_cases hc1:va.known=true∧va.v.n=1
   ·
    rw [if_pos hc1];obtain ⟨g3,g4⟩:=ind_bl body (d+1) ts f x1 obody hN (blkOf_seq h9) s2 k4 b3 hK;exact ⟨g3.trans e2,fun f' h=>⟨(g4 f' h).1,hK' h1 (g4 f' h).1⟩⟩
   ·
    rw [if_neg hc1,if_pos hva];obtain ⟨g3,g4⟩:=ind_bl els (d+1) (qcg body (qdb body) ts).2 f x1 oels g1.nod (blkOf_seq hT) s3 k5 b4 (fun s hs hC=>hK s ((g1.sub s hs).resolve_right id) hC);exact ⟨g3.trans e2,fun f' h=>⟨(g4 f' h).1,hK' h1 (g4 f' h).1⟩⟩
  rw [if_neg h5];have h36:op=3∨op=6:=by omega
  have hTb:=ops_b hT0 h36;obtain ⟨f1,f2⟩:=ind_ev (fmt:=fmt) (C:=C) b ts f x1 hTb hK ⟨1,oB h36⟩;have f2:=f2 k3;rcases hy:exE fmt b f x1 with ⟨⟨vb,_ | _⟩,x2⟩
  ·
   rw [hy] at f2;exact ⟨f2.trans e2,fun f' h=>(by cases h)⟩
  rw [hy] at f1 f2;simp only at f1 f2 ⊢;have f1:=fun h=>f1 h trivial;by_cases h3:op=3
  ·
   rw [if_pos h3];refine ⟨(key_f (hkey (.inl h3)) _ _).trans (f2.trans e2),fun f' h=>?_⟩;simp only at h;split at h
   · cases h;exact ⟨KnUp.refl _ _,hK' h1 (KnUp.refl _ _)⟩
   · cases h
  rw [if_neg h3];have h6:op=6:=by omega
  subst h6;have htab:tntE C a=false∧tntE C b=false:=by simpa using b2
  rw [if_pos ⟨e1 htab.1,f1 htab.2⟩];split
  · exact ⟨f2.trans e2,fun f' h=>(by cases h)⟩
  have hd:dirtyT C (.mk 6 name mx a b body els)=false:=by simp [dirtyT,St.a,St.b,St.op,htab]
  rw [hd] at s2;simp only [Bool.and_false,Bool.or_false] at s2;have hT1:=blkOf_seq (stT_6 (t:=.mk 6 name mx a b body els) rfl hT).1;simp only [St.body,St.name] at hT1;obtain ⟨g1,g2⟩:=ind_cnt (C:=C) (ts:=ts) (bX:=fun f x=>exBl fmt body f x) (name:=name) (fun f x hKf hn=>by
   obtain ⟨g3,g4⟩:=ind_bl body (d+1) ⟨qbz ts.visible name 1,qbz ts.loops name true,qbz ts.all name 1⟩ f x obody (nodV_set _ _ _ hN) hT1 s2 k4 b3 (fun s hs hC=>by
    rcases (qbx _ _ _ _).1 hs with rfl | hs
    · exact hn
    · exact hKf s hs hC)
   exact ⟨g3,fun f' h=>(g4 f' h).1⟩) (vb.v.n - va.v.n).toNat va.v.n f x2 hK
  exact ⟨g1.trans (f2.trans e2),fun f' h=>⟨g2 f' h,hK' h1 (g2 f' h)⟩⟩
theorem ind_bl:∀ (l:List St) (d:Nat) (ts:TS) (f:MV) (x:XS),okL l d→(qba ts.visible).Nodup→(qdb l ts).1=0→tntL l false C=C→keyTL C l=false→brTL C l=false→KnO C f ts →
  (exBl fmt l f x).2.f=x.f∧∀ f',(exBl fmt l f x).1=some f'→KnUp C f f'∧KnO C f' (qdb l ts).2
 | [],d,ts,f,x,_,_,_,_,_,_,hK=>by
  rw [exBl,qdb];exact ⟨rfl,fun f' h=>(by cases h;exact ⟨KnUp.refl _ _,hK⟩)⟩
 | t::l,d,ts,f,x,hO,hN,hT,hS,hk,hb,hK=>by
  rw [qdb] at hT ⊢;rw [keyTL] at hk;rw [brTL] at hb;simp only [Bool.or_eq_false_iff] at hk hb;obtain ⟨q1,q2⟩:=tntL_cons hS;by_cases h1:(stT t ts).1≠0
  · rw [if_pos h1] at hT;exact (h1 hT).elim
  rw [if_neg h1] at hT ⊢;have h1:(stT t ts).1=0:=by simpa using h1
  obtain ⟨g1,g2⟩:=ind_st t d ts f x (hO t (by simp)) hN h1 q1 hk.1 hb.1 hK;have hv:=vk_st t ts hN h1;rw [exBl];rcases hx:exSt fmt t f x with ⟨_ | f1,x'⟩
  ·
   rw [hx] at g1;exact ⟨g1,fun f' h=>(by cases h)⟩
  ·
   rw [hx] at g1 g2;simp only at g1 g2 ⊢;obtain ⟨u1,u2⟩:=g2 f1 rfl;obtain ⟨g3,g4⟩:=ind_bl l d (stT t ts).2 f1 x' (fun s hs=>hO s (by simp [hs])) hv.nod hT q2 hk.2 hb.2 u2;exact ⟨g3.trans g1,fun f' h=>⟨u1.trans (g4 f' h).1,(g4 f' h).2⟩⟩
end
theorem ind_args:∀ (ps:List Param) (vs:List V) (f:MV) (ts:TS),vs.length=ps.length→(qba ts.visible).Nodup→KnO C f ts→(qba (declP ps ts).visible).Nodup∧KnO C (initF ps vs f) (declP ps ts)
 | [],vs,f,ts,_,hN,hK=>by
  refine ⟨hN,?_⟩;rw [show declP [] ts=ts from rfl];cases vs<;>exact hK
 | p::ps,[],f,ts,hl,_,_=>by simp at hl
 | p::ps,v::vs,f,ts,hl,hN,hK=>by
  rw [initF,show declP (p::ps) ts=declP ps (ts.decl p.name p.ty) from rfl];refine ind_args ps vs _ _ (by simpa using hl) (nodV_set _ _ _ hN) fun s hs hC=>?_;rcases (qbx _ _ _ _).1 hs with rfl | hs
  · exact ⟨v,by simp [updF]⟩
  · exact KnUp.set (C:=C) (fun _=>rfl) s hC (hK s hs hC)
end
theorem ind_stat {fmt:Int→qac} {p:Proc} {args:List V} (hc:qbn p=0) (ha:qcp p args=0) (hi:indepS p=true) (hb:ctrlS p=false):(exP fmt p args).f=false:=by
 unfold indepS at hi;simp only [Bool.and_eq_true,decide_eq_true_eq,Bool.not_eq_true'] at hi;obtain ⟨ht,hk⟩:=hi;have hb:brTL (cleanP p) p.body=false:=by simpa [ctrlS,ht] using hb
 have hT:(qdb p.body (declP p.params ⟨[],[],[]⟩)).1=0:=by
  unfold qb3 at ht;split at ht
  · rename_i h;exact (h ht).elim
  split at ht
  · cases ht
  split at ht
  · cases ht
  ·
   unfold blkT qcg at ht;split at ht
   · rename_i h;exact (h ht).elim
   · rename_i h;simpa using h
 obtain ⟨h1,h2⟩:=ind_args (C:=cleanP p) p.params args (fun _=>none) ⟨[],[],[]⟩ (argsErr_ok ha).1 (by simp [qba]) (fun s hs=>by simp [qba] at hs);exact (ind_bl (fmt:=fmt) p.body 1 _ _ ⟨[],[],false⟩ (cost_okL hc) h1 hT (cleanP_same p) hk hb h2).1
theorem ind_err {fmt:Int→qac} {p:Proc} {args:List V} (hc:qbn p=0) (ha:qcp p args=0) (hi:indepS p=true) (hb:ctrlS p=false):(statS fmt p args).2=0∨(statS fmt p args).2=2:=by
 unfold statS;rw [if_neg (by omega),if_neg (by rw [ind_stat hc ha hi hb];simp)];split
 · exact .inr rfl
 · exact .inl rfl
theorem stat_arg {fmt:Int→qac} {p:Proc} {args:List V}:(statS fmt p args).2=1↔qbn p≠0∨qcp p args≠0:=by
 unfold statS;split
 · rename_i h;exact ⟨fun _=>h,fun _=>rfl⟩
 ·
  rename_i h;refine ⟨fun g=>?_,fun g=>(h g).elim⟩;split at g
  · cases g
  split at g
  · cases g
  · cases g
end Go.Cw
