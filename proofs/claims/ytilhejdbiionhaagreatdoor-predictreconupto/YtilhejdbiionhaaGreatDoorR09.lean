/- Part 9 of a proof: AbsQ, AbsR, AbsS -/
import Derived.Test.YtilhejdbiionhaaGreatDoorR08
set_option linter.all false

namespace Go.Abs
section
variable {P:Program} {E:Ent}
theorem eff_ok{c:Ctx}{e:Env}{a:Act}{w:World}(s:Sim E.N c e a w)(k:E.ok c e.h w){o:Oper}{K Kp:AV→qab→Prop}(h:opEff P e o.op K Kp){next:Act→World→Prop}{Q:Exit→Act→World→Prop}
  (hret:∀v h' c' w' u,K v h'→c.le c'→HSim c' h' w'→E.ok c' h' w'→Rel c' v u→next (a.put o.dst u) w')
  (hpan:∀v h' c' w' u,Kp v h'→c.le c'→HSim c' h' w'→E.ok c' h' w'→Rel c' v u→Q (.panic [⟨u,false,false⟩]) a w'):o.wp P a w next Q:=by
 have hev:∀o':Oper,o'=o→o'.op=o.op:=fun _ h=>by rw[h]
 cases hop:o.op with
 |box T x =>
  rw[hop]at h;obtain⟨hall,hok,hK⟩:=h;have hr:=qbe s hall x (by simp);obtain⟨h1,h2⟩:=hr.cells hok;obtain⟨c',hle,s',k',hb⟩:=alloc_ok s.hs k T h1 h2;exact qb1 (w':=w.alloc (.cells (a.eval x).cells T)) (v:=.pointer (some ⟨w.heap.size,0,none⟩)) (by simp only[execOp,hop,Instr.box,newVar,newRow,Sem.run_bind,qc2,Sem.run_pure,Result.andThen_ok])
   (hret _ _ _ _ _ hK hle s' k' (.ptr _ _ _ hb))
 |alloc T =>
  rw[hop]at h;obtain⟨hk,hK⟩:=h;obtain⟨i,d,z,h1,h2,h3,h4,h5,h6,h7,h8⟩:=qas (P:=P) (t:=T) rfl hk;rw[h6]at hK;obtain⟨g1,g2⟩:=zero_cells c h8;obtain⟨c',hle,s',k',hb⟩:=alloc_ok s.hs k T g1 g2;have hzv:(zeroValue T).run P w=.ok z w:=by simp[zeroValue,run_typeInfo _ h1,h3]
  exact qb1 (w':=w.alloc (.cells z.cells T)) (v:=.pointer (some ⟨w.heap.size,0,none⟩)) (by simp only[execOp,hop,Instr.alloc,newVar,newRow,Sem.run_bind,hzv,qc2,Sem.run_pure,Result.andThen_ok])
   (hret _ _ _ _ _ hK hle s' k' (.ptr _ _ _ hb))
 |store T ad x =>
  rw[hop]at h;obtain⟨hall,h⟩:=h;have hra:=qbe s hall ad (by simp);have hrx:=qbe s hall x (by simp);split at h
  ·rename_i i off hga;rw[hga]at hra;split at h
   ·rename_i xs hi;obtain⟨hok,hsz,hk,hle,hK⟩:=h;obtain⟨b,hav,hb⟩:=ptr_inv hra;obtain⟨h1,h2⟩:=hrx.cells hok;obtain⟨b',vs,T',g1,g2,g3,g4⟩:=s.hs.obj i _ hi;rw[hb]at g1;cases g1;obtain⟨iT,d,z,t1,t2,t3,t4,t5,_⟩:=qas (P:=P) (t:=T) rfl hk;have hone:∀v,v∈(a.eval x).cells.toList→v.oneCell'=true:=fun v hv=>by
     obtain⟨j,hj⟩:=List.getElem?_of_mem hv;have hlt:j<(e.getS x).cells.length:=by rw[←h1];have:=(List.getElem?_eq_some_iff.1 hj).1;simpa using this
     exact(h2 j _ v (by simp[hlt];rfl) (by simpa using hj)).2
    have hrun:=run_storeCells_at P b off T' (a.eval x).cells.toList 0 vs w g2 (by simp[h1,g3];omega) hone;simp only[Nat.add_zero]at hrun;have hsize:(a.eval x).cells.size=iT.size:=by rw[h1,hsz,t5]
    have hst:(execOp a.eval o).run P w=.ok .skip (w.setRow b (vs.toList.take off++(a.eval x).cells.toList++vs.toList.drop (off+(a.eval x).cells.toList.length)).toArray):=by
     simp only[execOp,hop,Instr.storeAt,hav,Instr.sureAddr,storeVar,Sem.run_bind,Sem.run_pure,Result.andThen_ok,qbh t1,hsize,ne_eq,not_true_eq_false,if_false,hrun]
    have hcells:CellsR c (xs.take off++(e.getS x).cells++xs.drop (off+(e.getS x).cells.length)) (vs.toList.take off++(a.eval x).cells.toList++vs.toList.drop (off+(a.eval x).cells.toList.length)).toArray:=by
     have hl2:(a.eval x).cells.toList.length=(e.getS x).cells.length:=by simpa using h1
     refine⟨by first|(simp[hl2,g3];done)|(simp[hl2,g3];omega),fun j y v hy hv=>?_⟩;have hv':(vs.toList.take off++(a.eval x).cells.toList++vs.toList.drop (off+(a.eval x).cells.toList.length))[j]?=some v:=by simpa using hv
     rw[hl2]at hv';by_cases hj1:j<off
     ·rw[List.append_assoc,List.getElem?_append_left (by simp;omega),List.getElem?_take,if_pos hj1]at hy;rw[List.append_assoc,List.getElem?_append_left (by simp;omega),List.getElem?_take,if_pos hj1]at hv';exact g4 j y v hy (by simpa using hv')
     ·by_cases hj2:j<off+(e.getS x).cells.length
      ·rw[List.append_assoc,List.getElem?_append_right (by simp;omega),List.getElem?_append_left (by simp;omega)]at hy;rw[List.append_assoc,List.getElem?_append_right (by simp;omega),List.getElem?_append_left (by simp;omega)]at hv';have m1:min off xs.length=off:=by omega
       have m2:min off vs.size=off:=by omega
       simp only[List.length_take,m1]at hy;simp only[List.length_take,Array.length_toList,m2]at hv';exact h2 _ y v hy (by simpa using hv')
      ·rw[List.getElem?_append_right (by simp;omega),List.getElem?_drop]at hy;rw[List.getElem?_append_right (by simp[h1];omega),List.getElem?_drop]at hv';simp only[List.length_append,List.length_take]at hy;simp only[List.length_append,List.length_take,Array.length_toList,h1]at hv';rw[show off+(e.getS x).cells.length+(j - (min off xs.length+(e.getS x).cells.length))=j from by omega]at hy;rw[show off+(e.getS x).cells.length+(j - (min off vs.size+(e.getS x).cells.length))=j from by omega]at hv';exact g4 j y v hy (by simpa using hv')
    obtain⟨s',k'⟩:=store_ok s.hs k hi hb g2 hcells.1 hcells.2;exact wp_skipV hst (hret _ _ _ _ _ hK (.refl c) s' k' (.top _))
   ·exact h.elim
  ·rename_i i n sz r q hga;rw[hga]at hra;split at h
   ·rename_i tt sz' rows hi;obtain⟨hn,rfl,hr,hok,hdat,hsz,hk,hle,hK⟩:=h;obtain⟨w',hst,s',k'⟩:=ustore_run (P:=P) (E:=E) s.hs k hop hra hrx hi hn hr hok hdat hsz hk hle;exact wp_skipV hst (hret _ _ _ _ _ hK (.refl c) s' k' (.top _))
   ·rename_i tt sz' rows hi;obtain⟨hn,rfl,hr,hok,hsz,hk,hle,hK⟩:=h;obtain⟨w',hst,s',k'⟩:=ostore_run (P:=P) (E:=E) s.hs k hop hra hrx hi hn hr hok hsz hk hle;exact wp_skipV hst (hret _ _ _ _ _ hK (.refl c) s' k' (.top _))
   ·exact h.elim
  ·exact h.elim
 |buildSlice T n parts =>
  rw[hop]at h;simp only[opEff]at h;split at h
  ·rename_i el sz hk;split at h
   ·rename_i rows hr;obtain⟨hall,hn,hpos,h24,hke,hsz,hK⟩:=h;have hrel:=qbe s hall;obtain⟨v,w',c',hrun,hle,s',k',hr'⟩:=lit_ok (P:=P) (E:=E) s.hs k hk (parts:=parts.toList.map fun p=>(p.1,e.getS p.2)) (qs:=parts.map fun p=>(p.1,a.eval p.2)) (by simp) (fun j p q hp hq=>by
     simp only[List.getElem?_map,Option.map_eq_some_iff]at hp;obtain⟨x,hx,rfl⟩:=hp;simp only[Array.getElem?_map,Option.map_eq_some_iff]at hq;obtain⟨y,hy,rfl⟩:=hq;have:x=y:=by simpa[hy]using hx.symm
     subst this;exact⟨rfl,hrel x.2 (List.mem_map.2 ⟨x,List.mem_of_getElem? hx,rfl⟩)⟩) hr hn hpos h24 hke hsz
    exact qb1 (by simp only[execOp,hop,Sem.run_bind,hrun,Sem.run_pure,Result.andThen_ok]) (hret _ _ _ _ _ hK hle s' k' hr')
   ·split at h
    ·rename_i cs hr;obtain⟨hall,hpos,h24,hke,hsz,hK⟩:=h;have hrel:=qbe s hall;obtain⟨v,w',c',hrun,hle,s',k',hr'⟩:=lit1_ok (P:=P) (E:=E) s.hs k hk (parts:=parts.toList.map fun p=>(p.1,e.getS p.2)) (qs:=parts.map fun p=>(p.1,a.eval p.2)) (by simp) (fun j p q hp hq=>by
      simp only[List.getElem?_map,Option.map_eq_some_iff]at hp;obtain⟨x,hx,rfl⟩:=hp;simp only[Array.getElem?_map,Option.map_eq_some_iff]at hq;obtain⟨y,hy,rfl⟩:=hq;have:x=y:=by simpa[hy]using hx.symm
      subst this;exact⟨rfl,hrel x.2 (List.mem_map.2 ⟨x,List.mem_of_getElem? hx,rfl⟩)⟩) hr hpos h24 hke hsz
     exact qb1 (by simp only[execOp,hop,Sem.run_bind,hrun,Sem.run_pure,Result.andThen_ok]) (hret _ _ _ _ _ hK hle s' k' hr')
    ·exact h.elim
  ·exact h.elim
 |call cl =>
  obtain⟨callee,args,argTypes⟩:=cl;rw[hop]at h;cases callee with
  |value f =>
   obtain⟨hall,h⟩:=h;split at h
   ·rename_i fid first caps hf
    exact call_ok (E:=E) s k hop hall hf h (fun v h' c' w' u hR=>hret v h' c' w' u hR) (fun v h' c' w' u hR=>hpan v h' c' w' u hR)
   ·exact h.elim
  |invoke r m=>exact h.elim
  |builtin b =>
   cases b with
   |append =>
    simp only[opEff]at h;split at h
    ·rename_i x y T T' hx hT;obtain rfl:args = #[x,y]:=Array.ext' hx;obtain rfl:argTypes = #[T,T']:=Array.ext' hT;obtain⟨hall,rfl,hA⟩:=h;have hrx:=qbe s hall x (by simp);have hry:=qbe s hall y (by simp);obtain⟨r,h',v',w',c',hK,hrun,hle,s',k',hr⟩:=append_ok (P:=P) (ty:=o.type) s.hs k hrx hry hA;exact qb1 (by simp only[execOp,hop,resolve,invoke,builtin,Sem.run_bind,Sem.run_pure,Result.andThen_ok,List.map_toArray,List.map_cons,List.map_nil,hrun]) (hret _ _ _ _ _ hK hle s' k' hr)
    ·exact h.elim
   |delete =>
    simp only[opEff]at h;split at h
    ·rename_i m key T T' hx hT;obtain rfl:args = #[m,key]:=Array.ext' hx;obtain rfl:argTypes = #[T,T']:=Array.ext' hT;obtain⟨hall,h⟩:=h;have hrm:=qbe s hall m (by simp);have hrk:=qbe s hall key (by simp);split at h
     ·rename_i kt et i st hk hm hkey;split at h
      ·rename_i es hes;split at h
       ·rename_i l hl;obtain⟨hK,hF⟩:=h;obtain rfl:=strKeys_inv hl;rw[hm]at hrm;rw[hkey]at hrk;obtain⟨w',hrun,s',k'⟩:=delete_ok (P:=P) (T':=T') (ty:=o.type) (key:=st) s.hs k hk hK hrm hes;exact qb1 (by simp only[execOp,hop,resolve,invoke,builtin,Sem.run_bind,Sem.run_pure,Result.andThen_ok,List.map_toArray,List.map_cons,List.map_nil,hrk.val_inv,hrun]) (hret _ _ _ _ _ hF (.refl c) s' k' (.tuple [] #[] rfl (fun j x v hx=>by simp at hx)))
       ·exact h.elim
      ·exact h.elim
     ·exact h.elim
    ·exact h.elim
   |_=>exact h.elim
 |range T x =>
  rw[hop]at h;obtain⟨hall,h⟩:=h;have hrx:=qbe s hall x (by simp);split at h
  ·rename_i st hk hx;rw[hx]at hrx;obtain⟨c',hle,s',k',hblk⟩:=newiter_ok s.hs k st;exact qb1 (by simp only[execOp,hop,hrx.val_inv,Sem.run_bind,run_range_str (str_und hk),Sem.run_pure,Result.andThen_ok]) (hret _ _ _ _ _ h hle s' k' (.ptr _ _ _ hblk))
  ·exact h.elim
 |next x isStr =>
  rw[hop]at h;cases isStr with
  |false=>exact h.elim
  |true =>
   obtain⟨hall,h⟩:=h;have hrx:=qbe s hall x (by simp);split at h
   ·rename_i i hx;rw[hx]at hrx;obtain⟨b,hav,hb⟩:=ptr_inv hrx;split at h
    ·rename_i st p hi;obtain⟨b',g1,g2⟩:=s.hs.obj i _ hi;rw[hb]at g1;cases g1;have hrun:=run_next_str (P:=P) g2 o.type;split at h
     ·rename_i hp;rw[if_pos hp]at hrun;obtain⟨s',k'⟩:=iterset_ok (p':=p+(Utf8.decode st p).2) s.hs k hi hb g2;refine qb1 (v:=.tuple #[.bool true,goInt p,.int .i32 (Utf8.decode st p).1]) (by simp only[execOp,hop,hav,Sem.run_bind,hrun,Sem.run_pure,Result.andThen_ok]) (hret _ _ _ _ _ h (.refl c) s' k' (.tuple _ _ (by simp) fun j y v hy hv=>?_))
      match j with
      | 0=>simp at hy hv;subst hy;subst hv;exact .val _
      | 1=>simp at hy hv;subst hy;subst hv;exact .val _
      | 2=>simp at hy hv;subst hy;subst hv;exact .val _
      |j+3=>simp at hy
     ·rename_i hp;rw[if_neg hp]at hrun;refine qb1 (v:=.tuple #[.bool false]) (by simp only[execOp,hop,hav,Sem.run_bind,hrun,Sem.run_pure,Result.andThen_ok]) (hret _ _ _ _ _ h (.refl c) s.hs k (.tuple _ _ (by simp) fun j y v hy hv=>?_))
      match j with
      | 0=>simp at hy hv;subst hy;subst hv;exact .val _
      |j+1=>simp at hy
    ·exact h.elim
   ·exact h.elim
 |panic x =>
  rw[hop]at h;obtain⟨hall,hi,hF⟩:=h;have hrx:=qbe s hall x (by simp);have hv:∃t u,a.eval x=.iface t u:=by
   revert hi hrx
   generalize e.getS x=y;generalize a.eval x=u;intro hi hrx;cases y<;>simp only[AV.isIface]at hi<;>first|(cases hi;done)|skip
   cases hrx with
   |data h=>cases h
   |iface t y u h=>exact⟨_,_,rfl⟩
  obtain⟨t,u,hv⟩:=hv;have hrun:(execOp a.eval o).run P w=.halt (.panic (a.eval x)) w:=by
   simp only[execOp,hop,hv,Sem.run_bind];rfl
  unfold Oper.wp;rw[hrun,Oper.upon_panic];exact hpan _ _ _ _ _ hF (.refl c) s.hs k hrx
 |makeMap T r =>
  rw[hop]at h;simp only[opEff]at h;split at h
  ·rename_i kt et hk;obtain⟨hr,hF⟩:=h;obtain⟨c',hle,s',k',hblk⟩:=newmap_ok s.hs k;have hrun:(Instr.makeMap T (r.map a.eval)).run P w=.ok (.map (some w.heap.size)) (w.alloc (.map #[] 0)):=run_makeMap (map_und hk) _ fun v hv=>by
    simp only[Option.map_eq_some_iff]at hv;obtain⟨x,rfl,rfl⟩:=hv;obtain⟨hall,hint⟩:=hr;have hrx:=qbe s hall x (by simp)
    revert hint hrx
    generalize e.getS x=y;intro hint hrx;unfold AV.isInt at hint;split at hint
    ·exact⟨_,_,hrx.val_inv⟩
    ·cases hint
   exact qb1 (by simp only[execOp,hop,Sem.run_bind,hrun,Sem.run_pure,Result.andThen_ok]) (hret _ _ _ _ _ hF hle s' k' (.mapr _ _ hblk))
  ·exact h.elim
 |mapUpdate T m key x =>
  rw[hop]at h;obtain⟨hall,h⟩:=h;have hrm:=qbe s hall m (by simp);have hrk:=qbe s hall key (by simp);have hrx:=qbe s hall x (by simp);split at h
  ·rename_i kt et i st hk hm hkey;split at h
   ·rename_i es hes;split at h
    ·rename_i l hl;obtain⟨hK,hF⟩:=h;obtain rfl:=strKeys_inv hl;rw[hm]at hrm;rw[hkey]at hrk;obtain⟨w',hrun,s',k'⟩:=update_ok (P:=P) (key:=st) s.hs k hk hK hrm hrx (val_ok hrk) hes;exact wp_skipV (by simp only[execOp,hop,hrk.val_inv,Sem.run_bind,hrun,Sem.run_pure,Result.andThen_ok]) (hret _ _ _ _ _ hF (.refl c) s' k' (.top _))
    ·exact h.elim
   ·exact h.elim
  ·exact h.elim
 |_=>rw[hop]at h;exact h.elim
theorem wp_if_of{ops:Array Oper}{Q:Exit→Act→World→Prop}{next:Act→World→Prop}{o:Oper}{a:Act}{w:World}{G:Bool}(hw:Region.wanted o (yielded ops a.tmps)=G)(h1:G=true→o.wp P a w next Q)(h2:G=false→next (a.put o.dst undef) w) :
  if Region.wanted o (yielded ops a.tmps)then o.wp P a w next Q∨(o.asks P a w∧LetsOut Q)else next (a.put o.dst undef) w:=by
 cases G with
 |true=>rw[if_pos hw];exact .inl (h1 rfl)
 |false=>rw[if_neg (by rw[hw];simp)];exact h2 rfl
theorem stepF_soundQ{Q:AExit→Env→Prop}{Qc:Exit→Act→World→Prop}{ops:Array Oper}{ds:List (Option Tmp)}{o:Oper}{e:Env}{K:Env→Prop}(h:stepF P E.N Q ds o e K){c:Ctx}{a:Act}{w:World}(hwant:∀G,gB ds e o.guard=some G→Region.wanted o (yielded ops a.tmps)=G)
  (s:Sim E.N c e a w) (k:E.ok c e.h w) {nx:Act→World→Prop} (hpn:∀v e' c' a' w' u,Q (.panic v) e'→Rel c' v u→Sim E.N c' e' a' w'→E.ok c' e'.h w'→Qc (.panic [⟨u,false,false⟩]) a' w') (hnx:∀e' c' a' w',K e'→Sim E.N c' e' a' w'→E.ok c' e'.h w'→nx a' w') :
  if Region.wanted o (yielded ops a.tmps)then o.wp P a w nx Qc∨(o.asks P a w∧LetsOut Qc)else nx (a.put o.dst undef) w:=by
 have next:∀(e':Env) (c':Ctx) (w':World) (v:AV) (u:Value),K (({ e with h:=e'.h }:Env).put o.dst v)→qee E.N o.dst→c.le c'→HSim c' e'.h w'→E.ok c' e'.h w'→Rel c' v u →
   nx (a.put o.dst u) w':=fun e' c' w' v u hF hd hle hs' hk' hr =>
  hnx _ c' _ w' hF (s.put hle hs' (dst_lt hd) hr) (by cases o.dst<;>exact hk')
 unfold stepF at h;split at h
 ·exact h.elim
 ·rename_i G hG;obtain⟨hd,h⟩:=h;have hw:=hwant G hG
  -- what a quiet operation leaves
  have quiet:∀(v:AV) (k':G=true→∃u,(execOp a.eval o).run P w=.ok (.value u) w∧Rel c v u),K (e.put o.dst (optV o.guard G v))→(if Region.wanted o (yielded ops a.tmps)then o.wp P a w nx Qc∨(o.asks P a w∧LetsOut Qc)else nx (a.put o.dst undef) w):=by
   intro v hv hF;refine wp_if_of hw (fun hGt=>?_) (fun hGf=>?_)
   ·obtain⟨u,hu,hr⟩:=hv hGt;refine qb1 hu (next e c w (optV o.guard G v) u hF hd (.refl c) s.hs k ?_);unfold optV;split
    ·exact hr
    ·exact .opt _ _ _ (fun _=>hr) (fun hf=>by rw[hGt]at hf;cases hf)
   ·refine next e c w (optV o.guard G v) undef hF hd (.refl c) s.hs k ?_
    unfold optV;split
    ·rename_i hg;rw[hg]at hG;simp only[gB,Option.some.injEq]at hG;rw[←hG]at hGf;cases hGf
    ·exact .opt _ _ _ (fun ht=>by rw[hGf]at ht;cases ht) (fun _=>rfl)
  split at h
  ·rename_i x y z hop;obtain⟨hp,hF⟩:=h;refine quiet _ (fun hGt=>?_) hF;rw[hGt]at hp;obtain⟨b,hb,hr⟩:=pick_rel (s.eval x) (s.eval y) (s.eval z) hp;refine⟨_,?_,hr⟩;simp only[execOp,hop,hb,asBool,Sem.run_bind,Sem.run_pure,Result.andThen_ok]
  ·split at h
   ·rename_i heff hgd;obtain⟨hside,hF⟩:=h;refine quiet _ (fun hGt=>?_) (by first|exact hF|(rw[hgd];exact hF));obtain⟨hall,hs'⟩:=hside hGt;exact still_ok s.hs (qbe s hall) hs'
   ·rename_i heff hgd;rw[hgd]at hG;simp only[gB,Option.some.injEq]at hG;refine wp_if_of hw (fun hGt=>?_) (fun hGf=>by rw[←hG]at hGf;cases hGf);refine eff_ok s k h (fun v h' c' w' u hK hle hs' hk' hr=>next ⟨e.t,h'⟩ c' w' v u hK hd hle hs' hk' hr) (fun v h' c' w' u hK hle hs' hk' hr=>?_);exact hpn v _ c' _ _ u hK hr ⟨s.defers,s.size,fun i=>(s.tmps i).mono hle,hs'⟩ hk'
   ·rename_i heff hgd;split at h
    ·rename_i f args ts hop;split at h
     ·rename_i fid first caps hf
      rcases h with⟨r,hr,hF⟩|⟨hGt0,hall,hp⟩
      ·refine wp_if_of hw (fun hGt=>?_) (fun hGf=>?_)
       ·obtain⟨hall,hp⟩:=hr hGt;refine call_ok (E:=E) s k hop hall hf (hp e.h) (fun v h' c' w' u hR hle hs' hk' hru=>?_) (fun v h' c' w' u hR=>by cases hR.1);obtain⟨h1,rfl⟩:=hR;cases h1;exact next e c' w' _ u hF hd hle hs' hk' (.opt _ _ _ (fun _=>hru) (fun hf=>by rw[hGt]at hf;cases hf))
       ·exact next e c w _ undef hF hd (.refl c) s.hs k (.opt _ _ _ (fun ht=>by rw[hGf]at ht;cases ht) (fun _=>rfl))
      ·refine wp_if_of hw (fun _=>?_) (fun hGf=>by rw[hGt0]at hGf;cases hGf);refine call_ok (E:=E) s k hop hall hf hp (fun v h' c' w' u hR hle hs' hk' hru=>?_) (fun v h' c' w' u hR hle hs' hk' hru=>?_)
       ·exact next ⟨e.t,h'⟩ c' w' _ u hR hd hle hs' hk' (.opt _ _ _ (fun _=>hru) (fun hf=>by cases hf))
       ·exact hpn v _ c' _ _ u hR hru ⟨s.defers,s.size,fun i=>(s.tmps i).mono hle,hs'⟩ hk'
     ·exact h.elim
    ·exact h.elim
theorem stepF_sound{Q:AExit→Env→Prop}{ops:Array Oper}{ds:List (Option Tmp)}{o:Oper}{e:Env}{K:Env→Prop}(h:stepF P E.N Q ds o e K){c:Ctx}{a:Act}{w:World}(hwant:∀G,gB ds e o.guard=some G→Region.wanted o (yielded ops a.tmps)=G)
  (s:Sim E.N c e a w) (k:E.ok c e.h w) {nx:Act→World→Prop} (hnx:∀e' c' a' w',K e'→Sim E.N c' e' a' w'→E.ok c' e'.h w'→nx a' w') :
  if Region.wanted o (yielded ops a.tmps)then o.wp P a w nx (conc E Q)∨(o.asks P a w∧LetsOut (conc E Q))else nx (a.put o.dst undef) w :=
 stepF_soundQ h hwant s k (fun v _ c' _ _ _ hq hr hs hk=>⟨.panic v,_,c',hq,hr,hs,hk⟩) hnx
theorem qc9{Q:AExit→Env→Prop}{ops:Array Oper}:∀(l:List Oper) (done:List Oper) (e:Env),ops.toList=done++l→opsF P E.N Q (done.map (·.dst)) l e→AOps P E ops l Q e
 | [],done,e,_,h=>aops_nil h
 |o::l,done,e,hops,h=>by
  have ih:=fun e'=>qc9 (Q:=Q) (ops:=ops) l (done++[o]) e' (by simp[hops]);simp only[List.map_append,List.map_cons,List.map_nil]at ih;intro c a w s k;simp only[opsF]at h;exact stepF_sound h (fun G hG=>wanted_eq hops s hG) s k fun e' c' a' w' hK s' k'=>ih e' hK c' a' w' s' k'
theorem awp_ops{id:Nat}{l:List Oper}{Q:AExit→Env→Prop}{e:Env}(h:opsF P E.N Q [] l e):AWp P E (.region id l.toArray false) Q e :=
 qd7 (qc9 l [] e (by simp) (by simpa using h))
end
end Go.Abs

namespace Go.Abs
section
variable {P:Program} {E:Ent}
def qdz:Nat→List AV→List (Nat×AV)
 |_,[]=>[]
 |k,x::xs=>(k,x)::qdz (k+1) xs
theorem lookT_slots:∀{xs:List AV} {k i:Nat},qbb (qdz k xs) i=if k≤i then(xs[i - k]?).getD .top else .top
 | [],k,i=>by simp[qdz,qbb]
 |x::xs,k,i=>by
  simp only[qdz,qbb];by_cases h:k=i
  ·subst h;simp
  ·have:(k == i)=false:=by simpa using h
   rw[this,cond_false,lookT_slots];by_cases hk:k≤i
   ·rw[if_pos (by omega),if_pos hk,show i - k=(i - (k+1))+1 from by omega];simp
   ·rw[if_neg (by omega),if_neg hk]
def resSV(P:Program)(e:Env):ResultVar→SV
 | .tmp t=>⟨True,qbb e.t t⟩
 | .cell a t=>aLoadAt P t (qbb e.t a) e.h
def mkRes:List AV→AV
 | [x]=>x
 |xs=>.tuple xs
def resSides(P:Program)(e:Env):List ResultVar→Prop
 | []=>True
 |r::l=>(resSV P e r).side∧resSides P e l
theorem resSides_mem{e:Env}:∀{l:List ResultVar},resSides P e l→∀r,r∈l→(resSV P e r).side
 | [],_,r,hr=>by cases hr
 |x::l,h,r,hr=>by
  cases hr with
  |head=>exact h.1
  |tail _ hr=>exact resSides_mem h.2 r hr
def RetOk(P:Program)(rs:List ResultVar)(n0:Nat)(R:AEnd→qab→Prop)(e:Env):Prop :=
 resSides P e rs∧∃r' h',((mkRes (rs.map fun r=>(resSV P e r).val)).norm e.h).Wk r'∧r'.under h'.length=true∧hwk e.h h'∧n0≤h'.length∧hUnder h'.length h'=true∧R (.ret r') h'
def PanOk(n0:Nat)(R:AEnd→qab→Prop)(v:AV)(e:Env):Prop :=
 ∃v' h',(v.norm e.h).Wk v'∧v'.under h'.length=true∧hwk e.h h'∧n0≤h'.length∧hUnder h'.length h'=true∧R (.panic v') h'
def fnPost(P:Program)(rs:List ResultVar)(n0:Nat)(R:AEnd→qab→Prop):AExit→Env→Prop
 | .ret,e| .normal,e=>RetOk P rs n0 R e
 | .panic v,e=>PanOk n0 R v e
 | .exit _,_=>False
theorem Ent.ok.withN{c:Ctx}{h:qab}{w:World}(k:E.ok c h w)(n:Nat):(⟨n,E.c,E.h,E.w⟩:Ent).ok c h w :=
 ⟨k.edom,k.ext,k.blk0,k.len,k.os,k.tape,k.output,k.size,k.frame,k.newobj,k.dold⟩
theorem finish{c:Ctx}{e:Env}{a:Act}{w:World}(s:Sim E.N c e a w)(k:E.ok c e.h w){x r':AV}{v:Value}(hr:Rel c x v){h':qab}(hw:(x.norm e.h).Wk r')(hu:r'.under h'.length=true)(hh:hwk e.h h')(hn:E.h.length≤h'.length)
  (hhu:hUnder h'.length h'=true):∃c',HSim c' h' w∧E.ok c' h' w∧Rel c' r' v:=by
 obtain⟨s1,k1⟩:=share_ok s.hs k;have hr1:=norm_rel s.hs hr;have sim:Sim 1 (c.share e.h w) ⟨[(0,x.norm e.h)],e.h⟩ ⟨#[v],[]⟩ w:=⟨rfl,rfl,fun i=>by
  cases i with
  |zero=>simpa[qbb]using hr1
  |succ i=>simp[qbb];exact .top _,s1⟩
 obtain⟨c',s2,k2⟩:=Wk.mk (E:=⟨1,E.c,E.h,E.w⟩) (e:=⟨[(0,x.norm e.h)],e.h⟩) (e1:=⟨[(0,r')],h'⟩) hn hh hhu (by simp only[wkT,and_true];exact⟨by simpa[qbb]using hw,hu⟩) _ _ _ sim (k1.withN 1);refine⟨c',s2.hs,⟨k2.edom,k2.ext,k2.blk0,k2.len,k2.os,k2.tape,k2.output,k2.size,k2.frame,k2.newobj,k2.dold⟩,?_⟩;have:=s2.tmps 0;simpa[qbb]using this
open Classical in
theorem results_ok{c:Ctx}{e:Env}{a:Act}{w:World}(s:Sim E.N c e a w)(fn:Func)(hs:resSides P e fn.results.toList) :
  ∃v,(results fn a.tmps).run P w=.ok v w∧Rel c (mkRes (fn.results.toList.map fun r=>(resSV P e r).val)) v:=by
 have one:∀r,r∈fn.results.toList→∃v,((match r with
   | .tmp t=>pure (a.tmps.getD t undef)
   | .cell b t=>do loadVar t (←asAddr (a.tmps.getD b undef)):Sem Value)).run P w=.ok v w∧Rel c (resSV P e r).val v:=by
  intro r hr;have hside:=resSides_mem hs r hr;cases r with
  |tmp t=>exact⟨_,rfl,s.tmps t⟩
  |cell b t =>
   obtain⟨v,hv,hrel⟩:=loadAt_ok (P:=P) (t:=t) s.hs (s.tmps b) hside;refine⟨v,?_,hrel⟩;show((do loadVar t (←asAddr (a.tmps.getD b undef)):Sem Value)).run P w=_;generalize a.tmps.getD b undef=ad at hv⊢;simp only[Instr.loadAt,Sem.run_bind]at hv;simp only[Sem.run_bind];cases ad with
   |pointer p =>
    cases p with
    |none=>simp[Instr.sureAddr]at hv
    |some p=>simpa[Instr.sureAddr,asAddr]using hv
   |_=>simp[Instr.sureAddr]at hv
 obtain⟨g,hg⟩:∃g:ResultVar→Value,∀r,r∈fn.results.toList→((match r with
   | .tmp t=>pure (a.tmps.getD t undef)
   | .cell b t=>do loadVar t (←asAddr (a.tmps.getD b undef)):Sem Value)).run P w=.ok (g r) w∧Rel c (resSV P e r).val (g r):=by
  refine⟨fun r=>if hr:r∈fn.results.toList then(one r hr).choose else undef,fun r hr=>?_⟩;simp only[dif_pos hr];exact(one r hr).choose_spec
 have hm:=run_mapM_array (P:=P) (w:=w) (f:=fun r=>(match r with
   | .tmp t=>pure (a.tmps.getD t undef)
   | .cell b t=>do loadVar t (←asAddr (a.tmps.getD b undef)):Sem Value)) (g:=g) fn.results (fun r hr=>(hg r hr).1)
 have hrun:(results fn a.tmps).run P w=.ok (if h:(fn.results.map g).size=1 then(fn.results.map g)[0]else .tuple (fn.results.map g)) w:=by
  unfold results;rw[Sem.run_bind];erw[hm];rfl
 refine⟨_,hrun,?_⟩;by_cases h1:(fn.results.map g).size=1
 ·rw[dif_pos h1];have h1':fn.results.toList.length=1:=by simpa using h1
  obtain⟨r,hr⟩:=List.length_eq_one_iff.1 h1';have h0:fn.results = #[r]:=Array.ext' hr;simp only[hr,List.map_cons,List.map_nil,mkRes];have:(fn.results.map g)[0]=g r:=by simp[h0]
  rw[this];exact(hg r (by simp[hr])).2
 ·rw[dif_neg h1];have hmk:mkRes (fn.results.toList.map fun r=>(resSV P e r).val)=.tuple (fn.results.toList.map fun r=>(resSV P e r).val):=by
   generalize hl:fn.results.toList=l;have hne:l.length≠1:=by rw[←hl];simpa using h1
   match l,hne with
   | [],_=>rfl
   | [x],h=>exact(h rfl).elim
   |x::y::l,_=>rfl
  rw[hmk];refine .tuple _ _ (by simp) fun j x v hx hv=>?_;simp only[List.getElem?_map,Option.map_eq_some_iff]at hx;obtain⟨r,hr,rfl⟩:=hx;simp only[Array.getElem?_map,Option.map_eq_some_iff]at hv;obtain⟨r',hr',rfl⟩:=hv;have:r=r':=by simpa[hr']using hr.symm
  subst this;exact(hg r (List.mem_of_getElem? hr)).2
theorem sim_enter{N:Nat}{c:Ctx}{h:qab}{w:World}(hs:HSim c h w){args:List AV}{vs:Array Value}(ha:RelL c args vs)(hN:args.length≤N) :
  Sim N c ⟨qdz 0 args,h⟩ { tmps:=vs++Array.replicate (N - vs.size) undef,defers:=[] } w:=by
 refine⟨rfl,by simp[ha.1];omega,fun i=>?_,hs⟩;rw[lookT_slots,if_pos (Nat.zero_le _),Nat.sub_zero];by_cases hi:i<args.length
 ·have hi':i<vs.size:=by rw[ha.1];exact hi
  have e1:args[i]?=some args[i]:=by simp[hi]
  rw[e1];simp only[Option.getD_some];have e2:(vs++Array.replicate (N - vs.size) undef).getD i undef=vs[i]:=by
   rw[Array.getD_eq_getD_getElem?,Array.getElem?_append_left hi'];simp[hi']
  rw[e2];exact ha.2 i _ _ e1 (by simp[hi'])
 ·rw[List.getElem?_eq_none (by omega)];exact .top _
theorem acalls_intro{f:FuncId}{fn:Func}{code:Code}{args:List AV}{h:qab}{R:AEnd→qab→Prop}(hf:P.funcs[f]?=some fn)(hb:fn.body=some code)(hnm:(fn.name == "runtime.NumGoroutine")=false)(hN:args.length≤fn.ntmps)
  (body:∀E:Ent,E.N=fn.ntmps→E.h=h→hUnder h.length h=true→AWp P E code (fnPost P fn.results.toList h.length R) ⟨qdz 0 args,h⟩):ACalls P f args h R:=by
 refine⟨⟨fn,hf,by rw[hb];rfl,hnm⟩,fun c w vs hs ha=>?_⟩;have ok0:=Ent.ok.refl fn.ntmps hs;refine calls_of_wp hf hb (wp_mono (body ⟨fn.ntmps,c,h,w⟩ rfl rfl hs.hUnder c _ w ⟨rfl,by simp[ha.1];omega,fun i=>?_,hs⟩ ok0) ?_)
 ·rw[lookT_slots,if_pos (Nat.zero_le _),Nat.sub_zero];by_cases hi:i<args.length
  ·have hi':i<vs.size:=by rw[ha.1];exact hi
   have e1:args[i]?=some args[i]:=by simp[hi]
   rw[e1];simp only[Option.getD_some];have e2:(vs++Array.replicate (fn.ntmps - vs.size) undef).getD i undef=vs[i]:=by
    rw[Array.getD_eq_getD_getElem?,Array.getElem?_append_left hi'];simp[hi']
   rw[e2];exact ha.2 i _ _ e1 (by simp[hi'])
  ·rw[List.getElem?_eq_none (by omega)];exact .top _
 ·rintro ex a' w' ⟨x',e',c',hq,hx,hs',ok'⟩;have fin:∀e'':Exit,(e''=.ret∨e''=.normal)→RetOk P fn.results.toList h.length R e'→bodyPost P fn (fun e w'=>∃r h' c',R r h'∧EndR c' r e∧HSim c' h' w'∧(⟨0,c,h,w⟩:Ent).ok c' h' w') e'' a' w':=by
   rintro e'' he ⟨hside,r',h',h1,h2,h3,h4,h5,hR⟩;obtain⟨v,hv,hr⟩:=results_ok (E:=⟨fn.ntmps,c,h,w⟩) (P:=P) hs' fn hside;obtain⟨c2,g1,g2,g3⟩:=finish (E:=⟨fn.ntmps,c,h,w⟩) hs' ok' hr h1 h2 h3 h4 h5;rcases he with rfl|rfl
   ·exact⟨hs'.defers,v,hv,.ret r',h',c2,hR,g3,g1,g2.withN 0⟩
   ·exact⟨hs'.defers,v,hv,.ret r',h',c2,hR,g3,g1,g2.withN 0⟩
  cases x' with
  |normal=>cases ex<;>simp only[XR]at hx;exact fin _ (.inr rfl) hq
  |exit i=>exact hq.elim
  |ret=>cases ex<;>simp only[XR]at hx;exact fin _ (.inl rfl) hq
  |panic x =>
   cases ex with
   |panic ch =>
    cases ch with
    |nil=>simp[XR]at hx
    |cons p l =>
     cases l with
     |nil =>
      obtain⟨u,r,g⟩:=p;cases r<;>cases g<;>simp only[XR]at hx;obtain⟨v',h',h1,h2,h3,h4,h5,hR⟩:=hq;obtain⟨c2,g1,g2,g3⟩:=finish (E:=⟨fn.ntmps,c,h,w⟩) hs' ok' hx h1 h2 h3 h4 h5;exact⟨hs'.defers,.panic v',h',c2,hR,g3,g1,g2.withN 0⟩
     |cons=>simp[XR]at hx
   |_=>simp[XR]at hx
def purePost(P:Program)(rs:List ResultVar)(r:AV)(h:qab):AExit→Env→Prop
 | .ret,e| .normal,e=>resSides P e rs∧(mkRes (rs.map fun r=>(resSV P e r).val)).norm e.h=r∧hwk e.h h
 |_,_=>False
theorem apure_intro{f:FuncId}{fn:Func}{code:Code}{args:List AV}{r:AV}(hf:P.funcs[f]?=some fn)(hb:fn.body=some code)(hnm:(fn.name == "runtime.NumGoroutine")=false)(hN:args.length≤fn.ntmps)(hr:r.under 0=true)
  (body:∀(E:Ent) (h:qab),E.N=fn.ntmps→E.h=h→hUnder h.length h=true→AWp P E code (purePost P fn.results.toList r h) ⟨qdz 0 args,h⟩):APure P f args r:=fun h =>
 acalls_intro hf hb hnm hN fun E hEN hEh hu=>(body E h hEN hEh hu).mono fun x e hq=>by
  cases x with
  |ret=>exact⟨hq.1,r,h,hq.2.1▸.refl _,AV.under_mono (Nat.zero_le _) r hr,hq.2.2,Nat.le_refl _,hu,rfl,rfl⟩
  |normal=>exact⟨hq.1,r,h,hq.2.1▸.refl _,AV.under_mono (Nat.zero_le _) r hr,hq.2.2,Nat.le_refl _,hu,rfl,rfl⟩
  |exit i=>exact hq.elim
  |panic v=>exact hq.elim
theorem acalls_pure{f:FuncId}{args:List AV}{r:AV}(h:APure P f args r){hp:qab}{R:AEnd→qab→Prop}(k:R (.ret r) hp):ACalls P f args hp R :=
 (h hp).mono fun e h' he=>by obtain⟨rfl,rfl⟩:=he;exact k
end
end Go.Abs

namespace Go.Abs
@[simp] theorem liftK_bool(b:Bool):liftK (.bool b)=.val (.bool b):=rfl
@[simp] theorem liftK_int(k:IntKind)(n:Int):liftK (.int k n)=.val (.int k n):=rfl
@[simp] theorem liftK_string(l:List UInt8)(h:l.length≤68719476736):liftK (.string ⟨l.toArray⟩)=.val (.string ⟨l.toArray⟩):=by
 have:(⟨l.toArray⟩:ByteArray).size≤68719476736:=by simpa[ByteArray.size]using h
 simp[liftK,liftC,this]
@[simp] theorem liftK_nilIface:liftK .nilIface=.val .nilIface:=rfl
@[simp] theorem liftK_nil:liftK (.slice none 0 0)=.nils:=rfl
@[simp] theorem liftK_agg(vs:List Value):liftK (.agg ⟨vs⟩)=match oneList vs with
  |true=>.agg (vs.map liftC)
  |false=>.val (.agg ⟨vs⟩):=rfl
@[simp] theorem liftC_bool(b:Bool):liftC (.bool b)=.val (.bool b):=rfl
@[simp] theorem liftC_int(k:IntKind)(n:Int):liftC (.int k n)=.val (.int k n):=rfl
@[simp] theorem liftC_string(l:List UInt8)(h:l.length≤68719476736):liftC (.string ⟨l.toArray⟩)=.val (.string ⟨l.toArray⟩):=by
 have:(⟨l.toArray⟩:ByteArray).size≤68719476736:=by simpa[ByteArray.size]using h
 simp[liftC,this]
@[simp] theorem liftC_nil:liftC (.slice none 0 0)=.nils:=rfl
@[simp] theorem then_normal(K:Env→Prop)(Q:AExit→Env→Prop)(e:Env):AExit.then K Q .normal e=K e:=rfl
@[simp] theorem then_ret(K:Env→Prop)(Q:AExit→Env→Prop)(e:Env):AExit.then K Q .ret e=Q .ret e:=rfl
@[simp] theorem then_exit(K:Env→Prop)(Q:AExit→Env→Prop)(i:Nat)(e:Env):AExit.then K Q (.exit i) e=Q (.exit i) e:=rfl
@[simp] theorem then_panic(K:Env→Prop)(Q:AExit→Env→Prop)(v:AV)(e:Env):AExit.then K Q (.panic v) e=Q (.panic v) e:=rfl
@[simp] theorem inBlock_normal(i:Nat)(Q:AExit→Env→Prop)(e:Env):AExit.inBlock i Q .normal e=Q .normal e:=rfl
@[simp] theorem inBlock_ret(i:Nat)(Q:AExit→Env→Prop)(e:Env):AExit.inBlock i Q .ret e=Q .ret e:=rfl
@[simp] theorem inBlock_exit(i j:Nat)(Q:AExit→Env→Prop)(e:Env):AExit.inBlock i Q (.exit j) e=if j=i then Q .normal e else Q (.exit j) e:=rfl
@[simp] theorem inBlock_panic(i:Nat)(Q:AExit→Env→Prop)(v:AV)(e:Env):AExit.inBlock i Q (.panic v) e=Q (.panic v) e:=rfl
@[simp] theorem hwk_self(h:qab):hwk h h=True:=eq_true (hwk.refl h)
@[simp] theorem hwk_more(h l:qab):hwk (h++l) h=True:=eq_true (hwk.app0 h)
@[simp] theorem wk_self(x:AV):x.Wk x=True:=eq_true (.refl x)
@[simp] theorem wk_top(x:AV):x.Wk .top=True:=eq_true (.top x)
@[simp] theorem wk_nils:AV.nils.Wk (.slice [])=True:=eq_true .nils
theorem pickV_true{y z:AV}:pickV (.val (.bool true)) y z=y.strip:=by
 unfold pickV;simp only[AV.strip];split<;>simp_all
theorem pickV_false{y z:AV}:pickV (.val (.bool false)) y z=z.strip:=by
 unfold pickV;simp only[AV.strip];split<;>simp_all
theorem pickV_o1{g:Bool}{v:Value}{y z:AV}:pickV (.opt g (.val v)) y z=pickV (.val v) y z:=rfl
theorem pickV_o2{g:Bool}{v:Value}{x z:AV}:pickV x (.opt g (.val v)) z=pickV x (.val v) z:=rfl
theorem pickV_o3{g:Bool}{v:Value}{x y:AV}:pickV x y (.opt g (.val v))=pickV x y (.val v):=rfl
theorem pickV_b{b p q:Bool}:pickV (.val (.bool b)) (.val (.bool p)) (.val (.bool q))=.val (.bool (bif b then p else q)):=rfl
@[simp] theorem RowsLen.nil(sz:Nat):RowsLen sz []=True:=eq_true (fun _ h=>by cases h)
@[simp] theorem RowsLen.cons(sz:Nat)(r:List AV)(l:List (List AV)):RowsLen sz (r::l)=(r.length=sz∧RowsLen sz l):=by simp[RowsLen]
@[simp] theorem RowsLen.map{α:Type}(sz:Nat)(f:α→List AV)(l:List α)(h:∀x,(f x).length=sz):RowsLen sz (l.map f)=True:=by simp[RowsLen,h]
@[simp] theorem RowsLen.take(sz n:Nat)(l:List (List AV))(h:RowsLen sz l):RowsLen sz (l.take n)=True:=eq_true (fun r hr=>h r (List.mem_of_mem_take hr))
@[simp] theorem RowsLen.drop(sz n:Nat)(l:List (List AV))(h:RowsLen sz l):RowsLen sz (l.drop n)=True:=eq_true (fun r hr=>h r (List.mem_of_mem_drop hr))
@[simp] theorem RowsLen.app(sz:Nat)(l l':List (List AV)):RowsLen sz (l++l')=(RowsLen sz l∧RowsLen sz l'):=by
 simp only[RowsLen,List.mem_append,eq_iff_iff];exact⟨fun h=>⟨fun r hr=>h r (.inl hr),fun r hr=>h r (.inr hr)⟩,fun h r hr=>hr.elim (h.1 r) (h.2 r)⟩
@[simp] theorem take_map_len{α β:Type}(f:α→β)(l:List α):(l.map f).take l.length=l.map f:=List.take_of_length_le (by simp)
attribute [go_sem] pickV_true pickV_false pickV_o1 pickV_o2 pickV_o3 pickV_b
attribute [go_sem] oneList opsF stepF gB qee isEff qbp optV Env.put qaw Env.get AV.has Env.getS AV.strip qbb qdz opEff pickOk Op.operands Call.operands
 aInt aStr aBin fitA eqA aLookup AV.isInt AV.isIface aLoad aLoadAt aField qd8 aIndex aLen boundAV aSlice aMin aMin3 aMax aConv aAssert TK.agg AV.cells AV.cellsOk AV.one AV.isData litRows litOne srcRows aAppend aAppend0 fillL places SV.no Value.oneCell'
 purePost fnPost RetOk PanOk resSides resSV mkRes AV.norm qbi AV.under qao wkT wkL
end Go.Abs
