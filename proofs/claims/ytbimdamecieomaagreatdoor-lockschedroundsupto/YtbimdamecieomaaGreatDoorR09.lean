/- Part 9 of a proof. -/
import Derived.Test.YtbimdamecieomaaGreatDoorR08
set_option linter.all false
namespace Go.Abs
section
variable {P:Program} {E:Ent}
theorem xgx{c:Ctx}{e:Env}{a:Act}{w:World}(s:Sim E.N c e a w)(k:E.ok c e.h w){o:Oper}{K Kp:AV→gz→Prop}(h:qpf P e o.op K Kp){next:Act→World→Prop}{Q:Exit→Act→World→Prop}
  (vt:∀v h' c' w' u,K v h'→c.le c'→HSim c' h' w'→E.ok c' h' w'→Rel c' v u→next (a.put o.dst u) w')
  (qwp:∀v h' c' w' u,Kp v h'→c.le c'→HSim c' h' w'→E.ok c' h' w'→Rel c' v u→Q (.panic [⟨u,false,false⟩]) a w'):o.wp P a w next Q:=by
 have hev:∀o':Oper,o'=o→o'.op=o.op:=fun _ h=>by rw[h]
 cases jy:o.op with
 |box T x =>
  rw[jy]at h;obtain⟨ix,jm,hK⟩:=h;have hr:=qx s ix x ae;obtain⟨h1,h2⟩:=hr.cells jm;obtain⟨c',ig,s',k',hb⟩:=xrc s.hs k T h1 h2;exact wm (w':=w.alloc (.cells (a.eval x).cells T)) (v:=.pointer (some ⟨w.heap.size,0,none⟩)) qhe
   (vt _ _ _ _ _ hK ig s' k' (.ptr _ _ _ hb))
 |alloc T =>
  rw[jy]at h;obtain⟨hk,hK⟩:=h;obtain⟨i,d,z,h1,h2,h3,h4,h5,h6,h7,h8⟩:=lj (P:=P) (t:=T) rfl hk;rw[h6]at hK;obtain⟨g1,g2⟩:=xks c h8;obtain⟨c',ig,s',k',hb⟩:=xrc s.hs k T g1 g2;have hzv:(zeroValue T).run P w=.ok z w:=qh2;exact wm (w':=w.alloc (.cells z.cells T)) (v:=.pointer (some ⟨w.heap.size,0,none⟩)) qg9
   (vt _ _ _ _ _ hK ig s' k' (.ptr _ _ _ hb))
 |store T ad x =>
  rw[jy]at h;obtain⟨ix,h⟩:=h;have x9:=qx s ix ad ae;have l8:=qx s ix x ae;split at h
  ·rename_i i off hga;rw[hga]at x9;split at h
   ·rename_i xs hi;obtain⟨jm,jq,hk,ig,hK⟩:=h;obtain⟨b,zw,hb⟩:=qv8 x9;obtain⟨h1,h2⟩:=l8.cells jm;obtain⟨b',vs,T',g1,g2,g3,g4⟩:=s.hs.obj i _ hi;rw[hb]at g1;cases g1;obtain⟨iT,d,z,t1,t2,t3,t4,t5,_⟩:=lj (P:=P) (t:=T) rfl hk;have m7:∀v,v∈(a.eval x).cells.toList→v.oneCell'=true:=fun v hv=>by
     obtain⟨j,hj⟩:=dv hv;have ib:j<(e.getS x).cells.length:=by rw[←h1];have:=(cq.1 hj).1;simpa using this
     exact(h2 j _ v qi0 bf).2
    have jx:=run_storeCells_at P b off T' (a.eval x).cells.toList 0 vs w g2 (by simp[h1,g3];omega) m7;simp only[d6]at jx;have pr:(a.eval x).cells.size=iT.size:=by rw[h1,jq,t5]
    have mj:(execOp a.eval o).run P w=.ok .skip (w.setRow b (vs.toList.take off++(a.eval x).cells.toList++vs.toList.drop (off+(a.eval x).cells.toList.length)).toArray):=by
     simp only[execOp,jy,Instr.storeAt,zw,Instr.sureAddr,storeVar,dh,dy,dj,z8 t1,pr,ne_eq,not_true_eq_false,if_false,jx]
    have ym:qsa c (xs.take off++(e.getS x).cells++xs.drop (off+(e.getS x).cells.length)) (vs.toList.take off++(a.eval x).cells.toList++vs.toList.drop (off+(a.eval x).cells.toList.length)).toArray:=by
     have hl2:(a.eval x).cells.toList.length=(e.getS x).cells.length:=av;refine⟨qjy,fun j y v hy hv=>?_⟩;have ph:(vs.toList.take off++(a.eval x).cells.toList++vs.toList.drop (off+(a.eval x).cells.toList.length))[j]?=some v:=bx;rw[hl2]at ph;by_cases y6:j<off
     ·rw[dr,cu am,dx,if_pos y6]at hy;rw[dr,cu am,dx,if_pos y6]at ph;exact g4 j y v hy qht
     ·by_cases hj2:j<off+(e.getS x).cells.length
      ·rw[dr,cy am,cu am]at hy;rw[dr,cy am,cu am]at ph;have m1:min off xs.length=off:=aa;have m2:min off vs.size=off:=aa;simp only[du,m1]at hy;simp only[du,qlq,m2]at ph;exact h2 _ y v hy qht
      ·rw[cy am,ez]at hy;rw[cy (by simp[h1];omega),ez]at ph;simp only[cz,du]at hy;simp only[cz,du,qlq,h1]at ph;rw[show off+(e.getS x).cells.length+(j - (min off xs.length+(e.getS x).cells.length))=j from by omega]at hy;rw[show off+(e.getS x).cells.length+(j - (min off vs.size+(e.getS x).cells.length))=j from by omega]at ph;exact g4 j y v hy qht
    obtain⟨s',k'⟩:=xuv s.hs k hi hb g2 ym.1 ym.2;exact xbb mj (vt _ _ _ _ _ hK (.refl c) s' k' (.top _))
   ·exact h.elim
  ·rename_i i n sz r q hga;rw[hga]at x9;split at h
   ·rename_i tt kl rows hi;obtain⟨hn,rfl,hr,jm,qpe,jq,hk,ig,hK⟩:=h;obtain⟨w',mj,s',k'⟩:=jol (P:=P) (E:=E) s.hs k jy x9 l8 hi hn hr jm qpe jq hk ig;exact xbb mj (vt _ _ _ _ _ hK (.refl c) s' k' (.top _))
   ·rename_i tt kl rows hi;obtain⟨hn,rfl,hr,jm,jq,hk,ig,hK⟩:=h;obtain⟨w',mj,s',k'⟩:=jnj (P:=P) (E:=E) s.hs k jy x9 l8 hi hn hr jm jq hk ig;exact xbb mj (vt _ _ _ _ _ hK (.refl c) s' k' (.top _))
   ·exact h.elim
  ·exact h.elim
 |buildSlice T n parts =>
  rw[jy]at h;simp only[qpf]at h;split at h
  ·rename_i el sz hk;split at h
   ·rename_i rows hr;obtain⟨ix,hn,kq,yx,oh,jq,hK⟩:=h;have jz:=qx s ix;obtain⟨v,w',c',jx,ig,s',k',je⟩:=xoe (P:=P) (E:=E) s.hs k hk (parts:=parts.toList.map fun p=>(p.1,e.getS p.2)) (qs:=parts.map fun p=>(p.1,a.eval p.2)) ae (fun j p q hp hq=>by
     simp only[dq,dn]at hp;obtain⟨x,hx,rfl⟩:=hp;simp only[gv,dn]at hq;obtain⟨y,hy,rfl⟩:=hq;have:x=y:=qh0;subst this;exact⟨rfl,jz x.2 (dk.2 ⟨x,c7 hx,rfl⟩)⟩) hr hn kq yx oh jq
    exact wm qfi (vt _ _ _ _ _ hK ig s' k' je)
   ·split at h
    ·rename_i cs hr;obtain⟨ix,kq,yx,oh,jq,hK⟩:=h;have jz:=qx s ix;obtain⟨v,w',c',jx,ig,s',k',je⟩:=xqc (P:=P) (E:=E) s.hs k hk (parts:=parts.toList.map fun p=>(p.1,e.getS p.2)) (qs:=parts.map fun p=>(p.1,a.eval p.2)) ae (fun j p q hp hq=>by
      simp only[dq,dn]at hp;obtain⟨x,hx,rfl⟩:=hp;simp only[gv,dn]at hq;obtain⟨y,hy,rfl⟩:=hq;have:x=y:=qh0;subst this;exact⟨rfl,jz x.2 (dk.2 ⟨x,c7 hx,rfl⟩)⟩) hr kq yx oh jq
     exact wm qfi (vt _ _ _ _ _ hK ig s' k' je)
    ·exact h.elim
  ·exact h.elim
 |call cl =>
  obtain⟨callee,args,argTypes⟩:=cl;rw[jy]at h;cases callee with
  |value f =>
   obtain⟨ix,h⟩:=h;split at h
   ·rename_i fid first caps hf
    exact xk5 (E:=E) s k jy ix hf h (fun v h' c' w' u hR=>vt v h' c' w' u hR) (fun v h' c' w' u hR=>qwp v h' c' w' u hR)
   ·exact h.elim
  |invoke r m=>exact h.elim
  |builtin b =>
   cases b with
   |append =>
    simp only[qpf]at h;split at h
    ·rename_i x y T T' hx hT;obtain rfl:args = #[x,y]:=gu hx;obtain rfl:argTypes = #[T,T']:=gu hT;obtain⟨ix,rfl,hA⟩:=h;have l8:=qx s ix x ae;have hry:=qx s ix y ae;obtain⟨r,h',v',w',c',hK,jx,ig,s',k',hr⟩:=jkm (P:=P) (ty:=o.type) s.hs k l8 hry hA;exact wm (by simp only[execOp,jy,resolve,invoke,builtin,dh,dy,dj,ql2,c8,e6,jx]) (vt _ _ _ _ _ hK ig s' k' hr)
    ·exact h.elim
   |delete =>
    simp only[qpf]at h;split at h
    ·rename_i m key T T' hx hT;obtain rfl:args = #[m,key]:=gu hx;obtain rfl:argTypes = #[T,T']:=gu hT;obtain⟨ix,h⟩:=h;have hrm:=qx s ix m ae;have hrk:=qx s ix key ae;split at h
     ·rename_i kt et i st hk hm qyt;split at h
      ·rename_i es hes;split at h
       ·rename_i l hl;obtain⟨hK,hF⟩:=h;obtain rfl:=xfq hl;rw[hm]at hrm;rw[qyt]at hrk;obtain⟨w',jx,s',k'⟩:=jmo (P:=P) (T':=T') (ty:=o.type) (key:=st) s.hs k hk hK hrm hes;exact wm (by simp only[execOp,jy,resolve,invoke,builtin,dh,dy,dj,ql2,c8,e6,hrk.val_inv,jx]) (vt _ _ _ _ _ hF (.refl c) s' k' (.tuple [] #[] rfl (fun j x v hx=>by simp at hx)))
       ·exact h.elim
      ·exact h.elim
     ·exact h.elim
    ·exact h.elim
   |_=>exact h.elim
 |range T x =>
  rw[jy]at h;obtain⟨ix,h⟩:=h;have l8:=qx s ix x ae;split at h
  ·rename_i st hk hx;rw[hx]at l8;obtain⟨c',ig,s',k',sn⟩:=jdw s.hs k st;exact wm (by simp only[execOp,jy,l8.val_inv,dh,jna (xdf hk),dy,dj]) (vt _ _ _ _ _ h ig s' k' (.ptr _ _ _ sn))
  ·exact h.elim
 |next x isStr =>
  rw[jy]at h;cases isStr with
  |false=>exact h.elim
  |true =>
   obtain⟨ix,h⟩:=h;have l8:=qx s ix x ae;split at h
   ·rename_i i hx;rw[hx]at l8;obtain⟨b,zw,hb⟩:=qv8 l8;split at h
    ·rename_i st p hi;obtain⟨b',g1,g2⟩:=s.hs.obj i _ hi;rw[hb]at g1;cases g1;have jx:=jkc (P:=P) g2 o.type;split at h
     ·rename_i hp;rw[if_pos hp]at jx;obtain⟨s',k'⟩:=jnq (p':=p+(Utf8.decode st p).2) s.hs k hi hb g2;refine wm (v:=.tuple #[.bool true,goInt p,.int .i32 (Utf8.decode st p).1]) qib (vt _ _ _ _ _ h (.refl c) s' k' (.tuple _ _ ae fun j y v hy hv=>?_))
      match j with
      | 0=>simp at hy hv;subst hy;subst hv;exact .val _
      | 1=>simp at hy hv;subst hy;subst hv;exact .val _
      | 2=>simp at hy hv;subst hy;subst hv;exact .val _
      |j+3=>simp at hy
     ·rename_i hp;rw[if_neg hp]at jx;refine wm (v:=.tuple #[.bool false]) qib (vt _ _ _ _ _ h (.refl c) s.hs k (.tuple _ _ ae fun j y v hy hv=>?_))
      match j with
      | 0=>simp at hy hv;subst hy;subst hv;exact .val _
      |j+1=>simp at hy
    ·exact h.elim
   ·exact h.elim
 |panic x =>
  rw[jy]at h;obtain⟨ix,hi,hF⟩:=h;have l8:=qx s ix x ae;have hv:∃t u,a.eval x=.iface t u:=by
   revert hi l8
   generalize e.getS x=y;generalize a.eval x=u;intro hi l8;cases y<;>simp only[AV.isIface]at hi<;>first|(cases hi;done)|skip
   cases l8 with
   |data h=>cases h
   |iface t y u h=>exact⟨_,_,rfl⟩
  obtain⟨t,u,hv⟩:=hv;have jx:(execOp a.eval o).run P w=.halt (.panic (a.eval x)) w:=by
   simp only[execOp,jy,hv,dh];rfl
  unfold Oper.wp;rw[jx,Oper.upon_panic];exact qwp _ _ _ _ _ hF (.refl c) s.hs k l8
 |makeMap T r =>
  rw[jy]at h;simp only[qpf]at h;split at h
  ·rename_i kt et hk;obtain⟨hr,hF⟩:=h;obtain⟨c',ig,s',k',sn⟩:=jb5 s.hs k;have jx:(Instr.makeMap T (r.map a.eval)).run P w=.ok (.map (some w.heap.size)) (w.alloc (.map #[] 0)):=run_makeMap (xdy hk) _ fun v hv=>by
    simp only[dn]at hv;obtain⟨x,rfl,rfl⟩:=hv;obtain⟨ix,hint⟩:=hr;have l8:=qx s ix x ae
    revert hint l8
    generalize e.getS x=y;intro hint l8;unfold AV.isInt at hint;split at hint
    ·exact⟨_,_,l8.val_inv⟩
    ·cases hint
   exact wm qfi (vt _ _ _ _ _ hF ig s' k' (.mapr _ _ sn))
  ·exact h.elim
 |mapUpdate T m key x =>
  rw[jy]at h;obtain⟨ix,h⟩:=h;have hrm:=qx s ix m ae;have hrk:=qx s ix key ae;have l8:=qx s ix x ae;split at h
  ·rename_i kt et i st hk hm qyt;split at h
   ·rename_i es hes;split at h
    ·rename_i l hl;obtain⟨hK,hF⟩:=h;obtain rfl:=xfq hl;rw[hm]at hrm;rw[qyt]at hrk;obtain⟨w',jx,s',k'⟩:=jls (P:=P) (key:=st) s.hs k hk hK hrm l8 (qsm hrk) hes;exact xbb (by simp only[execOp,jy,hrk.val_inv,dh,jx,dy,dj]) (vt _ _ _ _ _ hF (.refl c) s' k' (.top _))
    ·exact h.elim
   ·exact h.elim
  ·exact h.elim
 |_=>rw[jy]at h;exact h.elim
theorem xe2{ops:Array Oper}{Q:Exit→Act→World→Prop}{next:Act→World→Prop}{o:Oper}{a:Act}{w:World}{G:Bool}(hw:Region.wanted o (yielded ops a.tmps)=G)(h1:G=true→o.wp P a w next Q)(h2:G=false→next (a.put o.dst undef) w) :
  if Region.wanted o (yielded ops a.tmps)then o.wp P a w next Q∨(o.asks P a w∧LetsOut Q)else next (a.put o.dst undef) w:=by
 cases G with
 |true=>rw[if_pos hw];exact .inl (h1 rfl)
 |false=>rw[if_neg (by rw[hw];simp)];exact h2 rfl
theorem xku{Q:AExit→Env→Prop}{Qc:Exit→Act→World→Prop}{ops:Array Oper}{ds:List (Option Tmp)}{o:Oper}{e:Env}{K:Env→Prop}(h:qux P E.N Q ds o e K){c:Ctx}{a:Act}{w:World}(quc:∀G,gB ds e o.guard=some G→Region.wanted o (yielded ops a.tmps)=G)
  (s:Sim E.N c e a w) (k:E.ok c e.h w) {nx:Act→World→Prop} (hpn:∀v e' c' a' w' u,Q (.panic v) e'→Rel c' v u→Sim E.N c' e' a' w'→E.ok c' e'.h w'→Qc (.panic [⟨u,false,false⟩]) a' w') (hnx:∀e' c' a' w',K e'→Sim E.N c' e' a' w'→E.ok c' e'.h w'→nx a' w') :
  if Region.wanted o (yielded ops a.tmps)then o.wp P a w nx Qc∨(o.asks P a w∧LetsOut Qc)else nx (a.put o.dst undef) w:=by
 have next:∀(e':Env) (c':Ctx) (w':World) (v:AV) (u:Value),K (({ e with h:=e'.h }:Env).put o.dst v)→yw E.N o.dst→c.le c'→HSim c' e'.h w'→E.ok c' e'.h w'→Rel c' v u →
   nx (a.put o.dst u) w':=fun e' c' w' v u hF hd ig jd kb hr =>
  hnx _ c' _ w' hF (s.put ig jd (qxy hd) hr) (by cases o.dst<;>exact kb)
 unfold qux at h;split at h
 ·exact h.elim
 ·rename_i G hG;obtain⟨hd,h⟩:=h;have hw:=quc G hG
  -- what a quiet operation leaves
  have quiet:∀(v:AV) (k':G=true→∃u,(execOp a.eval o).run P w=.ok (.value u) w∧Rel c v u),K (e.put o.dst (q8 o.guard G v))→(if Region.wanted o (yielded ops a.tmps)then o.wp P a w nx Qc∨(o.asks P a w∧LetsOut Qc)else nx (a.put o.dst undef) w):=by
   intro v hv hF;refine xe2 hw (fun hGt=>?_) (fun hGf=>?_)
   ·obtain⟨u,hu,hr⟩:=hv hGt;refine wm hu (next e c w (q8 o.guard G v) u hF hd (.refl c) s.hs k ?_);unfold q8;split
    ·exact hr
    ·exact .opt _ _ _ (fun _=>hr) (fun hf=>by rw[hGt]at hf;cases hf)
   ·refine next e c w (q8 o.guard G v) undef hF hd (.refl c) s.hs k ?_
    unfold q8;split
    ·rename_i hg;rw[hg]at hG;simp only[gB,d7]at hG;rw[←hG]at hGf;cases hGf
    ·exact .opt _ _ _ (fun ht=>by rw[hGf]at ht;cases ht) (fun _=>rfl)
  split at h
  ·rename_i x y z jy;obtain⟨hp,hF⟩:=h;refine quiet _ (fun hGt=>?_) hF;rw[hGt]at hp;obtain⟨b,hb,hr⟩:=xq0 (s.eval x) (s.eval y) (s.eval z) hp;refine⟨_,?_,hr⟩;simp only[execOp,jy,hb,asBool,dh,dy,dj]
  ·split at h
   ·rename_i heff hgd;obtain⟨iq,hF⟩:=h;refine quiet _ (fun hGt=>?_) (by first|exact hF|(rw[hgd];exact hF));obtain⟨ix,jd⟩:=iq hGt;exact xrl s.hs (qx s ix) jd
   ·rename_i heff hgd;rw[hgd]at hG;simp only[gB,d7]at hG;refine xe2 hw (fun hGt=>?_) (fun hGf=>by rw[←hG]at hGf;cases hGf);refine xgx s k h (fun v h' c' w' u hK ig jd kb hr=>next ⟨e.t,h'⟩ c' w' v u hK hd ig jd kb hr) (fun v h' c' w' u hK ig jd kb hr=>?_);exact hpn v _ c' _ _ u hK hr ⟨s.defers,s.size,fun i=>(s.tmps i).mono ig,jd⟩ kb
   ·rename_i heff hgd;split at h
    ·rename_i f args ts jy;split at h
     ·rename_i fid first caps hf
      rcases h with⟨r,hr,hF⟩|⟨hGt0,ix,hp⟩
      ·refine xe2 hw (fun hGt=>?_) (fun hGf=>?_)
       ·obtain⟨ix,hp⟩:=hr hGt;refine xk5 (E:=E) s k jy ix hf (hp e.h) (fun v h' c' w' u hR ig jd kb hru=>?_) (fun v h' c' w' u hR=>by cases hR.1);obtain⟨h1,rfl⟩:=hR;cases h1;exact next e c' w' _ u hF hd ig jd kb (.opt _ _ _ (fun _=>hru) (fun hf=>by rw[hGt]at hf;cases hf))
       ·exact next e c w _ undef hF hd (.refl c) s.hs k (.opt _ _ _ (fun ht=>by rw[hGf]at ht;cases ht) (fun _=>rfl))
      ·refine xe2 hw (fun _=>?_) (fun hGf=>by rw[hGt0]at hGf;cases hGf);refine xk5 (E:=E) s k jy ix hf hp (fun v h' c' w' u hR ig jd kb hru=>?_) (fun v h' c' w' u hR ig jd kb hru=>?_)
       ·exact next ⟨e.t,h'⟩ c' w' _ u hR hd ig jd kb (.opt _ _ _ (fun _=>hru) (fun hf=>by cases hf))
       ·exact hpn v _ c' _ _ u hR hru ⟨s.defers,s.size,fun i=>(s.tmps i).mono ig,jd⟩ kb
     ·exact h.elim
    ·exact h.elim
theorem xgc{Q:AExit→Env→Prop}{ops:Array Oper}{ds:List (Option Tmp)}{o:Oper}{e:Env}{K:Env→Prop}(h:qux P E.N Q ds o e K){c:Ctx}{a:Act}{w:World}(quc:∀G,gB ds e o.guard=some G→Region.wanted o (yielded ops a.tmps)=G)
  (s:Sim E.N c e a w) (k:E.ok c e.h w) {nx:Act→World→Prop} (hnx:∀e' c' a' w',K e'→Sim E.N c' e' a' w'→E.ok c' e'.h w'→nx a' w') :
  if Region.wanted o (yielded ops a.tmps)then o.wp P a w nx (qna E Q)∨(o.asks P a w∧LetsOut (qna E Q))else nx (a.put o.dst undef) w :=
 xku h quc s k (fun v _ c' _ _ _ hq hr hs hk=>⟨.panic v,_,c',hq,hr,hs,hk⟩) hnx
theorem xf{Q:AExit→Env→Prop}{ops:Array Oper}:∀(l:List Oper) (done:List Oper) (e:Env),ops.toList=done++l→qpm P E.N Q (done.map (·.dst)) l e→qrb P E ops l Q e
 | [],done,e,_,h=>xsw h
 |o::l,done,e,te,h=>by
  have ih:=fun e'=>xf (Q:=Q) (ops:=ops) l (done++[o]) e' qjr;simp only[dz,c8,e6]at ih;intro c a w s k;simp only[qpm]at h;exact xgc h (fun G hG=>qx8 te s hG) s k fun e' c' a' w' hK s' k'=>ih e' hK c' a' w' s' k'
theorem ub{id:Nat}{l:List Oper}{Q:AExit→Env→Prop}{e:Env}(h:qpm P E.N Q [] l e):AWp P E (.region id l.toArray false) Q e :=
 xfx (xf l [] e ae bh)
end
section
variable {P:Program} {E:Ent}
def qes:Nat→List AV→List (Nat×AV)
 |_,[]=>[]
 |k,x::xs=>(k,x)::qes (k+1) xs
theorem xfr:∀{xs:List AV} {k i:Nat},kj (qes k xs) i=if k≤i then(xs[i - k]?).getD .top else .top
 | [],k,i=>by simp[qes,kj]
 |x::xs,k,i=>by
  simp only[qes,kj];by_cases h:k=i
  ·subst h;simp
  ·have:(k == i)=false:=bh;rw[this,cond_false,xfr];by_cases hk:k≤i
   ·rw[if_pos aa,if_pos hk,show i - k=(i - (k+1))+1 from by omega];simp
   ·rw[if_neg aa,if_neg hk]
def qs3(P:Program)(e:Env):ResultVar→SV
 | .tmp t=>⟨True,kj e.t t⟩
 | .cell a t=>qvy P t (kj e.t a) e.h
def qyf:List AV→AV
 | [x]=>x
 |xs=>.tuple xs
def qzy(P:Program)(e:Env):List ResultVar→Prop
 | []=>True
 |r::l=>(qs3 P e r).side∧qzy P e l
theorem xm0{e:Env}:∀{l:List ResultVar},qzy P e l→∀r,r∈l→(qs3 P e r).side
 | [],_,r,hr=>by cases hr
 |x::l,h,r,hr=>by
  cases hr with
  |head=>exact h.1
  |tail _ hr=>exact xm0 h.2 r hr
def qxk(P:Program)(rs:List ResultVar)(n0:Nat)(R:AEnd→gz→Prop)(e:Env):Prop :=
 qzy P e rs∧∃r' h',((qyf (rs.map fun r=>(qs3 P e r).val)).norm e.h).Wk r'∧r'.under h'.length=true∧hwk e.h h'∧n0≤h'.length∧hUnder h'.length h'=true∧R (.ret r') h'
def xt0(n0:Nat)(R:AEnd→gz→Prop)(v:AV)(e:Env):Prop :=
 ∃v' h',(v.norm e.h).Wk v'∧v'.under h'.length=true∧hwk e.h h'∧n0≤h'.length∧hUnder h'.length h'=true∧R (.panic v') h'
def qxr(P:Program)(rs:List ResultVar)(n0:Nat)(R:AEnd→gz→Prop):AExit→Env→Prop
 | .ret,e| .normal,e=>qxk P rs n0 R e
 | .panic v,e=>xt0 n0 R v e
 | .exit _,_=>False
theorem Ent.ok.withN{c:Ctx}{h:gz}{w:World}(k:E.ok c h w)(n:Nat):(⟨n,E.c,E.h,E.w⟩:Ent).ok c h w :=
 ⟨k.edom,k.ext,k.blk0,k.len,k.os,k.tape,k.output,k.size,k.frame,k.newobj,k.dold⟩
theorem finish{c:Ctx}{e:Env}{a:Act}{w:World}(s:Sim E.N c e a w)(k:E.ok c e.h w){x r':AV}{v:Value}(hr:Rel c x v){h':gz}(hw:(x.norm e.h).Wk r')(hu:r'.under h'.length=true)(hh:hwk e.h h')(hn:E.h.length≤h'.length)
  (hhu:hUnder h'.length h'=true):∃c',HSim c' h' w∧E.ok c' h' w∧Rel c' r' v:=by
 obtain⟨s1,k1⟩:=qx1 s.hs k;have hr1:=qep s.hs hr;have sim:Sim 1 (c.share e.h w) ⟨[(0,x.norm e.h)],e.h⟩ ⟨#[v],[]⟩ w:=⟨rfl,rfl,fun i=>by
  cases i with
  |zero=>simpa[kj]using hr1
  |succ i=>simp[kj];exact .top _,s1⟩
 obtain⟨c',s2,k2⟩:=Wk.mk (E:=⟨1,E.c,E.h,E.w⟩) (e:=⟨[(0,x.norm e.h)],e.h⟩) (e1:=⟨[(0,r')],h'⟩) hn hh hhu (by simp only[wkT,and_true];exact⟨by simpa[kj]using hw,hu⟩) _ _ _ sim (k1.withN 1);refine⟨c',s2.hs,⟨k2.edom,k2.ext,k2.blk0,k2.len,k2.os,k2.tape,k2.output,k2.size,k2.frame,k2.newobj,k2.dold⟩,?_⟩;have:=s2.tmps 0;simpa[kj]using this
open Classical in
theorem xey{c:Ctx}{e:Env}{a:Act}{w:World}(s:Sim E.N c e a w)(fn:Func)(hs:qzy P e fn.results.toList) :
  ∃v,(results fn a.tmps).run P w=.ok v w∧Rel c (qyf (fn.results.toList.map fun r=>(qs3 P e r).val)) v:=by
 have one:∀r,r∈fn.results.toList→∃v,((match r with
   | .tmp t=>pure (a.tmps.getD t undef)
   | .cell b t=>do loadVar t (←asAddr (a.tmps.getD b undef)):Sem Value)).run P w=.ok v w∧Rel c (qs3 P e r).val v:=by
  intro r hr;have iq:=xm0 hs r hr;cases r with
  |tmp t=>exact⟨_,rfl,s.tmps t⟩
  |cell b t =>
   obtain⟨v,hv,jz⟩:=xoc (P:=P) (t:=t) s.hs (s.tmps b) iq;refine⟨v,?_,jz⟩;show((do loadVar t (←asAddr (a.tmps.getD b undef)):Sem Value)).run P w=_;generalize a.tmps.getD b undef=ad at hv⊢;simp only[Instr.loadAt,dh]at hv;simp only[dh];cases ad with
   |pointer p =>
    cases p with
    |none=>simp[Instr.sureAddr]at hv
    |some p=>simpa[Instr.sureAddr,asAddr]using hv
   |_=>simp[Instr.sureAddr]at hv
 obtain⟨g,hg⟩:∃g:ResultVar→Value,∀r,r∈fn.results.toList→((match r with
   | .tmp t=>pure (a.tmps.getD t undef)
   | .cell b t=>do loadVar t (←asAddr (a.tmps.getD b undef)):Sem Value)).run P w=.ok (g r) w∧Rel c (qs3 P e r).val (g r):=by
  refine⟨fun r=>if hr:r∈fn.results.toList then(one r hr).choose else undef,fun r hr=>?_⟩;simp only[dif_pos hr];exact(one r hr).choose_spec
 have hm:=xs7 (P:=P) (w:=w) (f:=fun r=>(match r with
   | .tmp t=>pure (a.tmps.getD t undef)
   | .cell b t=>do loadVar t (←asAddr (a.tmps.getD b undef)):Sem Value)) (g:=g) fn.results (fun r hr=>(hg r hr).1)
 have jx:(results fn a.tmps).run P w=.ok (if h:(fn.results.map g).size=1 then(fn.results.map g)[0]else .tuple (fn.results.map g)) w:=by
  unfold results;rw[dh];erw[hm];rfl
 refine⟨_,jx,?_⟩;by_cases h1:(fn.results.map g).size=1
 ·rw[dif_pos h1];have ll:fn.results.toList.length=1:=av;obtain⟨r,hr⟩:=List.length_eq_one_iff.1 ll;have h0:fn.results = #[r]:=gu hr;simp only[hr,c8,e6,qyf];have:(fn.results.map g)[0]=g r:=cg;rw[this];exact(hg r qg0).2
 ·rw[dif_neg h1];have hmk:qyf (fn.results.toList.map fun r=>(qs3 P e r).val)=.tuple (fn.results.toList.map fun r=>(qs3 P e r).val):=by
   generalize hl:fn.results.toList=l;have ii:l.length≠1:=by rw[←hl];simpa using h1
   match l,ii with
   | [],_=>rfl
   | [x],h=>exact(h rfl).elim
   |x::y::l,_=>rfl
  rw[hmk];refine .tuple _ _ ae fun j x v hx hv=>?_;simp only[dq,dn]at hx;obtain⟨r,hr,rfl⟩:=hx;simp only[gv,dn]at hv;obtain⟨r',je,rfl⟩:=hv;have:r=r':=by simpa[je]using hr.symm
  subst this;exact(hg r (c7 hr)).2
theorem xfk{N:Nat}{c:Ctx}{h:gz}{w:World}(hs:HSim c h w){args:List AV}{vs:Array Value}(ha:RelL c args vs)(hN:args.length≤N) :
  Sim N c ⟨qes 0 args,h⟩ { tmps:=vs++Array.replicate (N - vs.size) undef,defers:=[] } w:=by
 refine⟨rfl,by simp[ha.1];omega,fun i=>?_,hs⟩;rw[xfr,if_pos (di _),Nat.sub_zero];by_cases hi:i<args.length
 ·have ke:i<vs.size:=by rw[ha.1];exact hi
  have e1:args[i]?=some args[i]:=qim;rw[e1];simp only[f9];have e2:(vs++Array.replicate (N - vs.size) undef).getD i undef=vs[i]:=by
   rw[ed,qlr ke];simp[ke]
  rw[e2];exact ha.2 i _ _ e1 (by simp[ke])
 ·rw[fa aa];exact .top _
theorem xh2{f:FuncId}{fn:Func}{code:Code}{args:List AV}{h:gz}{R:AEnd→gz→Prop}(hf:P.funcs[f]?=some fn)(hb:fn.body=some code)(u7:(fn.name == "runtime.NumGoroutine")=false)(hN:args.length≤fn.ntmps)
  (body:∀E:Ent,E.N=fn.ntmps→E.h=h→hUnder h.length h=true→AWp P E code (qxr P fn.results.toList h.length R) ⟨qes 0 args,h⟩):ACalls P f args h R:=by
 refine⟨⟨fn,hf,qju,u7⟩,fun c w vs hs ha=>?_⟩;have ok0:=Ent.ok.refl fn.ntmps hs;refine calls_of_wp hf hb (wp_mono (body ⟨fn.ntmps,c,h,w⟩ rfl rfl hs.hUnder c _ w ⟨rfl,by simp[ha.1];omega,fun i=>?_,hs⟩ ok0) ?_)
 ·rw[xfr,if_pos (di _),Nat.sub_zero];by_cases hi:i<args.length
  ·have ke:i<vs.size:=by rw[ha.1];exact hi
   have e1:args[i]?=some args[i]:=qim;rw[e1];simp only[f9];have e2:(vs++Array.replicate (fn.ntmps - vs.size) undef).getD i undef=vs[i]:=by
    rw[ed,qlr ke];simp[ke]
   rw[e2];exact ha.2 i _ _ e1 (by simp[ke])
  ·rw[fa aa];exact .top _
 ·rintro ex a' w' ⟨x',e',c',hq,hx,jd,ok'⟩;have fin:∀e'':Exit,(e''=.ret∨e''=.normal)→qxk P fn.results.toList h.length R e'→bodyPost P fn (fun e w'=>∃r h' c',R r h'∧EndR c' r e∧HSim c' h' w'∧(⟨0,c,h,w⟩:Ent).ok c' h' w') e'' a' w':=by
   rintro e'' he ⟨iq,r',h',h1,h2,h3,h4,h5,hR⟩;obtain⟨v,hv,hr⟩:=xey (E:=⟨fn.ntmps,c,h,w⟩) (P:=P) jd fn iq;obtain⟨c2,g1,g2,g3⟩:=finish (E:=⟨fn.ntmps,c,h,w⟩) jd ok' hr h1 h2 h3 h4 h5;rcases he with rfl|rfl
   ·exact⟨jd.defers,v,hv,.ret r',h',c2,hR,g3,g1,g2.withN 0⟩
   ·exact⟨jd.defers,v,hv,.ret r',h',c2,hR,g3,g1,g2.withN 0⟩
  cases x' with
  |normal=>cases ex<;>simp only[XR]at hx;exact fin _ (.inr rfl) hq
  |exit i=>exact hq.elim
  |ret=>cases ex<;>simp only[XR]at hx;exact fin _ (.inl rfl) hq
  |panic x =>
   cases ex with
   |panic ch =>
    cases ch with
    |nil=>simp[XR]at hx
    |cons p l =>
     cases l with
     |nil =>
      obtain⟨u,r,g⟩:=p;cases r<;>cases g<;>simp only[XR]at hx;obtain⟨v',h',h1,h2,h3,h4,h5,hR⟩:=hq;obtain⟨c2,g1,g2,g3⟩:=finish (E:=⟨fn.ntmps,c,h,w⟩) jd ok' hx h1 h2 h3 h4 h5;exact⟨jd.defers,.panic v',h',c2,hR,g3,g1,g2.withN 0⟩
     |cons=>simp[XR]at hx
   |_=>simp[XR]at hx
def xed(P:Program)(rs:List ResultVar)(r:AV)(h:gz):AExit→Env→Prop
 | .ret,e| .normal,e=>qzy P e rs∧(qyf (rs.map fun r=>(qs3 P e r).val)).norm e.h=r∧hwk e.h h
 |_,_=>False
theorem jfa{f:FuncId}{fn:Func}{code:Code}{args:List AV}{r:AV}(hf:P.funcs[f]?=some fn)(hb:fn.body=some code)(u7:(fn.name == "runtime.NumGoroutine")=false)(hN:args.length≤fn.ntmps)(hr:r.under 0=true)
  (body:∀(E:Ent) (h:gz),E.N=fn.ntmps→E.h=h→hUnder h.length h=true→AWp P E code (xed P fn.results.toList r h) ⟨qes 0 args,h⟩):APure P f args r:=fun h =>
 xh2 hf hb u7 hN fun E hEN hEh hu=>(body E h hEN hEh hu).mono fun x e hq=>by
  cases x with
  |ret=>exact⟨hq.1,r,h,hq.2.1▸.refl _,AV.under_mono (di _) r hr,hq.2.2,ct _,hu,rfl,rfl⟩
  |normal=>exact⟨hq.1,r,h,hq.2.1▸.refl _,AV.under_mono (di _) r hr,hq.2.2,ct _,hu,rfl,rfl⟩
  |exit i=>exact hq.elim
  |panic v=>exact hq.elim
theorem xnt{f:FuncId}{args:List AV}{r:AV}(h:APure P f args r){hp:gz}{R:AEnd→gz→Prop}(k:R (.ret r) hp):ACalls P f args hp R :=
 (h hp).mono fun e h' he=>by obtain⟨rfl,rfl⟩:=he;exact k
end
@[simp] theorem jr8(b:Bool):qqq (.bool b)=.val (.bool b):=rfl
@[simp] theorem jpl(k:IntKind)(n:Int):qqq (.int k n)=.val (.int k n):=rfl
@[simp] theorem jpv(l:List UInt8)(h:l.length≤68719476736):qqq (.string ⟨l.toArray⟩)=.val (.string ⟨l.toArray⟩):=by
 have:(⟨l.toArray⟩:ByteArray).size≤68719476736:=by simpa[ByteArray.size]using h
 simp[qqq,tr,this]
@[simp] theorem jrz:qqq .nilIface=.val .nilIface:=rfl
@[simp] theorem jo9:qqq (.slice none 0 0)=.nils:=rfl
@[simp] theorem jr7(vs:List Value):qqq (.agg ⟨vs⟩)=match xgj vs with
  |true=>.agg (vs.map tr)
  |false=>.val (.agg ⟨vs⟩):=rfl
@[simp] theorem jpm(b:Bool):tr (.bool b)=.val (.bool b):=rfl
@[simp] theorem jq8(k:IntKind)(n:Int):tr (.int k n)=.val (.int k n):=rfl
@[simp] theorem joo(l:List UInt8)(h:l.length≤68719476736):tr (.string ⟨l.toArray⟩)=.val (.string ⟨l.toArray⟩):=by
 have:(⟨l.toArray⟩:ByteArray).size≤68719476736:=by simpa[ByteArray.size]using h
 simp[tr,this]
@[simp] theorem jpz:tr (.slice none 0 0)=.nils:=rfl
@[simp] theorem jff(K:Env→Prop)(Q:AExit→Env→Prop)(e:Env):AExit.then K Q .normal e=K e:=rfl
@[simp] theorem jru(K:Env→Prop)(Q:AExit→Env→Prop)(e:Env):AExit.then K Q .ret e=Q .ret e:=rfl
@[simp] theorem jrg(K:Env→Prop)(Q:AExit→Env→Prop)(i:Nat)(e:Env):AExit.then K Q (.exit i) e=Q (.exit i) e:=rfl
@[simp] theorem jqm(K:Env→Prop)(Q:AExit→Env→Prop)(v:AV)(e:Env):AExit.then K Q (.panic v) e=Q (.panic v) e:=rfl
@[simp] theorem jpd(i:Nat)(Q:AExit→Env→Prop)(e:Env):AExit.inBlock i Q .normal e=Q .normal e:=rfl
@[simp] theorem jq3(i:Nat)(Q:AExit→Env→Prop)(e:Env):AExit.inBlock i Q .ret e=Q .ret e:=rfl
@[simp] theorem jo1(i j:Nat)(Q:AExit→Env→Prop)(e:Env):AExit.inBlock i Q (.exit j) e=if j=i then Q .normal e else Q (.exit j) e:=rfl
@[simp] theorem jre(i:Nat)(Q:AExit→Env→Prop)(v:AV)(e:Env):AExit.inBlock i Q (.panic v) e=Q (.panic v) e:=rfl
@[simp] theorem jor(h:gz):hwk h h=True:=eq_true (hwk.refl h)
@[simp] theorem jqv(h l:gz):hwk (h++l) h=True:=eq_true (hwk.app0 h)
@[simp] theorem jro(x:AV):x.Wk x=True:=eq_true (.refl x)
@[simp] theorem jqr(x:AV):x.Wk .top=True:=eq_true (.top x)
@[simp] theorem jqn:AV.nils.Wk (.slice [])=True:=eq_true .nils
theorem jbv{y z:AV}:qne (.val (.bool true)) y z=y.strip:=by
 unfold qne;simp only[AV.strip];split<;>simp_all
theorem xzp{y z:AV}:qne (.val (.bool false)) y z=z.strip:=by
 unfold qne;simp only[AV.strip];split<;>simp_all
theorem jhi{g:Bool}{v:Value}{y z:AV}:qne (.opt g (.val v)) y z=qne (.val v) y z:=rfl
theorem jog{g:Bool}{v:Value}{x z:AV}:qne x (.opt g (.val v)) z=qne x (.val v) z:=rfl
theorem jdy{g:Bool}{v:Value}{x y:AV}:qne x y (.opt g (.val v))=qne x y (.val v):=rfl
theorem jhg{b p q:Bool}:qne (.val (.bool b)) (.val (.bool p)) (.val (.bool q))=.val (.bool (bif b then p else q)):=rfl
@[simp] theorem RowsLen.nil(sz:Nat):RowsLen sz []=True:=eq_true (fun _ h=>by cases h)
@[simp] theorem RowsLen.cons(sz:Nat)(r:List AV)(l:List (List AV)):RowsLen sz (r::l)=(r.length=sz∧RowsLen sz l):=by simp[RowsLen]
@[simp] theorem RowsLen.map{α:Type}(sz:Nat)(f:α→List AV)(l:List α)(h:∀x,(f x).length=sz):RowsLen sz (l.map f)=True:=by simp[RowsLen,h]
@[simp] theorem RowsLen.take(sz n:Nat)(l:List (List AV))(h:RowsLen sz l):RowsLen sz (l.take n)=True:=eq_true (fun r hr=>h r (gc hr))
@[simp] theorem RowsLen.drop(sz n:Nat)(l:List (List AV))(h:RowsLen sz l):RowsLen sz (l.drop n)=True:=eq_true (fun r hr=>h r (qla hr))
@[simp] theorem RowsLen.app(sz:Nat)(l l':List (List AV)):RowsLen sz (l++l')=(RowsLen sz l∧RowsLen sz l'):=by
 simp only[RowsLen,dt,eq_iff_iff];exact⟨fun h=>⟨fun r hr=>h r (.inl hr),fun r hr=>h r (.inr hr)⟩,fun h r hr=>hr.elim (h.1 r) (h.2 r)⟩
@[simp] theorem jqc{α β:Type}(f:α→β)(l:List α):(l.map f).take l.length=l.map f:=fo ae
attribute [go_sem] jbv xzp jhi jog jdy jhg
attribute [go_sem] xgj qpm qux gB yw xcd qb q8 Env.put l6 Env.get AV.has Env.getS AV.strip kj qes qpf qzv Op.operands Call.operands
 xf0 xhp xby y9 eqA qwa AV.isInt AV.isIface qnq qvy xcn qe4 xcb qwk qxa xbx xb9 xbu xaz xax xbz TK.agg AV.cells AV.cellsOk AV.one AV.isData qrd qzq qz4 qvx qtq qyr qrf SV.no Value.oneCell'
 xed qxr qxk xt0 qzy qs3 qyf AV.norm kc AV.under nb wkT wkL
inductive DK where
 |quiet (rd:Option Nat)
 |fresh (xs:List AV)
 |store (i off:Nat) (cs:List AV)
structure DR where
 dst:Option Tmp
 res:AV
 k:DK
instance:Inhabited DR:=⟨⟨none,.top,.quiet none⟩⟩
def DR.next(r:DR)(e:Env):Env :=
 match r.k with
 | .fresh xs=>({ e with h:=e.h++[.cells xs] }:Env).put r.dst r.res
 |_=>e.put r.dst r.res
def qyn(e:Env):Op→Option Nat
 | .load _ a=>match e.getS a with
  | .ptr i _=>some i
  |_=>none
 |_=>none
def AObj.kept:AObj→Bool
 | .raw .. | .uarr .. | .oarr ..=>true
 |_=>false
def xvb(h h':gz):Prop:=∀(i:Nat) (o:AObj),o.kept=true→h[i]?=some o→h'[i]?=some o
def xbf(P:Program)(f:FuncId)(args:List AV)(r:AV)(h:gz):Prop:=∀h',xvb h h'→ACalls P f args h' fun e h''=>e=.ret r∧h''=h'
theorem APure.at{P:Program}{f:FuncId}{args:List AV}{r:AV}(k:APure P f args r)(h:gz):xbf P f args r h:=fun h' _=>k h'
def qtm:Op→Bool
 | .store ..=>true
 |_=>false
def uy(P:Program)(N:Nat)(ds:List (Option Tmp))(o:Oper)(e:Env)(K:DR→Prop):Prop :=
 match gB ds e o.guard with
 |none=>False
 |some G =>
  yw N o.dst ∧
  match o.op with
  | .pick x y z=>qzv G (e.get x) (e.get y) (e.get z)∧K ⟨o.dst,q8 o.guard G (qne (e.get x) (e.get y) (e.get z)),.quiet none⟩
  | .box _ x=>o.guard=none∧l6 e true [x]∧(e.getS x).cellsOk=true∧K ⟨o.dst,.ptr e.h.length 0,.fresh (e.getS x).cells⟩
  | .alloc T=>o.guard=none∧ij P T≠.other∧K ⟨o.dst,.ptr e.h.length 0,.fresh (jo P T)⟩
  | .store T a x=>o.guard=none∧o.dst=none∧l6 e true [a,x]∧ij P T≠.other∧(e.getS x).cellsOk=true∧(e.getS x).cells.length=iy P T ∧
   match e.getS a with
   | .ptr i off=>match e.h[i]? with
    |some (.cells xs)=>off+(e.getS x).cells.length≤xs.length∧K ⟨none,.top,.store i off (e.getS x).cells⟩
    |_=>False
   |_=>False
  | .buildSlice T n parts =>
   match ij P T with
   | .slice el sz=>match qrd e.h sz 0 (parts.toList.map fun p=>(p.1,e.getS p.2))with
    |some rows=>G=true∧l6 e true (parts.toList.map (·.2))∧rows.length=n∧0<sz∧n * sz≤16777216∧ij P el≠.other∧iy P el=sz∧K ⟨o.dst,q8 o.guard G (.slice rows),.quiet none⟩
    |none=>match qzq sz n (parts.toList.map fun p=>(p.1,e.getS p.2))with
     |some cs=>G=true∧l6 e true (parts.toList.map (·.2))∧0<sz∧sz≤16777216∧ij P el≠.other∧iy P el=sz∧K ⟨o.dst,q8 o.guard G (.lit cs),.quiet none⟩
     |none=>False
   |_=>False
  | .call { callee:=.value f,args,.. }=>match e.getS f with
   | .fn (.func fid) first caps=>∃r,(G=true→l6 e true (f::args.toList)∧xbf P fid (kc e.h (first++args.toList.map e.getS++caps)) r e.h)∧K ⟨o.dst,q8 o.guard G r,.quiet none⟩
   |_=>False
  |op=>(G=true→l6 e true op.operands.toList∧(qb P e.getS e.h op).side)∧K ⟨o.dst,q8 o.guard G (qb P e.getS e.h op).val,.quiet (qyn e op)⟩
def qou(P:Program)(N:Nat):List (Option Tmp)→List Oper→Env→List DR→(List DR→Env→Prop)→Prop
 |_,[],e,iu,K=>K iu e
 |ds,o::l,e,iu,K=>uy P N ds o e fun r=>qou P N (ds++[o.dst]) l (r.next e) (iu++[r]) K
theorem xlj{P:Program}{N:Nat}{ds:List (Option Tmp)}{o:Oper}{e:Env}{K:DR→Prop}(h:uy P N ds o e K):∃r,uy P N ds o e (· = r)∧K r:=by
 unfold uy at h⊢;split at h
 ·exact h.elim
 ·rename_i G hG;simp only[hG];obtain⟨hd,h⟩:=h;split at h
  ·exact⟨_,⟨hd,h.1,rfl⟩,h.2⟩
  ·exact⟨_,⟨hd,h.1,h.2.1,h.2.2.1,rfl⟩,h.2.2.2⟩
  ·exact⟨_,⟨hd,h.1,h.2.1,rfl⟩,h.2.2⟩
  ·rename_i T a x jy;obtain⟨h1,h2,h3,h4,h5,h6,h7⟩:=h;split at h7
   ·rename_i i off ha;split at h7
    ·rename_i xs hi;exact⟨⟨none,.top,.store i off (e.getS x).cells⟩,⟨hd,h1,h2,h3,h4,h5,h6,by simp only[ha,hi];exact⟨h7.1,trivial⟩⟩,h7.2⟩
    ·exact h7.elim
   ·exact h7.elim
  ·rename_i T n parts jy;split at h
   ·rename_i el sz hk;split at h
    ·rename_i rows hr;obtain⟨h1,h2,h3,h4,h5,h6,h7,h8⟩:=h;exact⟨⟨o.dst,q8 o.guard G (.slice rows),.quiet none⟩,⟨hd,by simp only[hk,hr];exact⟨h1,h2,h3,h4,h5,h6,h7,trivial⟩⟩,h8⟩
    ·rename_i hr;split at h
     ·rename_i cs ma;obtain⟨h1,h2,h4,h5,h6,h7,h8⟩:=h;exact⟨⟨o.dst,q8 o.guard G (.lit cs),.quiet none⟩,⟨hd,by simp only[hk,hr,ma];exact⟨h1,h2,h4,h5,h6,h7,trivial⟩⟩,h8⟩
     ·exact h.elim
   ·exact h.elim
  ·rename_i f args ts jy;split at h
   ·rename_i fid first caps hf
    obtain⟨r,h1,h2⟩:=h;exact⟨⟨o.dst,q8 o.guard G r,.quiet none⟩,⟨hd,⟨r,h1,rfl⟩⟩,h2⟩
   ·exact h.elim
  ·exact⟨_,⟨hd,h.1,rfl⟩,h.2⟩
def ja(e:Env):List DR→Env
 | []=>e
 |r::l=>ja (r.next e) l
theorem qxf{P:Program}{N:Nat}:∀{l:List Oper} {ds:List (Option Tmp)} {e:Env} {iu:List DR} {K:List DR→Env→Prop},qou P N ds l e iu K →
  ∃R:List DR,R.length=l.length∧(∀(k:Nat) (o:Oper),l[k]?=some o→uy P N (ds++(l.take k).map (·.dst)) o (ja e (R.take k)) (fun r=>R[k]?=some r))∧K (iu++R) (ja e R)
 | [],ds,e,iu,K,h=>⟨[],rfl,ae,by simpa[ja,qou]using h⟩
 |o::l,ds,e,iu,K,h=>by
  obtain⟨r,h1,h2⟩:=xlj (K:=fun r=>qou P N (ds++[o.dst]) l (r.next e) (iu++[r]) K) h;obtain⟨R,hl,hk,hK⟩:=qxf h2;refine⟨r::R,qhh,fun k o' ho=>?_,by simpa[ja]using hK⟩;cases k with
  |zero =>
   simp at ho;subst ho;simpa[ja,eq_comm]using h1
  |succ k =>
   have:=hk k o' qgp;simpa[ja,dr]using this
def rp:List DR→gz→gz
 | [],h=>h
 |r::l,h=>match r.k with
  | .store i off cs=>rp l (match h[i]? with
   |some (.cells xs)=>h.set i (.cells (xs.take off++cs++xs.drop (off+cs.length)))
   |_=>h)
  |_=>rp l h
end Go.Abs
