/- Part 3 of a proof. -/
import Derived.Test.YtolejdhnnchfpaaGreatDoorR02
set_option linter.all false
set_option maxRecDepth 100000
set_option maxHeartbeats 4000000
namespace Go.Abs
section
variable {P:Program} {E:Ent}
section
variable{h:mz}{w:World}{T e sz ty:Nat}{S:List (List V)}{u v:Value}{K:V->mz->Prop}
theorem fM{α:Type}{l:List α}{i:Nat}{x:α}(h:l[i]?=some x):l.set i x=l:=by apply kp;grind
def QY{c:Ctx}(s:HSim c h w)(k:E.ok c h w)(hk:nj P T=.slice e sz)(hpos:0<sz)(hbytes:pn P e<=2048)(hsize:oh P e=sz)(vd:nj P e≠.other)
  {i:Nat} {S oq:List (List V)} (hi:h[i]?=some (.arr e sz S)) {v u:Value} (hv:c.sl i S.length=some v) (Q:DRel c.D (.slice oq) u) (td:∀r,r∈oq->r.length=sz) (oy:S.length+oq.length<=68719476736) :
  ∃v' w' c',(Builtin.append_ #[T,T] ty #[v,u]).run P w=.ok v' w'/\c.le c'/\HSim c' (h.set i (.arr e sz (S++oq))) w'/\E.ok c' (h.set i (.arr e sz (S++oq))) w'/\Rel c' (.own i (S.length+oq.length)) v':=by
 obtain⟨iT,dT,zT,_,wm,_,aV,_⟩:=rk hk Z;obtain⟨rfl,ie,r5,bV⟩:=cH aV;obtain⟨ie',de,ze,wt,_,gH,_,hts,_,zf,zd⟩:=rk (P:=P) (t:=e) rfl vd;rw[r5]at wt;cases wt;subst bV;have hb:ie.bytes<=2048:=c9;obtain⟨v0,vs,O,si,eW,U,h3,h4,h5,h6⟩:=s.obj i _ hi;rw[hv]at O;cases O;obtain⟨ad,cap,rfl,pI⟩:=D5 s td hpos Q;by_cases hn:oq=[]
 .subst hn;have pj:=RS (P:=P) (w:=w) T ty e ie wm r5 v S.length vs U ad cap;refine⟨v,w,c,by simpa using pj,.refl c,?_,?_,?_⟩
  .grind[fM]
  .grind[fM]
  exact .own i _ v J si
 rcases pI with lC|⟨b,off,rfl,us,eD,s6,tc,kS⟩
 .grind
 have hm:0<oq.length:=by cases oq with|nil=>exact(hn rfl).elim|cons=>simp
 obtain⟨v',w',pj,qi,oP,gX,ht,gO,p6,aH⟩:=F4 (P:=P) (w:=w) T ty e ie ze wm r5 gH zf hpos v S.length vs U ⟨b,off,none⟩ oq.length cap us eD (λj u Q=>by rw[cM];exact s6 j u Q) tc hm
  dm (by have:(S.length+oq.length) * ie.bytes<=68719476736 * 2048:=qi4 oy hb;omega)
 obtain⟨c',nh,o9,qh,o6⟩:=Te (E:=E) s k (w':=w') hi hv rfl hm oy td kS qi (λxs qT=>by
  have:xs=vs:=by
   rcases qT.2 with⟨e1,e2⟩|⟨g,cp,nu,e1,_,e3,_,_,_,e4⟩
   .have a1:xs=[]:=ko (by rw[qT.1,e2];simp);have a2:vs=[]:=ko (by rw[U.1,e2];simp);rw[a1,a2]
   rcases U.2 with⟨f1,f2⟩|⟨g',cp',rX,f1,_,f3,_,_,_,f4⟩
   .grind
   grind
  rw[this];exact oP) gX ht gO p6 aH
 grind
def qnl{c:Ctx}(s:HSim c h w)(k:E.ok c h w)(hk:nj P T=.slice e sz)(hpos:0<sz)(hbytes:pn P e<=2048)(hsize:oh P e=sz)(vd:nj P e≠.other)
  {i:Nat} {S oq:List (List V)} (hi:h[i]?=some (.uarr e sz S)) {v u:Value} (hv:c.sl i S.length=some v) (Q:DRel c.D (.slice oq) u) (td:∀r,r∈oq->r.length=sz) (oy:S.length+oq.length<=68719476736) :
  ∃v' w' c',(Builtin.append_ #[T,T] ty #[v,u]).run P w=.ok v' w'/\c.le c'/\HSim c' (h.set i (.uarr e sz (S++oq))) w'/\E.ok c' (h.set i (.uarr e sz (S++oq))) w'/\Rel c' (.own i (S.length+oq.length)) v':=by
 obtain⟨iT,dT,zT,_,wm,_,aV,_⟩:=rk hk Z;obtain⟨rfl,ie,r5,bV⟩:=cH aV;obtain⟨ie',de,ze,wt,_,gH,_,hts,_,zf,zd⟩:=rk (P:=P) (t:=e) rfl vd;rw[r5]at wt;cases wt;subst bV;have hb:ie.bytes<=2048:=c9;obtain⟨v0,vs,O,si,eW,U,h3,h4,h5⟩:=s.obj i _ hi;rw[hv]at O;cases O;obtain⟨ad,cap,rfl,pI⟩:=D5 s td hpos Q;by_cases hn:oq=[]
 .subst hn;have pj:=RS (P:=P) (w:=w) T ty e ie wm r5 v S.length vs U ad cap;refine⟨v,w,c,by simpa using pj,.refl c,?_,?_,?_⟩
  .grind[fM]
  .grind[fM]
  exact .own i _ v J si
 rcases pI with lC|⟨b,off,rfl,us,eD,s6,tc,kS⟩
 .grind
 have hm:0<oq.length:=by cases oq with|nil=>exact(hn rfl).elim|cons=>simp
 obtain⟨v',w',pj,qi,oP,gX,ht,gO,p6,aH⟩:=F4 (P:=P) (w:=w) T ty e ie ze wm r5 gH zf hpos v S.length vs U ⟨b,off,none⟩ oq.length cap us eD (λj u Q=>by rw[cM];exact s6 j u Q) tc hm
  dm (by have:(S.length+oq.length) * ie.bytes<=68719476736 * 2048:=qi4 oy hb;omega)
 obtain⟨c',nh,o9,qh,o6⟩:=Kb (E:=E) s k (w':=w') (qq:=S++oq) (us:=vs++us) hi hv au W (λr G=>by
  rcases jj.1 G with G|G
  .grind
  exact td r G) (DRel.flat h5 U.1 kS) qi W gX ht gO p6 aH
 grind
def Rel.flat{c:Ctx}{vs:List Value}(h:∀(i j:Nat) (r:List V) (x:V),S[i]?=some r->r[j]?=some x->∃u,vs[i * sz+j]?=some u/\Rel c x u/\u.oneCell'=true)
  {oq:List (List V)} {us:List Value} (hl:vs.length=S.length * sz) (k:∀(i j:Nat) (r:List V) (x:V),oq[i]?=some r->r[j]?=some x->∃u,us[i * sz+j]?=some u/\Rel c x u/\u.oneCell'=true) :
  ∀(i j:Nat) (r:List V) (x:V),(S++oq)[i]?=some r->r[j]?=some x->∃u,(vs++us)[i * sz+j]?=some u/\Rel c x u/\u.oneCell'=true:=by
 intro i j r x G hx;by_cases hi:i<S.length
 .grind
 rw[gz J]at G;obtain⟨u,Q,hd⟩:=k _ j r x G hx;have he:i * sz+j=vs.length+((i - S.length) * sz+j):=by exact Qbc
 grind
def qp4{c:Ctx}(s:HSim c h w)(k:E.ok c h w)(hk:nj P T=.slice e sz)(hpos:0<sz)(hbytes:pn P e<=2048)(hsize:oh P e=sz)(vd:nj P e≠.other)
  {i:Nat} {S oq:List (List V)} (hi:h[i]?=some (.oarr e sz S)) {v:Value} (hv:c.sl i S.length=some v) {b off cap:Nat} {us:List Value} (eD:us.length=oq.length * sz) (s6:∀j u,us[j]?=some u->w.cell? ⟨b,off+j,none⟩=some u)
  (tc:∀u∈us,u.oneCell'=true) (kS:∀(i' j:Nat) (r:List V) (x:V),oq[i']?=some r->r[j]?=some x->∃u,us[i' * sz+j]?=some u/\Rel c x u/\u.oneCell'=true) (hm:0<oq.length) (td:∀r,r∈oq->r.length=sz) (oy:S.length+oq.length<=68719476736) :
  ∃v' w' c',(Builtin.append_ #[T,T] ty #[v,.slice (some ⟨b,off,none⟩) oq.length cap]).run P w=.ok v' w'/\c.le c'/\HSim c' (h.set i (.oarr e sz (S++oq))) w'/\E.ok c' (h.set i (.oarr e sz (S++oq))) w'/\Rel c' (.own i (S.length+oq.length)) v':=by
 obtain⟨iT,dT,zT,_,wm,_,aV,_⟩:=rk hk Z;obtain⟨rfl,ie,r5,bV⟩:=cH aV;obtain⟨ie',de,ze,wt,_,gH,_,hts,_,zf,zd⟩:=rk (P:=P) (t:=e) rfl vd;rw[r5]at wt;cases wt;subst bV;have hb:ie.bytes<=2048:=c9;obtain⟨v0,vs,O,si,eW,U,h3,h4,h5⟩:=s.obj i _ hi;rw[hv]at O;cases O;obtain⟨v',w',pj,qi,oP,gX,ht,gO,p6,aH⟩:=F4 (P:=P) (w:=w) T ty e ie ze wm r5 gH zf hpos v S.length vs U ⟨b,off,none⟩ oq.length cap us eD (λj u Q=>by rw[cM];exact s6 j u Q) tc hm
  dm (by have:(S.length+oq.length) * ie.bytes<=68719476736 * 2048:=qi4 oy hb;omega)
 obtain⟨c',nh,o9,qh,o6⟩:=NM (E:=E) s k (w':=w') (qq:=S++oq) (us:=vs++us) hi hv au W (λr G=>by
  rcases jj.1 G with G|G
  .grind
  exact td r G) (Rel.flat h5 U.1 kS) qi W gX ht gO p6 aH
 grind
def qrn{c:Ctx}(s:HSim c h w){x:V}(hx:Cz h x=some S)(G:Rel c x u):DRel (c.share h w).D (.slice S) u:=by
 have hn:=rQ s G;cases x with
 |slice r=>simp only[Cz,js]at hx;subst hx;exact Rel.slice_inv hn
 |nils=>simp only[Cz,js]at hx;subst hx;exact Rel.slice_inv hn
 |own i n =>
  grind[Cz,V.norm,js,Rel.slice_inv]
 |_=>cases hx
def qr0{c:Ctx}(s:HSim c h w)(k:E.ok c h w)(hk:nj P T=.slice e sz)(hpos:0<sz)(hbytes:pn P e<=2048)(hsize:oh P e=sz)(vd:nj P e≠.other)
  {S oq:List (List V)} {v u:Value} (hv:Rel c (.cap S) v) (Q:DRel c.D (.slice oq) u) (hro:RowsLen sz S) (td:RowsLen sz oq) (hm:0<oq.length) (oy:S.length+oq.length<=68719476736) :
  ∃v' w' c',(Builtin.append_ #[T,T] ty #[v,u]).run P w=.ok v' w'/\c.le c'/\HSim c' h w'/\E.ok c' h w'/\Rel c' (.slice (S++oq)) v':=by
 obtain⟨iT,dT,zT,_,wm,_,aV,_⟩:=rk hk Z;obtain⟨rfl,ie,r5,bV⟩:=cH aV;obtain⟨ie',de,ze,wt,_,gH,_,hts,_,zf,zd⟩:=rk (P:=P) (t:=e) rfl vd;rw[r5]at wt;cases wt;subst bV;have hb:ie.bytes<=2048:=c9;have hbb:(S.length+oq.length) * ie.bytes<=140737488355328:=by have:(S.length+oq.length) * ie.bytes<=68719476736 * 2048:=qi4 oy hb;omega
 obtain⟨ad,cap,rfl,pI⟩:=D5 s td hpos Q;rcases pI with hn|⟨b,off,rfl,us,eD,s6,tc,kS⟩
 .grind
 have I1:∀j v,us[j]?=some v->w.cell? ((⟨b,off,none⟩:Addr).add j)=some v:=λj v hj=>by rw[cM];exact s6 j v hj
 have hmain:∃rO:List Value,∃cp,rO.length=S.length * ie.size/\S.length+oq.length<=cp/\(∀(i j:Nat) (r:List V) (x:V),S[i]?=some r->r[j]?=some x->∃v,rO[i * ie.size+j]?=some v/\DRel c.D x v) /\
   ∃ac,(Builtin.append_ #[T,T] ty #[v,.slice (some ⟨b,off,none⟩) oq.length cap]).run P w=.ok (.slice (some ⟨w.heap.size,0,none⟩) (S.length+oq.length) cp) (w.drew.alloc (.cells (rO.toArray++us.toArray++ac) e)):=by
  have emp:S=[]->∀a,v=.slice a 0 0->∃rO:List Value,∃cp,rO.length=S.length * ie.size/\S.length+oq.length<=cp/\(∀(i j:Nat) (r:List V) (x:V),S[i]?=some r->r[j]?=some x->∃v,rO[i * ie.size+j]?=some v/\DRel c.D x v) /\
    ∃ac,(Builtin.append_ #[T,T] ty #[v,.slice (some ⟨b,off,none⟩) oq.length cap]).run P w=.ok (.slice (some ⟨w.heap.size,0,none⟩) (S.length+oq.length) cp) (w.drew.alloc (.cells (rO.toArray++us.toArray++ac) e)):=by
   rintro rfl a rfl;simp only[ju,im]at oy hbb|-;refine⟨[],grownCap w oq.length 0 e,Z,grownCap_ge w _ _ _,λi j r x G=>by simp at G,?_⟩;cases a with
   |none =>
    have G:=run_append_nil (P:=P) w T ty e ie ze wm r5 gH ⟨b,off,none⟩ oq.length cap us eD I1 hm J J;grind
   |some a =>
    have G:=run_append_grow (P:=P) w T ty e ie ze wm r5 gH a 0 0 [] Z (λj v hj=>by simp at hj) ⟨b,off,none⟩ oq.length cap us eD I1 J J (growslice_fits J W);exact⟨_,by simpa using G⟩
  cases hv with
  |data h=>cases h
  |cap _ a n hd =>
   obtain⟨a',cp,he,hsrc0⟩:=D5 s hro hpos hd;cases he;rcases hsrc0 with L|⟨b0,off0,rfl,us0,hul0,hcell0,hone0,hdat0⟩
   .grind
   have G:=run_append_grow (P:=P) w T ty e ie ze wm r5 gH ⟨b0,off0,none⟩ S.length S.length us0 hul0 (λj v hj=>by rw[cM];exact hcell0 j v hj) ⟨b,off,none⟩ oq.length cap us eD I1 J J (growslice_fits J hbb);exact⟨us0,_,hul0,grownCap_ge w _ _ _,hdat0,_,G⟩
 obtain⟨rO,cp,nK,hcp,hod,ac,pj⟩:=hmain;obtain⟨s1,k1⟩:=XG (E:=E) s k (w.drawn+1);obtain⟨c',nh,s2,k2,hD⟩:=EP (E:=E) s1 k1 (rO.toArray++us.toArray++ac) e;refine⟨_,_,c',pj,nh,s2,k2,.data ?_⟩;have hfl:=DRel.flat (D:=c.D) hod nK kS;have ni:∀q v,(rO++us)[q]?=some v->(rO.toArray++us.toArray++ac)[q]?=some v:=λq v hq=>by have ni:=(gn.1 hq).1;rw[qjr W];grind
 have:=DRel.slice (D:=c'.D) (S++oq) w.heap.size 0 cp ie.size (λi j=>((rO++us)[i * ie.size+j]?).getD undef) (λr G=>by
   rcases jj.1 G with G|G
   .exact hro r G
   .exact td r G) W W (λi j r x G hx=>by
   obtain⟨v,hv,_⟩:=hfl i j r x G hx;rw[hv,im];exact hD _ _ (ni _ _ hv)) λi j r x G hx=>by
   obtain⟨v,hv,hd⟩:=hfl i j r x G hx;rw[hv];exact hd.mono nh.D
 rwa [it]at this
def qog{c:Ctx}(s:HSim c h w)(k:E.ok c h w){x y:V}(hx:Rel c x v)(hy:Rel c y u)(hK:wI P T x y h K) :
  ∃r Y v' w' c',K r Y/\(Builtin.append_ #[T,T] ty #[v,u]).run P w=.ok v' w'/\c.le c'/\HSim c' Y w'/\E.ok c' Y w'/\Rel c' r v':=by
 unfold wI at hK;split at hK
 .rename_i e sz oq hk pI;obtain⟨td,hpos,hbytes,hsize,vd,hK⟩:=hK;have Q:=qrn s pI hy;obtain⟨s1,k1⟩:=BE s k;have kR:=BA c h w;split at hK
  .obtain⟨oy,hK⟩:=hK;have hv:v=.slice none 0 0:=by
    cases hx with
    |data h=>cases h
    |nils=>rfl
   subst hv;obtain⟨s2,k2⟩:=qmy s1 k1 e sz;have nH:(c.share h w).le ((c.share h w).addSl h.length 0 (.slice none 0 0)):=Ctx.addSl_le ((s1.dom _ (gj _)).2 0);obtain⟨v',w',c',pj,Ai,s3,k3,r3⟩:=QY (P:=P) (ty:=ty) s2 k2 hk hpos hbytes hsize vd (i:=h.length) (S:=[]) (oq:=oq) Z (v:=.slice none 0 0) bi (Q.mono nH.D) td W;refine⟨_,_,v',w',c',hK,pj,kR.trans (nH.trans Ai),by simpa using s3,by simpa using k3,by simpa using r3⟩
  .rename_i S;obtain⟨hro,hm,oy,hK⟩:=hK;obtain⟨v',w',c',pj,Ai,s3,k3,r3⟩:=qr0 (P:=P) (ty:=ty) s k hk hpos hbytes hsize vd hx Q hro td hm oy;grind
  .rename_i i n;split at hK
   .rename_i e' rr S hi;obtain⟨rfl,rfl,rfl,oy,hK⟩:=hK;have hv:c.sl i S.length=some v:=by
     cases hx with
     |data h=>cases h
     |own i n v h ho=>exact h
    obtain⟨v',w',c',pj,Ai,s3,k3,r3⟩:=QY (P:=P) (ty:=ty) s1 k1 hk hpos hbytes hsize vd (i:=i) (S:=S) (oq:=oq) hi (v:=v) (kR.sl _ _ _ hv) Q td oy;exact⟨_,_,v',w',c',hK,pj,kR.trans Ai,s3,k3,r3⟩
   .rename_i e' rr S hi;obtain⟨rfl,rfl,rfl,oy,hK⟩:=hK;have hv:c.sl i S.length=some v:=by
     cases hx with
     |data h=>cases h
     |own i n v h ho=>exact h
    obtain⟨v',w',c',pj,Ai,s3,k3,r3⟩:=qnl (P:=P) (ty:=ty) s1 k1 hk hpos hbytes hsize vd (i:=i) (S:=S) (oq:=oq) hi (v:=v) (kR.sl _ _ _ hv) Q td oy;exact⟨_,_,v',w',c',hK,pj,kR.trans Ai,s3,k3,r3⟩
   grind
  grind
 grind
def XC{c:Ctx}{cells:List V}(G:Rel c (.lit cells) u):∃b o cap,∃g:Nat->Value,u=.slice (some ⟨b,o,none⟩) 1 cap/\(∀(j:Nat) (x:V),cells[j]?=some x->c.D b (o+j)=some (g j)) /\
  (∀(j:Nat) (x:V),cells[j]?=some x->Rel c x (g j))/\∀(j:Nat) (x:V),cells[j]?=some x->(g j).oneCell'=true:=by
 cases G with
 |data h=>cases h
 |lit _ b o cap g hD h ho=>exact⟨b,o,cap,g,rfl,hD,h,ho⟩
def qsu{c:Ctx}(s:HSim c h w)(k:E.ok c h w){x y:V}(hx:Rel c x v)(hy:Rel c y u)(hK:Ae P T x y h K) :
  ∃r Y v' w' c',K r Y/\(Builtin.append_ #[T,T] ty #[v,u]).run P w=.ok v' w'/\c.le c'/\HSim c' Y w'/\E.ok c' Y w'/\Rel c' r v':=by
 unfold Ae at hK;split at hK
 .rename_i cells;split at hK
  .rename_i e sz i n hk;split at hK
   .rename_i e' rr S hi;obtain⟨qn,hpos,hbytes,hsize,vd,rfl,rfl,hn,oy,hK⟩:=hK;obtain⟨b,o,cap,g,rfl,hD,G,ho⟩:=XC hy;have hv:c.sl i S.length=some v:=by
     cases hx with
     |data h=>cases h
     |own _ _ _ h _=>rw[hn];exact h
    have ni:∀j,j<cells.length->cells[j]?=some (cells[j]!):=λj hj=>by rw[qjo cells j hj,ii hj]
    obtain⟨v',w',c',pj,nh,o9,qh,o6⟩:=qp4 (P:=P) (E:=E) (ty:=ty) s k hk hpos hbytes hsize vd (oq:=[cells]) hi hv (b:=b) (off:=o) (cap:=cap) (us:=(List.range cells.length).map g) (by simp[qn])
     (λj u Q=>by
      have hj:j<cells.length:=W;rw[ja,List.getElem?_range hj]at Q;cases Q;exact s.data _ _ _ (hD j _ (ni j hj))) (λu Q=>by
      obtain⟨j,hj,rfl⟩:=ig.1 Q;exact ho j _ (ni j (qil.1 hj))) (λi' j r hI kH hz=>by
      cases i' with
      |succ i'=>simp at kH
      |zero =>
       simp at kH;subst kH;have hj:=(gn.1 hz).1;exact⟨g j,by rw[Nat.zero_mul,im,ja,List.getElem?_range hj];rfl,G j hI hz,ho j hI hz⟩) Z (by simp[qn]) J
    grind
   grind
  grind
 exact qog s k hx hy hK
end
end
section
variable {P:Program} {E:Ent}
section
variable{xs:List V}{us vs:Array Value}{h:mz}{w:World}{o:Oper}{f:Operand}{ts:Array TypeId}{v:Value}{T el sz:Nat}{parts:List (Nat×V)}{qs:Array (Nat×Value)}
theorem RelL.app{c:Ctx}{ys:List V}(h:RelL c xs us)(k:RelL c ys vs):RelL c (xs++ys) (us++vs) :=
 ⟨by simp[h.1,k.1],λj x v hx hv=>by
  by_cases hj:j<xs.length
  .rw[gu hj]at hx;rw[qjr (by rw[h.1];exact hj)]at hv;exact h.2 j x v hx hv
  rw[gz J]at hx;rw[Array.getElem?_append_right (by rw[h.1];omega),h.1]at hv;exact k.2 _ x v hx hv⟩
theorem RelL.map{c:Ctx}{g:Operand->V}{ev:Operand->Value}{l:Array Operand}(hg:∀x,x∈l.toList->Rel c (g x) (ev x)):RelL c (l.toList.map g) (l.map ev) :=
 ⟨Z,(Ky hg).2⟩
theorem RelL.norm{c:Ctx}(s:HSim c h w)(k:RelL c xs vs):RelL (c.share h w) (qu h xs) vs :=
 ⟨by rw[pP];simp[k.1],λj x v hx hv=>by rw[pP]at hx;simp only[ja,iy]at hx;obtain⟨y,hy,rfl⟩:=hx;exact rQ s (k.2 j y v hy hv)⟩
theorem Bc{ev:Operand->Value}{args:Array Operand}(ho:o.op=.call { callee:=.value f,args:=args,argTypes:=ts }){py:FuncId}
  (hf:ev f=.func (.func py) us vs) (hen:yZ P py):(execOp ev o).run P w=.ok (.enter py (us++args.map ev++vs)) w:=by
 obtain⟨fn,O,U,h3⟩:=hen;have hb:fn.body.isNone=false:=cy;simp only[execOp,ho,resolve,hf,Deferred.ofValue,invoke,callFunc,iu,je,iv,run_program,O,h3,hb,qjf,jg]
theorem Cv(w:World)(o:Obj):(newObj o).run P w=.ok w.heap.size (w.alloc o):=rfl
theorem JJ{c:Ctx}{e:Env}{a:Act}(s:Sim E.N c e a w)(k:E.ok c e.h w){args:Array Operand}(ho:o.op=.call { callee:=.value f,args:=args,argTypes:=ts })
  (nz:sn e true (f::args.toList)) {py:FuncId} {first pk:List V} (hf:e.getS f=.fn (.func py) first pk) {R:AEnd->mz->Prop}
  (hc:ACalls P py (qu e.h (first++args.toList.map e.getS++pk)) e.h R) {next:Act->World->Prop} {hu:Exit->Act->World->Prop}
  (fQ:∀v Y c' w' u,R (.ret v) Y->c.le c'->HSim c' Y w'->E.ok c' Y w'->Rel c' v u->next (a.put o.dst u) w')
  (Cb:∀v Y c' w' u,R (.panic v) Y->c.le c'->HSim c' Y w'->E.ok c' Y w'->Rel c' v u->hu (.panic [⟨u,false,false⟩]) a w'):o.wp P a w next hu:=by
 have pq:=yh s nz;have bQ:=pq f Z;rw[hf]at bQ;obtain⟨us,vs,nZ,O,U⟩:∃us vs,a.eval f=.func (.func py) us vs/\RelL c first us/\RelL c pk vs:=by
  generalize a.eval f=hI at bQ;cases bQ with
  |data h=>cases h
  |fn f ys xs us vs w6 hl Y h=>exact⟨us,vs,rfl,⟨w6,Y⟩,⟨hl,h⟩⟩
 have sF:RelL c (args.toList.map e.getS) (args.map a.eval):=RelL.map λx hx=>pq x be;have Ee:=(RelL.app (RelL.app O sF) U).norm s.hs;obtain⟨s1,k1⟩:=BE s.hs k;unfold Oper.wp;rw[Bc ho nZ hc.1];refine(hc.2 _ w _ s1 Ee).mono ?_;rintro en w' ⟨r,Y,c',hR,hE,o9,qh⟩;have nh:c.le c':=(BA c e.h w).trans qh.ext;have pg:E.ok c' Y w':=k1.trans qh;cases r with
 |ret v =>
  grind[EndR]
 |panic v =>
  cases en with
  |panicked ch =>
   cases ch with
   |nil=>simp[EndR]at hE
   |cons p l =>
    cases l with
    |nil =>
     obtain⟨u,r,g⟩:=p;cases r<;>cases g<;>simp only[EndR]at hE;grind
    |cons=>simp[EndR]at hE
  |_=>simp[EndR]at hE
def NI{h:mz}{sz:Nat}:∀{k:Nat} {l:List (Nat×V)} {S:List (List V)},sL h sz k l=some S ->
  S.length=l.length/\∀(i:Nat) (p:Nat×V),l[i]?=some p->p.1=k+i/\p.2.cellsOk=true/\p.2.cells.length=sz/\S[i]?=some (qu h p.2.cells)/\∀x,x∈qu h p.2.cells->x.isData=true
 |k,[],S,G=>by simp only[sL,js]at G;subst G;simp
 |k,(i,x)::l,S,G=>by
  simp only[sL]at G;split at G
  .rename_i hc;obtain⟨rfl,O,U,h3⟩:=hc;simp only[iy]at G;obtain⟨qq,o6,rfl⟩:=G;obtain⟨h4,h5⟩:=NI o6;grind
  cases G
def DM{c:Ctx}{x:V}(h:x.isData=true)(G:Rel c x v):DRel c.D x v:=by
 cases x with
 |val u=>obtain rfl:=G.val_inv;exact .val v h (rK G)
 |slice S=>exact G.slice_inv
 |_=>simp[V.isData]at h
def R9{c:Ctx}(s:HSim c h w)(k:E.ok c h w){n:Nat}(hk:nj P T=.slice el sz)(hl:parts.length=qs.size)
  (hpq:∀(j:Nat) (p:Nat×V) (q:Nat×Value),parts[j]?=some p->qs[j]?=some q->p.1=q.1/\Rel c p.2 q.2) {S:List (List V)} (G:sL h sz 0 parts=some S) (hn:S.length=n) (hpos:0<sz) (fK:n * sz<=16777216)
  (vd:nj P el≠.other) (hsize:oh P el=sz) :
  ∃v w' c',(Instr.buildSlice T n qs).run P w=.ok v w'/\c.le c'/\HSim c' h w'/\E.ok c' h w'/\Rel c' (.slice S) v:=by
 obtain⟨iT,dT,zT,_,wm,_,aV,_⟩:=rk hk Z;obtain⟨rfl,ie,r5,bV⟩:=cH aV;obtain⟨ie',de,ze,wt,_,gH,_,hts,_,zf,zd⟩:=rk (P:=P) (t:=el) rfl vd;rw[r5]at wt;cases wt;subst bV;obtain⟨u3,hspec⟩:=NI G;have hpn:parts.length=n:=J;have xc:∀xs:List V,(qu h xs).length=xs.length:=λxs=>by rw[pP];simp
 let zs:Array Value:=(Array.range (n * ie.size)).map (ze.cells[· % ze.cells.size]!)
 have BK:∀(m:Nat) (qs':List (Nat×Value)) (cs:Array Value),cs.size=n * ie.size->m+qs'.length=n->(∀j q,qs'[j]?=some q->q.1=m+j/\q.2.cells.size=ie.size) ->
   ∃aK,Instr.fill (λi=>some (i * ie.size,ie.size)) cs qs'=some aK/\aK.size=n * ie.size/\(∀k,k<m * ie.size->aK[k]?=cs[k]?) /\
    ∀j q t u,qs'[j]?=some q->q.2.cells[t]?=some u->aK[(m+j) * ie.size+t]?=some u:=by
  intro m qs'
  induction qs' generalizing m with
  |nil=>intro cs su _ _;exact⟨cs,rfl,su,λ_ _=>rfl,Z⟩
  |cons q qs' ih =>
   intro cs su hm hq;obtain⟨i,v⟩:=q;obtain⟨O,U⟩:=hq 0 (i,v) rfl;simp only[jt]at O U;subst O;have nh:i * ie.size+ie.size<=n * ie.size:=by grind[kz,jl]
   let cs1:=v.cells.zipIdx.foldl (λ(cs:Array Value) (p:Value×Nat)=>cs.setIfInBounds (i * ie.size+p.2) p.1) cs
   have hcs1:cs1=(v.cells.toList.zipIdx 0).foldl (λ(cs:Array Value) (p:Value×Nat)=>cs.setIfInBounds (i * ie.size+p.2) p.1) cs:=by grind[Array.toList_zipIdx]
   obtain⟨g1,g2⟩:=Gc (i * ie.size) v.cells.toList 0 cs;have g2:=g2 W;obtain⟨aK,f1,f2,f3,f4⟩:=ih (i+1) cs1 W W (λj q hq'=>by have:=hq (j+1) q W;exact⟨J,this.2⟩)
   refine⟨aK,?_,f2,λk hk=>?_,λj q t u hq' Q=>?_⟩
   .simp only[Instr.fill];grind
   .grind
   cases j with
   |zero =>
    grind
   |succ j =>
    grind
 obtain⟨aK,hf1,hf2,_,hf4⟩:=BK 0 qs.toList zs (by simp[zs]) au (λj q hq=>by have hjlt:j<parts.length:=W;obtain⟨e1,e2⟩:=hpq j parts[j] q Z W;obtain⟨p1,p2,p3,_⟩:=hspec j parts[j] Z;exact⟨J,by rw[(e2.cells p2).1,p3]⟩)
 obtain⟨c',nh,s1,k1,hD⟩:=EP (E:=E) (BE s k).1 (BE s k).2 aK el;have hlit:¬(n * ie.size > 2 ^ 24):=au;have iH:(zeroValue el).run P w=.ok ze w:=qfv;refine⟨.slice (some ⟨w.heap.size,0,none⟩) n n,w.alloc (.cells aK el),c',?_,(BA c h w).trans nh,s1,k1,?_⟩
 .simp only[Instr.buildSlice,iu,vo wm,iv,eO r5,gg hlit];by_cases L:n * ie.size=0
  .have hz0:(Array.range (n * ie.size)).map (λx=>(#[]:Array Value)[x % (#[]:Array Value).size]!)=zs:=by
    grind
   simp only[L,iz,je,iv,iu];rw[L]at hz0;simp only[hz0,hf1,newRow,iu,Cv,iv,je]
  simp only[gg L,iu,iH,iv,je];have hzz:(Array.range (n * ie.size)).map (λx=>ze.cells[x % ze.cells.size]!)=zs:=rfl;simp only[hzz,hf1,newRow,iu,Cv,iv,je]
 have s6:∀(i j:Nat) (r:List V) (x:V),S[i]?=some r->r[j]?=some x->∃v,c'.D w.heap.size (i * ie.size+j)=some v/\DRel c'.D x v:=by intro i j r x o6 hx;have hilt:i<parts.length:=W;obtain⟨p1,p2,p3,p4,p5⟩:=hspec i parts[i] Z;rw[p4]at o6;cases o6;have hqlt:i<qs.size:=J;obtain⟨e1,e2⟩:=hpq i parts[i] qs[i] Z Z;obtain⟨q1,q2⟩:=e2.cells p2;have um:=hx;rw[pP,ja,iy]at um;obtain⟨y,hy,hyx⟩:=um;have hjlt:j<qs[i].2.cells.size:=W;obtain⟨r1,r2⟩:=q2 j y qs[i].2.cells[j] hy Z;have h6:=hf4 i qs[i] j qs[i].2.cells[j] Z Z;rw[im]at h6;refine⟨_,hD _ _ h6,?_⟩;have h7:=rQ s r1;rw[hyx]at h7;exact(DM (p5 x (gw hx)) h7).mono nh.D
 have hdr:DRel c'.D (.slice S) (.slice (some ⟨w.heap.size,0,none⟩) S.length n):=.slice S w.heap.size 0 n ie.size (λi j=>(c'.D w.heap.size (i * ie.size+j)).getD undef) (λr o6=>by
   obtain⟨i,hi⟩:=iw o6;have hilt:i<parts.length:=W;obtain⟨p1,p2,p3,p4,p5⟩:=hspec i parts[i] Z;rw[p4]at hi;cases hi;rw[xc,p3]) (by
   rw[hn];have:n * 1<=n * ie.size:=Nat.mul_le_mul_left _ hpos;omega) J (λi j r x o6 hx=>by
   obtain⟨v,hv,_⟩:=s6 i j r x o6 hx;rw[im,hv];rfl) λi j r x o6 hx=>by
   grind
 rw[hn]at hdr;exact .data hdr
def MR(hk:nj P T=.slice el sz)(vd:nj P el≠.other)(hsize:oh P el=sz)(hpos:0<sz)(fK:sz<=16777216)(hc:v.cells.size=sz)(w:World) :
  (Instr.buildSlice T 1 #[(0,v)]).run P w=.ok (.slice (some ⟨w.heap.size,0,none⟩) 1 1) (w.alloc (.cells v.cells el)):=by
 obtain⟨iT,dT,zT,_,wm,_,aV,_⟩:=rk hk Z;obtain⟨rfl,ie,r5,bV⟩:=cH aV;obtain⟨ie',de,ze,wt,_,gH,_,hts,_,zf,zd⟩:=rk (P:=P) (t:=el) rfl vd;rw[r5]at wt;cases wt;subst bV;have iH:(zeroValue el).run P w=.ok ze w:=qfv
 let zs:Array Value:=(Array.range (1 * ie.size)).map (ze.cells[· % ze.cells.size]!)
 have hzz:zs.size=ie.size:=by simp[zs]
 have BK:Instr.fill (λi=>some (i * ie.size,ie.size)) zs [(0,v)]=some v.cells:=by
  simp only[Instr.fill];rw[gg W];congr 1;have hcs1:v.cells.zipIdx.foldl (λ(cs:Array Value) (p:Value×Nat)=>cs.setIfInBounds (0 * ie.size+p.2) p.1) zs=(v.cells.toList.zipIdx 0).foldl (λ(cs:Array Value) (p:Value×Nat)=>cs.setIfInBounds (0 * ie.size+p.2) p.1) zs:=by rw[<-Array.foldl_toList,Array.toList_zipIdx]
  obtain⟨g1,g2⟩:=Gc (0 * ie.size) v.cells.toList 0 zs;grind
 have hlit:¬(1 * ie.size > 2 ^ 24):=au;have L:¬(1 * ie.size=0):=J;simp only[Instr.buildSlice,iu,vo wm,iv,eO r5,gg hlit,gg L,iH,je];have hzz':(Array.range (1 * ie.size)).map (λx=>ze.cells[x % ze.cells.size]!)=zs:=rfl;simp only[hzz',BK,newRow,iu,Cv,iv,je]
def Su{c:Ctx}(s:HSim c h w)(k:E.ok c h w){n:Nat}(hk:nj P T=.slice el sz)(hl:parts.length=qs.size)
  (hpq:∀(j:Nat) (p:Nat×V) (q:Nat×Value),parts[j]?=some p->qs[j]?=some q->p.1=q.1/\Rel c p.2 q.2) {cs:List V} (G:Co sz n parts=some cs) (hpos:0<sz) (fK:sz<=16777216)
  (vd:nj P el≠.other) (hsize:oh P el=sz) :
  ∃v w' c',(Instr.buildSlice T n qs).run P w=.ok v w'/\c.le c'/\HSim c' h w'/\E.ok c' h w'/\Rel c' (.lit cs) v:=by
 unfold Co at G;split at G
 .rename_i x;split at G
  .rename_i hx;obtain⟨pg,mE⟩:=hx;cases G;have hq0:qs[0]?=some qs[0]!:=W;obtain⟨e1,e2⟩:=hpq 0 (0,x) _ rfl hq0;have hqs:qs = #[(0,(qs[0]!).2)]:=W;generalize(qs[0]!).2=v at hqs e2;subst hqs;obtain⟨tg,sq⟩:=e2.cells pg;have pj:=MR (P:=P) hk vd hsize hpos fK (v:=v) W w;obtain⟨c1,kR,s1,k1,hD1⟩:=EP s k v.cells el;refine⟨_,_,c1,pj,kR,s1,k1,?_⟩;refine .lit x.cells w.heap.size 0 1 (λj=>v.cells[j]!) (λj y hy=>?_) (λj y hy=>?_) (λj y hy=>?_)
   all_goals have ni:j<v.cells.size:=W
   .grind
   .rw[qjo v.cells j ni];exact((sq j y v.cells[j] hy (ky ni)).1).mono kR
   rw[qjo v.cells j ni];exact(sq j y v.cells[j] hy (ky ni)).2
  cases G
 cases G
end
end
def HD{α:Type}(l us:List α)(p k:Nat)(h:p+us.length<=l.length) :
  (l.take p++us++l.drop (p+us.length))[k]?=if k<p then l[k]? else if k<p+us.length then us[k - p]? else l[k]?:=by
 grind
section
variable {P:Program} {E:Ent}
section
variable{w:World}{o:Oper}{T:TypeId}{ad:Operand}{i sz r e:Nat}{S:List (List V)}
def qqr{c:Ctx}{h:mz}(hs:HSim c h w)(k:E.ok c h w){ev:Operand->Value}{x:Operand}(p8:o.op=.store T ad x){n q:Nat}{y:V}
  (dQ:Rel c (.optr i n sz r q) (ev ad)) (ss:Rel c y (ev x)) (hi:h[i]?=some (.uarr e sz S)) (hn:S.length=n) (G:r<S.length) (pg:y.cellsOk=true) (kS:(qu h y.cells).all V.isData=true)
  (p6:y.cells.length=oh P T) (hk:nj P T≠.other) (nh:q+y.cells.length<=sz) :
  ∃w',(execOp ev o).run P w=.ok .skip w'/\HSim c (h.set i (.uarr e sz (S.set r ((S.getD r []).take q++qu h y.cells++(S.getD r []).drop (q+y.cells.length))))) w' /\
   E.ok c (h.set i (.uarr e sz (S.set r ((S.getD r []).take q++qu h y.cells++(S.getD r []).drop (q+y.cells.length))))) w':=by
 obtain⟨b,o',len,cap,lE,hv⟩:=BJ dQ;subst hn;obtain⟨v',vs,O,si,eW,U,h3,h4,h5⟩:=hs.obj i _ hi;rw[hv]at O;cases O;rcases U.2 with⟨e1,_⟩|⟨g,cp,nu,e1,_,hg,uh,r9,su,eS⟩
 .cases e1
 cases e1;obtain⟨c1,c2⟩:=ss.cells pg;obtain⟨iT,d,hI,t1,t2,t3,t4,t5,_⟩:=rk (P:=P) (t:=T) rfl hk;have tc:∀v,v∈(ev x).cells.toList->v.oneCell'=true:=λv hv=>by grind[iw]
 have eD:(ev x).cells.toList.length=y.cells.length:=J;have hrs:(r+1) * sz<=S.length * sz:=jl _ G;rw[kz,qi5]at hrs;have hcs':S.length * sz<=nu.size:=qf6;have hp:(r * sz+q)+(ev x).cells.toList.length<=nu.size:=J;have pj:=qjp P b (r * sz+q) e (ev x).cells.toList 0 nu w hg J tc;simp only[jt]at pj;have hsize:(ev x).cells.size=iT.size:=J;have r7:(execOp ev o).run P w=.ok .skip (w.setRow b (nu.toList.take (r * sz+q)++(ev x).cells.toList++nu.toList.drop (r * sz+q+(ev x).cells.toList.length)).toArray):=by exact Qby
 have vh:∀g,g≠b->(w.setRow b (nu.toList.take (r * sz+q)++(ev x).cells.toList++nu.toList.drop (r * sz+q+(ev x).cells.toList.length)).toArray).heap[g]?=w.heap[g]?:=λg hg=>qje w b g _ hg;have bS:(w.setRow b (nu.toList.take (r * sz+q)++(ev x).cells.toList++nu.toList.drop (r * sz+q+(ev x).cells.toList.length)).toArray).heap.size=w.heap.size:=Z;have y8:ou c i (.uarr e sz S)=some b:=du
 let qq:=S.set r ((S.getD r []).take q++qu h y.cells++(S.getD r []).drop (q+y.cells.length))
 have Bu:ou c i (.uarr e sz qq)=some b:=cx;have hrow0:S[r]?=some (S.getD r []):=W;have u3:(S.getD r []).length=sz:=h4 _ (gw hrow0);have xc:(qu h y.cells).length=y.cells.length:=by simp[pP]
 have vn:∀j ob b',(h.set i (.uarr e sz qq))[j]?=some ob->ou c j ob=some b'->∃o0,h[j]?=some o0/\ou c j o0=some b':=λj ob b' hj nl=>by grind
 have iP:∀kk,kk<S.length * sz->vs[kk]?=nu.toList[kk]?:=λkk rR=>by rw[<-eS,jo,gh rR]
 have bF:ObjR c (w.setRow b (nu.toList.take (r * sz+q)++(ev x).cells.toList++nu.toList.drop (r * sz+q+(ev x).cells.toList.length)).toArray) i (.uarr e sz qq):=by
  refine⟨.slice (some ⟨b,0,none⟩) S.length cap,(nu.toList.take (r * sz+q)++(ev x).cells.toList++nu.toList.drop (r * sz+q+(ev x).cells.toList.length)).take (S.length * sz),by simp[qq,hv],rfl,by simpa[qq]using eW,⟨?_,.inr ⟨b,cap,_,qh5,il _,qi1 w b nu _ e (0,0) hg,by simpa[qq]using uh,r9,?_,qh5⟩⟩,by simpa[qq]using h3,λr' o6=>?_,λi' j row' x' hrw um=>?_⟩
  .grind
  .grind
  .grind
  have ni:i'<S.length:=by have:=(gn.1 hrw).1;simpa[qq]using this
  have his:(i'+1) * sz<=S.length * sz:=jl _ ni;rw[kz,qi5]at his;have wb:=HD nu.toList (ev x).cells.toList (r * sz+q) (i' * sz+j) J;rcases tk hrw with⟨rfl,rfl⟩|⟨nv,h6⟩
  .have hj:j<sz:=by
    have:=(gn.1 um).1;simp only[it,kc,qiw,xc,u3]at this;omega
   rw[jo,gh J,wb];have wu:=HD (S.getD i' []) (qu h y.cells) q j J;rw[xc]at wu;rw[wu]at um;by_cases hj1:j<q
   .grind
   rw[gg hj1]at um;rw[gg J];by_cases hj2:j<q+y.cells.length
   .rw[gh hj2]at um;rw[gh J];have hjc:j - q<y.cells.length:=J;have hxm:=gw um;have e2:i' * sz+j - (i' * sz+q)=j - q:=J;rw[e2];simp only[pP,ja,iy]at um;obtain⟨y0,qN,rfl⟩:=um;have vT:j - q<(ev x).cells.size:=J;refine⟨(ev x).cells[j - q],by simp[vT],DM (jk.1 kS _ hxm) (rQ hs (c2 _ y0 _ qN Z).1)⟩
   grind
  have hrow':=h4 row' (gw h6);have hj:j<sz:=W;rw[jo,gh J,wb];rcases jz i' r with h7|h7
  .have:(i'+1) * sz<=r * sz:=jl _ h7;grind
  have:(r+1) * sz<=i' * sz:=jl _ J;grind
 refine⟨_,r7,⟨λg j v hD=>?_,λj hj=>hs.dom j W,λj ob hj=>?_,λj j' ob o2 b' hj uq qd rh=>?_,λj ob b' m v hj qd hD=>?_⟩,⟨k.edom,k.ext,k.blk0,bu,k.os,k.tape,k.output,qht,λg pa qz=>?_,λj ob b' hj qd=>?_,k.dold⟩⟩
 .have pa:g≠b:=λe2=>by
   exact Qbz
  exact Qca
 .rcases tk hj with⟨rfl,rfl⟩|⟨nv,h6⟩
  .exact bF
  exact Qcb
 .exact Qcc
 .rcases tk hj with⟨rfl,rfl⟩|⟨nv,h6⟩
  .exact Qcd
  exact Qce
 .have nv:g≠b:=λe2=>by
   subst e2;rcases k.newobj i _ g hi y8 with⟨i0,o0,h6,h7⟩|h6
   .grind
   omega
  rw[vh g nv];exact k.frame g pa qz
 exact Qcf
def qqh{c:Ctx}{h:mz}(hs:HSim c h w)(k:E.ok c h w){ev:Operand->Value}{x:Operand}(p8:o.op=.store T ad x){n q:Nat}{y:V}
  (dQ:Rel c (.optr i n sz r q) (ev ad)) (ss:Rel c y (ev x)) (hi:h[i]?=some (.oarr e sz S)) (hn:S.length=n) (G:r<S.length) (pg:y.cellsOk=true)
  (p6:y.cells.length=oh P T) (hk:nj P T≠.other) (nh:q+y.cells.length<=sz) :
  ∃w',(execOp ev o).run P w=.ok .skip w'/\HSim c (h.set i (.oarr e sz (S.set r ((S.getD r []).take q++y.cells++(S.getD r []).drop (q+y.cells.length))))) w' /\
   E.ok c (h.set i (.oarr e sz (S.set r ((S.getD r []).take q++y.cells++(S.getD r []).drop (q+y.cells.length))))) w':=by
 obtain⟨b,o',len,cap,lE,hv⟩:=BJ dQ;subst hn;obtain⟨v',vs,O,si,eW,U,h3,h4,h5⟩:=hs.obj i _ hi;rw[hv]at O;cases O;rcases U.2 with⟨e1,_⟩|⟨g,cp,nu,e1,_,hg,uh,r9,su,eS⟩
 .cases e1
 cases e1;obtain⟨c1,c2⟩:=ss.cells pg;obtain⟨iT,d,hI,t1,t2,t3,t4,t5,_⟩:=rk (P:=P) (t:=T) rfl hk;have tc:∀v,v∈(ev x).cells.toList->v.oneCell'=true:=λv hv=>by grind[iw]
 have eD:(ev x).cells.toList.length=y.cells.length:=J;have hrs:(r+1) * sz<=S.length * sz:=jl _ G;rw[kz,qi5]at hrs;have hcs':S.length * sz<=nu.size:=qf6;have hp:(r * sz+q)+(ev x).cells.toList.length<=nu.size:=J;have pj:=qjp P b (r * sz+q) e (ev x).cells.toList 0 nu w hg J tc;simp only[jt]at pj;have hsize:(ev x).cells.size=iT.size:=J;have r7:(execOp ev o).run P w=.ok .skip (w.setRow b (nu.toList.take (r * sz+q)++(ev x).cells.toList++nu.toList.drop (r * sz+q+(ev x).cells.toList.length)).toArray):=by exact Qby
 have vh:∀g,g≠b->(w.setRow b (nu.toList.take (r * sz+q)++(ev x).cells.toList++nu.toList.drop (r * sz+q+(ev x).cells.toList.length)).toArray).heap[g]?=w.heap[g]?:=λg hg=>qje w b g _ hg;have bS:(w.setRow b (nu.toList.take (r * sz+q)++(ev x).cells.toList++nu.toList.drop (r * sz+q+(ev x).cells.toList.length)).toArray).heap.size=w.heap.size:=Z;have y8:ou c i (.oarr e sz S)=some b:=du
 let qq:=S.set r ((S.getD r []).take q++y.cells++(S.getD r []).drop (q+y.cells.length))
 have Bu:ou c i (.oarr e sz qq)=some b:=cx;have hrow0:S[r]?=some (S.getD r []):=W;have u3:(S.getD r []).length=sz:=h4 _ (gw hrow0);have xc:(y.cells).length=y.cells.length:=rfl;have vn:∀j ob b',(h.set i (.oarr e sz qq))[j]?=some ob->ou c j ob=some b'->∃o0,h[j]?=some o0/\ou c j o0=some b':=λj ob b' hj nl=>by grind
 have iP:∀kk,kk<S.length * sz->vs[kk]?=nu.toList[kk]?:=λkk rR=>by rw[<-eS,jo,gh rR]
 have bF:ObjR c (w.setRow b (nu.toList.take (r * sz+q)++(ev x).cells.toList++nu.toList.drop (r * sz+q+(ev x).cells.toList.length)).toArray) i (.oarr e sz qq):=by
  refine⟨.slice (some ⟨b,0,none⟩) S.length cap,(nu.toList.take (r * sz+q)++(ev x).cells.toList++nu.toList.drop (r * sz+q+(ev x).cells.toList.length)).take (S.length * sz),by simp[qq,hv],rfl,by simpa[qq]using eW,⟨?_,.inr ⟨b,cap,_,qh5,il _,qi1 w b nu _ e (0,0) hg,by simpa[qq]using uh,r9,?_,qh5⟩⟩,by simpa[qq]using h3,λr' o6=>?_,λi' j row' x' hrw um=>?_⟩
  .grind
  .grind
  .grind
  have ni:i'<S.length:=by have:=(gn.1 hrw).1;simpa[qq]using this
  have his:(i'+1) * sz<=S.length * sz:=jl _ ni;rw[kz,qi5]at his;have wb:=HD nu.toList (ev x).cells.toList (r * sz+q) (i' * sz+j) J;rcases tk hrw with⟨rfl,rfl⟩|⟨nv,h6⟩
  .have hj:j<sz:=by
    have:=(gn.1 um).1;simp only[it,kc,qiw,xc,u3]at this;omega
   rw[jo,gh J,wb];have wu:=HD (S.getD i' []) (y.cells) q j J;rw[xc]at wu;rw[wu]at um;by_cases hj1:j<q
   .grind
   rw[gg hj1]at um;rw[gg J];by_cases hj2:j<q+y.cells.length
   .grind
   grind
  have hrow':=h4 row' (gw h6);have hj:j<sz:=W;rw[jo,gh J,wb];rcases jz i' r with h7|h7
  .have:(i'+1) * sz<=r * sz:=jl _ h7;grind
  have:(r+1) * sz<=i' * sz:=jl _ J;grind
 refine⟨_,r7,⟨λg j v hD=>?_,λj hj=>hs.dom j W,λj ob hj=>?_,λj j' ob o2 b' hj uq qd rh=>?_,λj ob b' m v hj qd hD=>?_⟩,⟨k.edom,k.ext,k.blk0,bu,k.os,k.tape,k.output,qht,λg pa qz=>?_,λj ob b' hj qd=>?_,k.dold⟩⟩
 .have pa:g≠b:=λe2=>by
   exact Qbz
  exact Qca
 .rcases tk hj with⟨rfl,rfl⟩|⟨nv,h6⟩
  .exact bF
  exact Qcb
 .exact Qcc
 .rcases tk hj with⟨rfl,rfl⟩|⟨nv,h6⟩
  .have hb1':ou c j (.oarr e sz qq)=some b':=qd;rw[Bu]at hb1';have h9:(AObj.oarr e sz S).shares m:=hs.sep j (.oarr e sz S) b' m v hi W hD;exact h9
  exact Qce
 .have nv:g≠b:=λe2=>by
   subst e2;rcases k.newobj i _ g hi y8 with⟨i0,o0,h6,h7⟩|h6
   .grind
   omega
  rw[vh g nv];exact k.frame g pa qz
 exact Qcf
end
end
section
variable {P:Program} {E:Ent}
section
variable{e:Env}{w:World}{o:Oper}{hu:AExit->Env->Prop}{om:Array Oper}{ds:List (Option Tmp)}{K:Env->Prop}
def OK{c:Ctx}{a:Act}(s:Sim E.N c e a w)(k:E.ok c e.h w){K Kp:V->mz->Prop}(h:xw P e o.op K Kp){next:Act->World->Prop}{hu:Exit->Act->World->Prop}
  (fQ:∀v Y c' w' u,K v Y->c.le c'->HSim c' Y w'->E.ok c' Y w'->Rel c' v u->next (a.put o.dst u) w')
  (Cb:∀v Y c' w' u,Kp v Y->c.le c'->HSim c' Y w'->E.ok c' Y w'->Rel c' v u->hu (.panic [⟨u,false,false⟩]) a w'):o.wp P a w next hu:=by
 have nZ:∀o':Oper,o'=o->o'.op=o.op:=λ_ h=>by rw[h]
 cases p8:o.op with
 |box T x =>
  rw[p8]at h;obtain⟨nz,pg,hK⟩:=h;have G:=yh s nz x Z;obtain⟨O,U⟩:=G.cells pg;obtain⟨c',nh,s',k',hb⟩:=Rc s.hs k T O U;exact cL (w':=w.alloc (.cells (a.eval x).cells T)) (v:=.pointer (some ⟨w.heap.size,0,none⟩)) qf7
   (fQ _ _ _ _ _ hK nh s' k' (.ptr _ _ _ hb))
 |alloc T =>
  rw[p8]at h;obtain⟨hk,hK⟩:=h;obtain⟨i,d,hI,O,U,h3,h4,h5,h6,h7,h8⟩:=rk (P:=P) (t:=T) rfl hk;rw[h6]at hK;obtain⟨g1,g2⟩:=GX c h8;obtain⟨c',nh,s',k',hb⟩:=Rc s.hs k T g1 g2;have iH:(zeroValue T).run P w=.ok hI w:=qfy;exact cL (w':=w.alloc (.cells hI.cells T)) (v:=.pointer (some ⟨w.heap.size,0,none⟩)) qf5
   (fQ _ _ _ _ _ hK nh s' k' (.ptr _ _ _ hb))
 |store T ad x =>
  rw[p8]at h;obtain⟨nz,h⟩:=h;have dQ:=yh s nz ad Z;have ss:=yh s nz x Z;split at h
  .rename_i i off hga;rw[hga]at dQ;split at h
   .rename_i xs hi;obtain⟨pg,p6,hk,nh,hK⟩:=h;obtain⟨b,lE,hb⟩:=As dQ;obtain⟨O,U⟩:=ss.cells pg;obtain⟨b',vs,T',g1,g2,g3,g4⟩:=s.hs.obj i _ hi;rw[hb]at g1;cases g1;obtain⟨iT,d,hI,t1,t2,t3,t4,t5,_⟩:=rk (P:=P) (t:=T) rfl hk;have tc:∀v,v∈(a.eval x).cells.toList->v.oneCell'=true:=λv hv=>by grind[iw]
    have pj:=qjp P b off T' (a.eval x).cells.toList 0 vs w g2 W tc;simp only[jt]at pj;have hsize:(a.eval x).cells.size=iT.size:=J;have r7:(execOp a.eval o).run P w=.ok .skip (w.setRow b (vs.toList.take off++(a.eval x).cells.toList++vs.toList.drop (off+(a.eval x).cells.toList.length)).toArray):=by exact Qcg
    have iA:sN c (xs.take off++(e.getS x).cells++xs.drop (off+(e.getS x).cells.length)) (vs.toList.take off++(a.eval x).cells.toList++vs.toList.drop (off+(a.eval x).cells.toList.length)).toArray:=by have lX:(a.eval x).cells.toList.length=(e.getS x).cells.length:=J;refine⟨qhg,λj y v hy hv=>?_⟩;have fB:(vs.toList.take off++(a.eval x).cells.toList++vs.toList.drop (off+(a.eval x).cells.toList.length))[j]?=some v:=W;grind
    obtain⟨s',k'⟩:=Oa s.hs k hi hb g2 iA.1 iA.2;exact Qch
   grind
  .rename_i i n sz r q hga;rw[hga]at dQ;split at h
   .rename_i tt rr S hi;obtain⟨hn,rfl,G,pg,kS,p6,hk,nh,hK⟩:=h;obtain⟨w',r7,s',k'⟩:=qqr (P:=P) (E:=E) s.hs k p8 dQ ss hi hn G pg kS p6 hk nh;exact Qch
   .rename_i tt rr S hi;obtain⟨hn,rfl,G,pg,p6,hk,nh,hK⟩:=h;obtain⟨w',r7,s',k'⟩:=qqh (P:=P) (E:=E) s.hs k p8 dQ ss hi hn G pg p6 hk nh;exact Qch
   grind
  grind
 |buildSlice T n parts =>
  rw[p8]at h;simp only[xw]at h;split at h
  .rename_i el sz hk;split at h
   .rename_i S G;obtain⟨nz,hn,hpos,fK,vd,p6,hK⟩:=h;have pq:=yh s nz;obtain⟨v,w',c',pj,nh,s',k',o6⟩:=R9 (P:=P) (E:=E) s.hs k hk (parts:=parts.toList.map λp=>(p.1,e.getS p.2)) (qs:=parts.map λp=>(p.1,a.eval p.2)) Z (λj p q hp hq=>by
     simp only[ja,iy]at hp;obtain⟨x,hx,rfl⟩:=hp;simp only[mg,iy]at hq;obtain⟨y,hy,rfl⟩:=hq;have:x=y:=W;subst this;exact⟨rfl,pq x.2 (ig.2 ⟨x,gw hx,rfl⟩)⟩) G hn hpos fK vd p6
    exact cL bs (fQ _ _ _ _ _ hK nh s' k' o6)
   split at h
   .rename_i cs G;obtain⟨nz,hpos,fK,vd,p6,hK⟩:=h;have pq:=yh s nz;obtain⟨v,w',c',pj,nh,s',k',o6⟩:=Su (P:=P) (E:=E) s.hs k hk (parts:=parts.toList.map λp=>(p.1,e.getS p.2)) (qs:=parts.map λp=>(p.1,a.eval p.2)) Z (λj p q hp hq=>by
     simp only[ja,iy]at hp;obtain⟨x,hx,rfl⟩:=hp;simp only[mg,iy]at hq;obtain⟨y,hy,rfl⟩:=hq;have:x=y:=W;subst this;exact⟨rfl,pq x.2 (ig.2 ⟨x,gw hx,rfl⟩)⟩) G hpos fK vd p6
    exact cL bs (fQ _ _ _ _ _ hK nh s' k' o6)
   grind
  grind
 |call cl =>
  obtain⟨callee,args,argTypes⟩:=cl;rw[p8]at h;cases callee with
  |value f =>
   obtain⟨nz,h⟩:=h;grind[JJ]
  |invoke r m=>exact h.elim
  |builtin b =>
   cases b with
   |append =>
    simp only[xw]at h;split at h
    .rename_i x y T T' hx hT;obtain rfl:args = #[x,y]:=mc hx;obtain rfl:argTypes = #[T,T']:=mc hT;obtain⟨nz,rfl,hA⟩:=h;have ss:=yh s nz x Z;have hry:=yh s nz y Z;obtain⟨r,Y,v',w',c',hK,pj,nh,s',k',G⟩:=qsu (P:=P) (ty:=o.type) s.hs k ss hry hA;exact cL (by simp only[execOp,p8,resolve,invoke,builtin,iu,je,iv,qjj,jd,kf,pj]) (fQ _ _ _ _ _ hK nh s' k' G)
    grind
   |delete =>
    simp only[xw]at h;split at h
    .rename_i m key T T' hx hT;obtain rfl:args = #[m,key]:=mc hx;obtain rfl:argTypes = #[T,T']:=mc hT;obtain⟨nz,h⟩:=h;have hrm:=yh s nz m Z;have hrk:=yh s nz key Z;split at h
     .rename_i kt et i st hk hm vX;split at h
      .rename_i es hes;split at h
       .rename_i l hl;obtain⟨hK,hF⟩:=h;obtain rfl:=G4 hl;rw[hm]at hrm;rw[vX]at hrk;obtain⟨w',pj,s',k'⟩:=Xh (P:=P) (T':=T') (ty:=o.type) (key:=st) s.hs k hk hK hrm hes;exact cL (by simp only[execOp,p8,resolve,invoke,builtin,iu,je,iv,qjj,jd,kf,hrk.val_inv,pj]) (fQ _ _ _ _ _ hF (.refl c) s' k' (.tuple [] #[] rfl (λj x v hx=>by simp at hx)))
       grind
      grind
     grind
    grind
   |_=>exact h.elim
 |range T x =>
  rw[p8]at h;obtain⟨nz,h⟩:=h;have ss:=yh s nz x Z;split at h
  .rename_i st hk hx;rw[hx]at ss;obtain⟨c',nh,s',k',y6⟩:=Yv s.hs k st;exact cL (by simp only[execOp,p8,ss.val_inv,iu,qrp (GC hk),je,iv]) (fQ _ _ _ _ _ h nh s' k' (.ptr _ _ _ y6))
  grind
 |next x isStr =>
  rw[p8]at h;cases isStr with
  |false=>exact h.elim
  |true =>
   obtain⟨nz,h⟩:=h;have ss:=yh s nz x Z;split at h
   .rename_i i hx;rw[hx]at ss;obtain⟨b,lE,hb⟩:=As ss;split at h
    .rename_i st p hi;obtain⟨b',g1,g2⟩:=s.hs.obj i _ hi;rw[hb]at g1;cases g1;have pj:=Tm (P:=P) g2 o.type;split at h
     .rename_i hp;rw[gh hp]at pj;obtain⟨s',k'⟩:=VA (p':=p+(Utf8.decode st p).2) s.hs k hi hb g2;refine cL (v:=.tuple #[.bool true,goInt p,.int .i32 (Utf8.decode st p).1]) qgj (fQ _ _ _ _ _ h (.refl c) s' k' (.tuple _ _ Z λj y v hy hv=>?_))
      match j with
      | 0=>simp at hy hv;subst hy;subst hv;exact .val _
      | 1=>simp at hy hv;subst hy;subst hv;exact .val _
      | 2=>simp at hy hv;subst hy;subst hv;exact .val _
      |j+3=>simp at hy
     rename_i hp;rw[gg hp]at pj;refine cL (v:=.tuple #[.bool false]) qgj (fQ _ _ _ _ _ h (.refl c) s.hs k (.tuple _ _ Z λj y v hy hv=>?_))
     match j with
     | 0=>simp at hy hv;subst hy;subst hv;exact .val _
     |j+1=>simp at hy
    grind
   grind
 |panic x =>
  rw[p8]at h;obtain⟨nz,hi,hF⟩:=h;have ss:=yh s nz x Z;have hv:∃t u,a.eval x=.iface t u:=by
   revert hi ss
   generalize e.getS x=y;generalize a.eval x=u;intro hi ss;cases y<;>simp only[V.isIface]at hi<;>first|(cases hi;done)|skip
   cases ss with
   |data h=>cases h
   |iface t y u h=>exact⟨_,_,rfl⟩
  obtain⟨t,u,hv⟩:=hv;have pj:(execOp a.eval o).run P w=.halt (.panic (a.eval x)) w:=by simp only[execOp,p8,hv,iu];rfl
  unfold Oper.wp;rw[pj,Oper.upon_panic];exact Cb _ _ _ _ _ hF (.refl c) s.hs k ss
 |makeMap T r =>
  rw[p8]at h;simp only[xw]at h;split at h
  .rename_i kt et hk;obtain⟨G,hF⟩:=h;obtain⟨c',nh,s',k',y6⟩:=V1 s.hs k;have pj:(Instr.makeMap T (r.map a.eval)).run P w=.ok (.map (some w.heap.size)) (w.alloc (.map #[] 0)):=Zk (Dt hk) _ λv hv=>by
    simp only[iy]at hv;obtain⟨x,rfl,rfl⟩:=hv;obtain⟨nz,hint⟩:=G;have ss:=yh s nz x Z
    revert hint ss
    generalize e.getS x=y;intro hint ss;unfold V.isInt at hint;split at hint
    .exact⟨_,_,ss.val_inv⟩
    cases hint
   exact cL bs (fQ _ _ _ _ _ hF nh s' k' (.mapr _ _ y6))
  grind
 |mapUpdate T m key x =>
  rw[p8]at h;obtain⟨nz,h⟩:=h;have hrm:=yh s nz m Z;have hrk:=yh s nz key Z;have ss:=yh s nz x Z;split at h
  .rename_i kt et i st hk hm vX;split at h
   .rename_i es hes;split at h
    .rename_i l hl;obtain⟨hK,hF⟩:=h;obtain rfl:=G4 hl;rw[hm]at hrm;rw[vX]at hrk;obtain⟨w',pj,s',k'⟩:=qn5 (P:=P) (key:=st) s.hs k hk hK hrm ss (rK hrk) hes;exact D8 (by simp only[execOp,p8,hrk.val_inv,iu,pj,je,iv]) (fQ _ _ _ _ _ hF (.refl c) s' k' (.top _))
    grind
   grind
  grind
 |_=>rw[p8]at h;exact h.elim
def Gp{hu:Exit->Act->World->Prop}{next:Act->World->Prop}{a:Act}{hr:Bool}(hw:Region.wanted o (yielded om a.tmps)=hr)(O:hr=true->o.wp P a w next hu)(U:hr=false->next (a.put o.dst undef) w) :
  if Region.wanted o (yielded om a.tmps)then o.wp P a w next hu\/(o.asks P a w/\LetsOut hu)else next (a.put o.dst undef) w:=by
 grind
def JO{Qc:Exit->Act->World->Prop}(h:zx P E.N hu ds o e K){c:Ctx}{a:Act}(Cp:∀hr,gB ds e o.guard=some hr->Region.wanted o (yielded om a.tmps)=hr)
  (s:Sim E.N c e a w) (k:E.ok c e.h w) {nx:Act->World->Prop} (hpn:∀v e' c' a' w' u,hu (.panic v) e'->Rel c' v u->Sim E.N c' e' a' w'->E.ok c' e'.h w'->Qc (.panic [⟨u,false,false⟩]) a' w') (jT:∀e' c' a' w',K e'->Sim E.N c' e' a' w'->E.ok c' e'.h w'->nx a' w') :
  if Region.wanted o (yielded om a.tmps)then o.wp P a w nx Qc\/(o.asks P a w/\LetsOut Qc)else nx (a.put o.dst undef) w:=by
 have next:∀(e':Env) (c':Ctx) (w':World) (v:V) (u:Value),K (({ e with h:=e'.h }:Env).put o.dst v)->iJ E.N o.dst->c.le c'->HSim c' e'.h w'->E.ok c' e'.h w'->Rel c' v u ->
   nx (a.put o.dst u) w':=λe' c' w' v u hF hd nh o9 qh G =>
  jT _ c' _ w' hF (s.put nh o9 (Cx hd) G) (by cases o.dst<;>exact qh)
 unfold zx at h;split at h
 .grind
 rename_i hr hG;obtain⟨hd,h⟩:=h;have hw:=Cp hr hG;have quiet:∀(v:V) (k':hr=true->∃u,(execOp a.eval o).run P w=.ok (.value u) w/\Rel c v u),K (e.put o.dst (wo o.guard hr v))->(if Region.wanted o (yielded om a.tmps)then o.wp P a w nx Qc\/(o.asks P a w/\LetsOut Qc)else nx (a.put o.dst undef) w):=by
  intro v hv hF;refine Gp hw (λkX=>?_) (λhGf=>?_)
  .obtain⟨u,Q,G⟩:=hv kX;refine cL Q (next e c w (wo o.guard hr v) u hF hd (.refl c) s.hs k ?_);unfold wo;split
   .exact G
   exact .opt _ _ _ (λ_=>G) (λhf=>by rw[kX]at hf;cases hf)
  refine next e c w (wo o.guard hr v) undef hF hd (.refl c) s.hs k ?_
  unfold wo;split
  .grind[gB,js]
  exact .opt _ _ _ (λht=>by rw[hGf]at ht;cases ht) (λ_=>rfl)
 split at h
 .rename_i x y hI p8;obtain⟨hp,hF⟩:=h;refine quiet _ (λkX=>?_) hF;rw[kX]at hp;obtain⟨b,hb,G⟩:=Ri (s.eval x) (s.eval y) (s.eval hI) hp;refine⟨_,?_,G⟩;simp only[execOp,p8,hb,asBool,iu,je,iv]
 split at h
 .rename_i heff hgd;obtain⟨nq,hF⟩:=h;refine quiet _ (λkX=>?_) (by first|exact hF|(rw[hgd];exact hF));obtain⟨nz,o9⟩:=nq kX;exact Gx s.hs (yh s nz) o9
 .rename_i heff hgd;rw[hgd]at hG;simp only[gB,js]at hG;refine Gp hw (λkX=>?_) (λhGf=>by rw[<-hG]at hGf;cases hGf);refine OK s k h (λv Y c' w' u hK nh o9 qh G=>next ⟨e.t,Y⟩ c' w' v u hK hd nh o9 qh G) (λv Y c' w' u hK nh o9 qh G=>?_);exact hpn v _ c' _ _ u hK G ⟨s.defers,s.size,λi=>(s.tmps i).mono nh,o9⟩ qh
 rename_i heff hgd;split at h
 .rename_i f args ts p8;split at h
  .rename_i py first pk hf
   rcases h with⟨r,G,hF⟩|⟨hGt0,nz,hp⟩
   .refine Gp hw (λkX=>?_) (λhGf=>?_)
    .obtain⟨nz,hp⟩:=G kX;refine JJ (E:=E) s k p8 nz hf (hp e.h) (λv Y c' w' u hR nh o9 qh iW=>?_) (λv Y c' w' u hR=>by cases hR.1);obtain⟨O,rfl⟩:=hR;cases O;exact next e c' w' _ u hF hd nh o9 qh (.opt _ _ _ (λ_=>iW) (λhf=>by rw[kX]at hf;cases hf))
    exact next e c w _ undef hF hd (.refl c) s.hs k (.opt _ _ _ (λht=>by rw[hGf]at ht;cases ht) (λ_=>rfl))
   refine Gp hw (λ_=>?_) (λhGf=>by rw[hGt0]at hGf;cases hGf);refine JJ (E:=E) s k p8 nz hf hp (λv Y c' w' u hR nh o9 qh iW=>?_) (λv Y c' w' u hR nh o9 qh iW=>?_)
   .exact next ⟨e.t,Y⟩ c' w' _ u hR hd nh o9 qh (.opt _ _ _ (λ_=>iW) (λhf=>by cases hf))
   exact hpn v _ c' _ _ u hR iW ⟨s.defers,s.size,λi=>(s.tmps i).mono nh,o9⟩ qh
  grind
 grind
def D3(h:zx P E.N hu ds o e K){c:Ctx}{a:Act}(Cp:∀hr,gB ds e o.guard=some hr->Region.wanted o (yielded om a.tmps)=hr)
  (s:Sim E.N c e a w) (k:E.ok c e.h w) {nx:Act->World->Prop} (jT:∀e' c' a' w',K e'->Sim E.N c' e' a' w'->E.ok c' e'.h w'->nx a' w') :
  if Region.wanted o (yielded om a.tmps)then o.wp P a w nx (kI E hu)\/(o.asks P a w/\LetsOut (kI E hu))else nx (a.put o.dst undef) w :=
 JO h Cp s k (λv _ c' _ _ _ hq G hs hk=>⟨.panic v,_,c',hq,G,hs,hk⟩) jT
def lF{hu:AExit->Env->Prop}{om:Array Oper}:∀(l:List Oper) (done:List Oper) (e:Env),om.toList=done++l->pB P E.N hu (done.map (·.dst)) l e->vZ P E om l hu e
 | [],done,e,_,h=>L6 h
 |o::l,done,e,dD,h=>by have ih:=λe'=>lF (hu:=hu) (om:=om) l (done++[o]) e' W;simp only[jr,jd,kf]at ih;intro c a w s k;simp only[pB]at h;exact D3 h (λhr hG=>CL dD s hG) s k λe' c' a' w' hK s' k'=>ih e' hK c' a' w' s' k'
def pY{id:Nat}{l:List Oper}(h:pB P E.N hu [] l e):AWp P E (.region id l.toArray false) hu e :=
 GG (lF l [] e Z W)
end
end
section
variable {P:Program} {E:Ent}
def jI:Nat->List V->List (Nat×V)
 |_,[]=>[]
 |k,x::xs=>(k,x)::jI (k+1) xs
theorem Fw:∀{xs:List V} {k i:Nat},oz (jI k xs) i=if k<=i then(xs[i - k]?).getD .top else .top
 | [],k,i=>by simp[jI,oz]
 |x::xs,k,i=>by
  simp only[jI,oz];by_cases h:k=i
  .grind
  have:(k == i)=false:=ej;rw[this,lh,Fw];grind
def vF(P:Program)(e:Env):ResultVar->SV
 | .tmp t=>⟨True,oz e.t t⟩
 | .cell a t=>zS P t (oz e.t a) e.h
def AQ:List V->V
 | [x]=>x
 |xs=>.tuple xs
def CI(P:Program)(e:Env):List ResultVar->Prop
 | []=>True
 |r::l=>(vF P e r).side/\CI P e l
def Lt{e:Env}:∀{l:List ResultVar},CI P e l->∀r,r∈l->(vF P e r).side
 | [],_,r,G=>by cases G
 |x::l,h,r,G=>by
  cases G with
  |head=>exact h.1
  |tail _ G=>exact Lt h.2 r G
def zA(P:Program)(rs:List ResultVar)(n0:Nat)(R:AEnd->mz->Prop)(e:Env):Prop :=
 CI P e rs/\∃r' Y,((AQ (rs.map λr=>(vF P e r).val)).norm e.h).Wk r'/\r'.under Y.length=true/\hwk e.h Y/\n0<=Y.length/\hUnder Y.length Y=true/\R (.ret r') Y
def Sl(n0:Nat)(R:AEnd->mz->Prop)(v:V)(e:Env):Prop :=
 ∃v' Y,(v.norm e.h).Wk v'/\v'.under Y.length=true/\hwk e.h Y/\n0<=Y.length/\hUnder Y.length Y=true/\R (.panic v') Y
def Af(P:Program)(rs:List ResultVar)(n0:Nat)(R:AEnd->mz->Prop):AExit->Env->Prop
 | .ret,e| .normal,e=>zA P rs n0 R e
 | .panic v,e=>Sl n0 R v e
 | .exit _,_=>False
def Ent.ok.withN{c:Ctx}{h:mz}{w:World}(k:E.ok c h w)(n:Nat):(⟨n,E.c,E.h,E.w⟩:Ent).ok c h w :=
 ⟨k.edom,k.ext,k.blk0,k.len,k.os,k.tape,k.output,k.size,k.frame,k.newobj,k.dold⟩
def Cf{c:Ctx}{e:Env}{a:Act}{w:World}(s:Sim E.N c e a w)(k:E.ok c e.h w){x r':V}{v:Value}(G:Rel c x v){Y:mz}(hw:(x.norm e.h).Wk r')(Q:r'.under Y.length=true)(hh:hwk e.h Y)(hn:E.h.length<=Y.length)
  (hhu:hUnder Y.length Y=true):∃c',HSim c' Y w/\E.ok c' Y w/\Rel c' r' v:=by
 obtain⟨s1,k1⟩:=BE s.hs k;have kH:=rQ s.hs G;have sim:Sim 1 (c.share e.h w) ⟨[(0,x.norm e.h)],e.h⟩ ⟨#[v],[]⟩ w:=⟨rfl,rfl,λi=>by
  cases i with
  |zero=>simpa[oz]using kH
  |succ i=>simp[oz];exact .top _,s1⟩
 obtain⟨c',s2,k2⟩:=Wk.mk (E:=⟨1,E.c,E.h,E.w⟩) (e:=⟨[(0,x.norm e.h)],e.h⟩) (e1:=⟨[(0,r')],Y⟩) hn hh hhu (by grind[wkT,oz]) _ _ _ sim (k1.withN 1);refine⟨c',s2.hs,⟨k2.edom,k2.ext,k2.blk0,k2.len,k2.os,k2.tape,k2.output,k2.size,k2.frame,k2.newobj,k2.dold⟩,?_⟩;have:=s2.tmps 0
 simp_all[oz]
open Classical in
def Gd{c:Ctx}{e:Env}{a:Act}{w:World}(s:Sim E.N c e a w)(fn:Func)(hs:CI P e fn.results.toList) :
  ∃v,(results fn a.tmps).run P w=.ok v w/\Rel c (AQ (fn.results.toList.map λr=>(vF P e r).val)) v:=by
 have one:∀r,r∈fn.results.toList->∃v,((match r with
   | .tmp t=>pure (a.tmps.getD t undef)
   | .cell b t=>do loadVar t (<-asAddr (a.tmps.getD b undef)):Sem Value)).run P w=.ok v w/\Rel c (vF P e r).val v:=by
  intro r G;have nq:=Lt hs r G;cases r with
  |tmp t=>exact⟨_,rfl,s.tmps t⟩
  |cell b t =>
   obtain⟨v,hv,pq⟩:=Mi (P:=P) (t:=t) s.hs (s.tmps b) nq;refine⟨v,?_,pq⟩;show((do loadVar t (<-asAddr (a.tmps.getD b undef)):Sem Value)).run P w=_;generalize a.tmps.getD b undef=ad at hv|-;simp only[Instr.loadAt,iu]at hv;simp only[iu];cases ad with
   |pointer p =>
    cases p with
    |none=>simp[Instr.sureAddr]at hv
    |some p=>simpa[Instr.sureAddr,asAddr]using hv
   |_=>simp[Instr.sureAddr]at hv
 obtain⟨g,hg⟩:∃g:ResultVar->Value,∀r,r∈fn.results.toList->((match r with
   | .tmp t=>pure (a.tmps.getD t undef)
   | .cell b t=>do loadVar t (<-asAddr (a.tmps.getD b undef)):Sem Value)).run P w=.ok (g r) w/\Rel c (vF P e r).val (g r):=by
  refine⟨λr=>if G:r∈fn.results.toList then(one r G).choose else undef,λr G=>?_⟩;simp only[dif_pos G];grind
 have hm:=Lv (P:=P) (w:=w) (f:=λr=>(match r with
   | .tmp t=>pure (a.tmps.getD t undef)
   | .cell b t=>do loadVar t (<-asAddr (a.tmps.getD b undef)):Sem Value)) (g:=g) fn.results (λr G=>(hg r G).1)
 have pj:(results fn a.tmps).run P w=.ok (if h:(fn.results.map g).size=1 then(fn.results.map g)[0]else .tuple (fn.results.map g)) w:=by unfold results;rw[iu];erw[hm];rfl
 refine⟨_,pj,?_⟩;by_cases O:(fn.results.map g).size=1
 .rw[dif_pos O];have s7:fn.results.toList.length=1:=W;obtain⟨r,G⟩:=List.length_eq_one_iff.1 s7;grind[AQ,mc]
 rw[dif_neg O];have hmk:AQ (fn.results.toList.map λr=>(vF P e r).val)=.tuple (fn.results.toList.map λr=>(vF P e r).val):=by
  generalize hl:fn.results.toList=l;have nv:l.length≠1:=W
  match l,nv with
  | [],_=>rfl
  | [x],h=>exact(h rfl).elim
  |x::y::l,_=>rfl
 rw[hmk];refine .tuple _ _ Z λj x v hx hv=>?_;simp only[ja,iy]at hx;grind
section
variable{f:FuncId}{code:Code}{R:AEnd->mz->Prop}
def GM{N:Nat}{c:Ctx}{h:mz}{w:World}(hs:HSim c h w){args:List V}{vs:Array Value}(ha:RelL c args vs)(B:args.length<=N) :
  Sim N c ⟨jI 0 args,h⟩ { tmps:=vs++Array.replicate (N - vs.size) undef,defers:=[] } w:=by
 refine⟨rfl,by simp[ha.1];omega,λi=>?_,hs⟩;rw[Fw,gh (il _),Nat.sub_zero];by_cases hi:i<args.length
 .have qj:i<vs.size:=by rw[ha.1];exact hi
  have e1:args[i]?=some args[i]:=fu;rw[e1];simp only[l6];have e2:(vs++Array.replicate (N - vs.size) undef).getD i undef=vs[i]:=by simp_all[jq,qjr]
  rw[e2];exact ha.2 i _ _ e1 (by simp[qj])
 rw[lf J];exact .top _
def Ke{fn:Func}{args:List V}{h:mz}(hf:P.funcs[f]?=some fn)(hb:fn.body=some code)(aM:(fn.name == "runtime.NumGoroutine")=false)(B:args.length<=fn.ntmps)
  (body:∀E:Ent,E.N=fn.ntmps->E.h=h->hUnder h.length h=true->AWp P E code (Af P fn.results.toList h.length R) ⟨jI 0 args,h⟩):ACalls P f args h R:=by
 refine⟨⟨fn,hf,fv,aM⟩,λc w vs hs ha=>?_⟩;have ok0:=Ent.ok.refl fn.ntmps hs;refine calls_of_wp hf hb (wp_mono (body ⟨fn.ntmps,c,h,w⟩ rfl rfl hs.hUnder c _ w ⟨rfl,by simp[ha.1];omega,λi=>?_,hs⟩ ok0) ?_)
 .rw[Fw,gh (il _),Nat.sub_zero];by_cases hi:i<args.length
  .have qj:i<vs.size:=by rw[ha.1];exact hi
   have e1:args[i]?=some args[i]:=fu;rw[e1];simp only[l6];have e2:(vs++Array.replicate (fn.ntmps - vs.size) undef).getD i undef=vs[i]:=by simp_all[jq,qjr]
   rw[e2];exact ha.2 i _ _ e1 (by simp[qj])
  rw[lf J];exact .top _
 rintro ex a' w' ⟨x',e',c',hq,hx,o9,ok'⟩;have fin:∀e'':Exit,(e''=.ret\/e''=.normal)->zA P fn.results.toList h.length R e'->bodyPost P fn (λe w'=>∃r Y c',R r Y/\EndR c' r e/\HSim c' Y w'/\(⟨0,c,h,w⟩:Ent).ok c' Y w') e'' a' w':=by
  rintro e'' he ⟨nq,r',Y,O,U,h3,h4,h5,hR⟩;obtain⟨v,hv,G⟩:=Gd (E:=⟨fn.ntmps,c,h,w⟩) (P:=P) o9 fn nq;obtain⟨c2,g1,g2,g3⟩:=Cf (E:=⟨fn.ntmps,c,h,w⟩) o9 ok' G O U h3 h4 h5;rcases he with rfl|rfl
  .exact⟨o9.defers,v,hv,.ret r',Y,c2,hR,g3,g1,g2.withN 0⟩
  exact⟨o9.defers,v,hv,.ret r',Y,c2,hR,g3,g1,g2.withN 0⟩
 cases x' with
 |normal=>cases ex<;>simp only[XR]at hx;exact fin _ (.inr rfl) hq
 |exit i=>exact hq.elim
 |ret=>cases ex<;>simp only[XR]at hx;exact fin _ (.inl rfl) hq
 |panic x =>
  cases ex with
  |panic ch =>
   cases ch with
   |nil=>simp[XR]at hx
   |cons p l =>
    cases l with
    |nil =>
     obtain⟨u,r,g⟩:=p;cases r<;>cases g<;>simp only[XR]at hx;obtain⟨v',Y,O,U,h3,h4,h5,hR⟩:=hq;obtain⟨c2,g1,g2,g3⟩:=Cf (E:=⟨fn.ntmps,c,h,w⟩) o9 ok' hx O U h3 h4 h5;exact⟨o9.defers,.panic v',Y,c2,hR,g3,g1,g2.withN 0⟩
    |cons=>simp[XR]at hx
  |_=>simp[XR]at hx
def C3(P:Program)(rs:List ResultVar)(r:V)(h:mz):AExit->Env->Prop
 | .ret,e| .normal,e=>CI P e rs/\(AQ (rs.map λr=>(vF P e r).val)).norm e.h=r/\hwk e.h h
 |_,_=>False
def Tu{fn:Func}{args:List V}{r:V}(hf:P.funcs[f]?=some fn)(hb:fn.body=some code)(aM:(fn.name == "runtime.NumGoroutine")=false)(B:args.length<=fn.ntmps)(G:r.under 0=true)
  (body:∀(E:Ent) (h:mz),E.N=fn.ntmps->E.h=h->hUnder h.length h=true->AWp P E code (C3 P fn.results.toList r h) ⟨jI 0 args,h⟩):APure P f args r:=λh =>
 Ke hf hb aM B λE hEN hEh Q=>(body E h hEN hEh Q).mono λx e hq=>by
  cases x with
  |ret=>exact⟨hq.1,r,h,hq.2.1▸.refl _,V.under_mono (il _) r G,hq.2.2,gj _,Q,rfl,rfl⟩
  |normal=>exact⟨hq.1,r,h,hq.2.1▸.refl _,V.under_mono (il _) r G,hq.2.2,gj _,Q,rfl,rfl⟩
  |exit i=>exact hq.elim
  |panic v=>exact hq.elim
def VR{args:List V}{r:V}(h:APure P f args r){hp:mz}(k:R (.ret r) hp):ACalls P f args hp R :=
 (h hp).mono λe Y he=>by obtain⟨rfl,rfl⟩:=he;exact k
end
end
section
variable{y:V}{g:Bool}{v:Value}{α:Type}
@[simp] theorem qw5(b:Bool):mL (.bool b)=.val (.bool b):=rfl
@[simp] theorem qtu(k:IntKind)(n:Int):mL (.int k n)=.val (.int k n):=rfl
@[simp] theorem qvd(l:List UInt8)(h:l.length<=68719476736):mL (.string ⟨l.toArray⟩)=.val (.string ⟨l.toArray⟩):=by grind[ByteArray.size,mL,bD]
@[simp] theorem qv5:mL .nilIface=.val .nilIface:=rfl
@[simp] theorem qwn:mL (.slice none 0 0)=.nils:=rfl
@[simp] theorem qwf(vs:List Value):mL (.agg ⟨vs⟩)=match Hn vs with
  |true=>.agg (vs.map bD)
  |false=>.val (.agg ⟨vs⟩):=rfl
@[simp] theorem qtc(b:Bool):bD (.bool b)=.val (.bool b):=rfl
@[simp] theorem qub(k:IntKind)(n:Int):bD (.int k n)=.val (.int k n):=rfl
@[simp] theorem qtj(l:List UInt8)(h:l.length<=68719476736):bD (.string ⟨l.toArray⟩)=.val (.string ⟨l.toArray⟩):=by grind[ByteArray.size,bD]
@[simp] theorem qvw:bD (.slice none 0 0)=.nils:=rfl
@[simp] theorem qq6(K:Env->Prop)(hu:AExit->Env->Prop)(e:Env):AExit.then K hu .normal e=K e:=rfl
@[simp] theorem qwd(K:Env->Prop)(hu:AExit->Env->Prop)(e:Env):AExit.then K hu .ret e=hu .ret e:=rfl
@[simp] theorem qs6(K:Env->Prop)(hu:AExit->Env->Prop)(i:Nat)(e:Env):AExit.then K hu (.exit i) e=hu (.exit i) e:=rfl
@[simp] theorem qtw(K:Env->Prop)(hu:AExit->Env->Prop)(v:V)(e:Env):AExit.then K hu (.panic v) e=hu (.panic v) e:=rfl
@[simp] theorem quc(i:Nat)(hu:AExit->Env->Prop)(e:Env):AExit.inBlock i hu .normal e=hu .normal e:=rfl
@[simp] theorem qva(i:Nat)(hu:AExit->Env->Prop)(e:Env):AExit.inBlock i hu .ret e=hu .ret e:=rfl
@[simp] theorem qv0(i j:Nat)(hu:AExit->Env->Prop)(e:Env):AExit.inBlock i hu (.exit j) e=if j=i then hu .normal e else hu (.exit j) e:=rfl
@[simp] theorem qup(i:Nat)(hu:AExit->Env->Prop)(v:V)(e:Env):AExit.inBlock i hu (.panic v) e=hu (.panic v) e:=rfl
@[simp] theorem qtr(h:mz):hwk h h=True:=eq_true (hwk.refl h)
@[simp] theorem qwq(h l:mz):hwk (h++l) h=True:=eq_true (hwk.app0 h)
@[simp] theorem qwr(x:V):x.Wk x=True:=eq_true (.refl x)
@[simp] theorem qw8(x:V):x.Wk .top=True:=eq_true (.top x)
@[simp] theorem qti:V.nils.Wk (.slice [])=True:=eq_true .nils
def Uk{hI:V}:kQ (.val (.bool true)) y hI=y.strip:=by grind[V.strip,kQ]
def SR{hI:V}:kQ (.val (.bool false)) y hI=hI.strip:=by grind[V.strip,kQ]
def Xy{hI:V}:kQ (.opt g (.val v)) y hI=kQ (.val v) y hI:=rfl
def qn7{x hI:V}:kQ x (.opt g (.val v)) hI=kQ x (.val v) hI:=rfl
def qq5{x:V}:kQ x y (.opt g (.val v))=kQ x y (.val v):=rfl
def Wd{b p q:Bool}:kQ (.val (.bool b)) (.val (.bool p)) (.val (.bool q))=.val (.bool (bif b then p else q)):=rfl
@[simp] theorem RowsLen.nil(sz:Nat):RowsLen sz []=True:=eq_true (λ_ h=>by cases h)
@[simp] theorem RowsLen.cons(sz:Nat)(r:List V)(l:List (List V)):RowsLen sz (r::l)=(r.length=sz/\RowsLen sz l):=by simp[RowsLen]
@[simp] theorem RowsLen.map(sz:Nat)(f:α->List V)(l:List α)(h:∀x,(f x).length=sz):RowsLen sz (l.map f)=True:=by simp[RowsLen,h]
@[simp] theorem RowsLen.take(sz n:Nat)(l:List (List V))(h:RowsLen sz l):RowsLen sz (l.take n)=True:=eq_true (λr G=>h r (qi2 G))
@[simp] theorem RowsLen.drop(sz n:Nat)(l:List (List V))(h:RowsLen sz l):RowsLen sz (l.drop n)=True:=eq_true (λr G=>h r (qjh G))
@[simp] theorem RowsLen.app(sz:Nat)(l l':List (List V)):RowsLen sz (l++l')=(RowsLen sz l/\RowsLen sz l'):=by grind[RowsLen]
@[simp] theorem qvu{β:Type}(f:α->β)(l:List α):(l.map f).take l.length=l.map f:=ll Z
end
attribute [go_sem] Uk SR Xy qn7 qq5 Wd
attribute [go_sem] Hn pB zx gB iJ cO wx wo Env.put sn Env.get V.has Env.getS V.strip oz jI xw CQ Op.operands Call.operands
 FZ KI ET iL rZ zC V.isInt V.isIface kK zS CZ Ab Eh zX BF DZ Eu C2 DG EH DT Eo TK.agg V.cells V.cellsOk V.one V.isData sL Co Cz Ae wI AJ sY SV.no Value.oneCell'
 C3 Af zA Sl CI vF AQ V.norm qu V.under q9 wkT wkL
inductive DK where
 |quiet (rd:Option Nat)
 |fresh (xs:List V)
 |store (i off:Nat) (cs:List V)
structure DR where
 dst:Option Tmp
 res:V
 k:DK
instance:Inhabited DR:=⟨⟨none,.top,.quiet none⟩⟩
def DR.next(r:DR)(e:Env):Env :=
 match r.k with
 | .fresh xs=>({ e with h:=e.h++[.cells xs] }:Env).put r.dst r.res
 |_=>e.put r.dst r.res
def A7(e:Env):Op->Option Nat
 | .load _ a=>match e.getS a with
  | .ptr i _=>some i
  |_=>none
 |_=>none
def AObj.kept:AObj->Bool
 | .raw .. | .uarr .. | .oarr .. | .map ..=>true
 |_=>false
def MC(h Y:mz):Prop:=∀(i:Nat) (o:AObj),o.kept=true->h[i]?=some o->Y[i]?=some o
def D9(P:Program)(f:FuncId)(args:List V)(r:V)(h:mz):Prop:=∀Y,MC h Y->ACalls P f args Y λe h''=>e=.ret r/\h''=Y
def APure.at{P:Program}{f:FuncId}{args:List V}{r:V}(k:APure P f args r)(h:mz):D9 P f args r h:=λY _=>k Y
def rE:Op->Bool
 | .store ..=>true
 |_=>false
def cA(P:Program)(N:Nat)(ds:List (Option Tmp))(o:Oper)(e:Env)(K:DR->Prop):Prop :=
 match gB ds e o.guard with
 |none=>False
 |some hr =>
  iJ N o.dst /\
  match o.op with
  | .pick x y hI=>CQ hr (e.get x) (e.get y) (e.get hI)/\K ⟨o.dst,wo o.guard hr (kQ (e.get x) (e.get y) (e.get hI)),.quiet none⟩
  | .box _ x=>o.guard=none/\sn e true [x]/\(e.getS x).cellsOk=true/\K ⟨o.dst,.ptr e.h.length 0,.fresh (e.getS x).cells⟩
  | .alloc T=>o.guard=none/\nj P T≠.other/\K ⟨o.dst,.ptr e.h.length 0,.fresh (o8 P T)⟩
  | .store T a x=>o.guard=none/\o.dst=none/\sn e true [a,x]/\nj P T≠.other/\(e.getS x).cellsOk=true/\(e.getS x).cells.length=oh P T /\
   match e.getS a with
   | .ptr i off=>match e.h[i]? with
    |some (.cells xs)=>off+(e.getS x).cells.length<=xs.length/\K ⟨none,.top,.store i off (e.getS x).cells⟩
    |_=>False
   |_=>False
  | .buildSlice T n parts =>
   match nj P T with
   | .slice el sz=>match sL e.h sz 0 (parts.toList.map λp=>(p.1,e.getS p.2))with
    |some S=>hr=true/\sn e true (parts.toList.map (·.2))/\S.length=n/\0<sz/\n * sz<=16777216/\nj P el≠.other/\oh P el=sz/\K ⟨o.dst,wo o.guard hr (.slice S),.quiet none⟩
    |none=>match Co sz n (parts.toList.map λp=>(p.1,e.getS p.2))with
     |some cs=>hr=true/\sn e true (parts.toList.map (·.2))/\0<sz/\sz<=16777216/\nj P el≠.other/\oh P el=sz/\K ⟨o.dst,wo o.guard hr (.lit cs),.quiet none⟩
     |none=>False
   |_=>False
  | .call { callee:=.value f,args,.. }=>match e.getS f with
   | .fn (.func py) first pk=>∃r,(hr=true->sn e true (f::args.toList)/\D9 P py (qu e.h (first++args.toList.map e.getS++pk)) r e.h)/\K ⟨o.dst,wo o.guard hr r,.quiet none⟩
   |_=>False
  |op=>(hr=true->sn e true op.operands.toList/\(wx P e.getS e.h op).side)/\K ⟨o.dst,wo o.guard hr (wx P e.getS e.h op).val,.quiet (A7 e op)⟩
def mO(P:Program)(N:Nat):List (Option Tmp)->List Oper->Env->List DR->(List DR->Env->Prop)->Prop
 |_,[],e,nw,K=>K nw e
 |ds,o::l,e,nw,K=>cA P N ds o e λr=>mO P N (ds++[o.dst]) l (r.next e) (nw++[r]) K
def IT{P:Program}{N:Nat}{ds:List (Option Tmp)}{o:Oper}{e:Env}{K:DR->Prop}(h:cA P N ds o e K):∃r,cA P N ds o e (· = r)/\K r:=by
 unfold cA at h|-;split at h
 .grind
 rename_i hr hG;simp only[hG];obtain⟨hd,h⟩:=h;split at h
 .grind
 .grind
 .grind
 .grind
 .rename_i T n parts p8;split at h
  .grind
  grind
 .grind
 grind
def oj(e:Env):List DR->Env
 | []=>e
 |r::l=>oj (r.next e) l
def Bv{P:Program}{N:Nat}:∀{l:List Oper} {ds:List (Option Tmp)} {e:Env} {nw:List DR} {K:List DR->Env->Prop},mO P N ds l e nw K ->
  ∃R:List DR,R.length=l.length/\(∀(k:Nat) (o:Oper),l[k]?=some o->cA P N (ds++(l.take k).map (·.dst)) o (oj e (R.take k)) (λr=>R[k]?=some r))/\K (nw++R) (oj e R)
 | [],ds,e,nw,K,h=>⟨[],rfl,Z,by simpa[oj,mO]using h⟩
 |o::l,ds,e,nw,K,h=>by
  obtain⟨r,O,U⟩:=IT (K:=λr=>mO P N (ds++[o.dst]) l (r.next e) (nw++[r]) K) h;obtain⟨R,hl,hk,hK⟩:=Bv U;refine⟨r::R,fl,λk o' ho=>?_,by simpa[oj]using hK⟩;cases k with
  |zero =>
   simp at ho;subst ho;simpa[oj,eq_comm]using O
  |succ k =>
   have:=hk k o' W;simpa[oj,jf]using this
def xy:List DR->mz->mz
 | [],h=>h
 |r::l,h=>match r.k with
  | .store i off cs=>xy l (match h[i]? with
   |some (.cells xs)=>h.set i (.cells (xs.take off++cs++xs.drop (off+cs.length)))
   |_=>h)
  |_=>xy l h
section
variable{e:Env}{h:mz}{i:Nat}{l:List DR}
def bT(X:Nat->Bool)(t:Tmp):Nat->List DR->V->V
 |_,[],x=>x
 |k,r::l,x=>bT X t (k+1) l (bif X k&&decide (r.dst=some t)then r.res else x)
def ud(X:Nat->Bool):Nat->List DR->mz
 |_,[]=>[]
 |k,r::l=>match r.k with
  | .fresh xs=>(bif X k then AObj.cells xs else .none)::ud X (k+1) l
  |_=>ud X (k+1) l
def zw(X:Nat->Bool):Nat->List DR->List DR
 |_,[]=>[]
 |k,r::l=>bif X k then r::zw X (k+1) l else zw X (k+1) l
theorem zU{X h':Nat->Bool}{t:Tmp}:∀{l:List DR} {k:Nat} {x:V},(∀j r,l[j]?=some r->r.dst=some t->X (k+j)=h' (k+j))->bT X t k l x=bT h' t k l x
 | [],_,_,_=>rfl
 |r::l,k,x,h=>by
  simp only[bT];have L:(X k&&decide (r.dst=some t))=(h' k&&decide (r.dst=some t)):=by
   by_cases hd:r.dst=some t
   .have:=h 0 r rfl hd;grind
   simp[hd]
  rw[L];exact zU λj r' G hd=>by
   have:=h (j+1) r' W hd
   rwa [show k+(j+1)=k+1+j from by omega]at this
theorem CV{X:Nat->Bool}{t:Tmp}:∀{l:List DR} {k:Nat} {x:V},(∀j r,l[j]?=some r->X (k+j)=true->r.dst≠some t)->bT X t k l x=x
 | [],_,_,_=>rfl
 |r::l,k,x,h=>by
  have L:(X k&&decide (r.dst=some t))=false:=by
   by_cases hX:X k=true
   .simp[h 0 r rfl J]
   simp[hX]
  simp only[bT,L,lh];exact CV λj r' G hX=>h (j+1) r' W W
def B9{X:Nat->Bool}{t:Tmp}:∀{l:List DR} {k i:Nat} {r:DR} {x:V},l[i]?=some r->(∀j r',l[j]?=some r'->r'.dst=r.dst->r.dst≠none->j=i) ->
  bT (λj=>if j=k+i then true else X j) t k l x=if r.dst=some t then r.res else bT X t k l x
 | [],_,_,_,_,h,_=>by simp at h
 |a::l,k,0,r,x,h,Q=>by
  simp at h;subst h;simp only[bT,jt,iz,jb];have tY:∀y,bT (λj=>if j=k then true else X j) t (k+1) l y=bT X t (k+1) l y:=λy=>zU λj r' _ _=>by grind
  rw[tY];by_cases hd:a.dst=some t
  .rw[gh hd,ki hd,lu];exact CV λj r' o6 _ zn=>by have:=Q (j+1) r' W W W;omega
  grind
 |a::l,k,i+1,r,x,h,Q=>by
  have nv:(if k=k+(i+1)then true else X k)=X k:=gg J;simp only[bT];rw[nv];have hf:(λj=>if j=k+(i+1)then true else X j)=(λj=>if j=k+1+i then true else X j):=W;rw[hf];exact B9 (X:=X) (t:=t) (k:=k+1) (l:=l) (i:=i) (r:=r) W λj r' o6 hd hn=>by have:=Q (j+1) r' W hd hn;omega
theorem Hq{X:Nat->Bool}{t:Tmp}:∀(R:List DR) (n k:Nat) (x:V),bT X t k (R.take n) x=bT (λj=>decide (j<k+n)&&X j) t k R x
 | [],n,k,x=>by simp[bT]
 |r::R,0,k,x=>by grind[CV]
 |r::R,n+1,k,x=>by simp only[qix,bT];rw[Hq R n (k+1)];grind
theorem Ck{t:Tmp}:∀(R:List DR),oz (oj e R).t t=bT (λ_=>true) t 0 R (oz e.t t):=by
 intro R;have gen:∀(R:List DR) (k:Nat) (e:Env),oz (oj e R).t t=bT (λ_=>true) t k R (oz e.t t):=by
  intro R
  induction R with
  |nil=>intro k e;rfl
  |cons r R ih =>
   intro k e;simp only[oj,bT,jb];rw[ih (k+1)];congr 1;have zI:∀e':Env,oz (e'.put r.dst r.res).t t=bif decide (r.dst=some t)then r.res else oz e'.t t:=λe'=>by
    cases hd:r.dst with
    |none=>simp[Env.put]
    |some d =>
     grind[Env.put,oz,js]
   grind[DR.next]
 grind
theorem Bm(R:List DR):(oj e R).h=e.h++ud (λ_=>true) 0 R:=by
 have gen:∀(R:List DR) (k:Nat) (e:Env),(oj e R).h=e.h++ud (λ_=>true) k R:=by
  intro R
  induction R with
  |nil=>intro k e;simp[oj,ud]
  |cons r R ih =>
   intro k e;simp only[oj];rw[ih (k+1)];have zI:∀(e':Env) d v,(e'.put d v).h=e'.h:=λe' d v=>by cases d<;>rfl
   unfold DR.next
   grind[ud]
 grind
def mN(R:List DR)(k:Nat):Nat:=(ud (λ_=>true) 0 (R.take k)).length
def CJ{X:Nat->Bool}:∀(R:List DR) (k i:Nat) (r:DR) (xs:List V),R[i]?=some r->r.k=.fresh xs ->
  (ud X k R)[(ud (λ_=>true) k (R.take i)).length]?=some (bif X (k+i)then .cells xs else .none)
 | [],_,_,_,_,h,_=>by simp at h
 |a::R,k,0,r,xs,h,hk=>by grind[ud]
 |a::R,k,i+1,r,xs,h,hk=>by have:=CJ (X:=X) R (k+1) i r xs W hk;grind[ud]
theorem xE{X:Nat->Bool}:∀(R:List DR) (k j:Nat) (o:AObj),(ud X k R)[j]?=some o->∃i r xs,R[i]?=some r/\r.k=.fresh xs/\(ud (λ_=>true) k (R.take i)).length=j/\o=bif X (k+i)then .cells xs else .none
 | [],_,_,_,h=>by simp[ud]at h
 |a::R,k,j,o,h=>by
  simp only[ud]at h;cases hk:a.k with
  |fresh ys =>
   rw[hk]at h;cases j with
   |zero =>
    simp at h;exact⟨0,a,ys,rfl,hk,by simp[ud],by rw[<-h];simp⟩
   |succ j =>
    obtain⟨i,r,xs,O,U,h3,h4⟩:=xE R (k+1) j o ej;exact⟨i+1,r,xs,da,U,by simp only[qix,ud,hk,jp,h3],qgd⟩
  |quiet rd =>
   exact Qci
  |store a1 a2 a3 =>
   exact Qci
def Lw{X:Nat->Bool}:∀(R:List DR) (k i:Nat) (r:DR) (xs:List V),R[i]?=some r->r.k=.fresh xs ->
  ud (λj=>if j=k+i then true else X j) k R=(ud X k R).set (ud (λ_=>true) k (R.take i)).length (.cells xs)
 | [],_,_,_,_,h,_=>by simp at h
 |a::R,k,0,r,xs,h,hk=>by
  simp at h;subst h;simp only[ud,hk,jt,iz,qi6,ju,List.set_cons_zero,List.cons.injEq,lu,true_and];have:∀(R:List DR) (m:Nat),k<m->ud (λj=>if j=k then true else X j) m R=ud X m R:=by
   intro R
   induction R with
   |nil=>intro m _;rfl
   |cons b R ih =>
    grind[ud]
  grind
 |a::R,k,i+1,r,xs,h,hk=>by
  have:=Lw (X:=X) R (k+1) i r xs W hk;rw[show k+1+i=k+(i+1)from by omega]at this;have nv:(if k=k+(i+1)then true else X k)=X k:=gg J;simp only[qix,ud];cases a.k with
  |fresh ys =>
   grind
  |_=>exact this
def Gn{X:Nat->Bool}:∀(R:List DR) (k i:Nat) (r:DR),R[i]?=some r->(∀xs,r.k≠.fresh xs)->ud (λj=>if j=k+i then true else X j) k R=ud X k R
 | [],_,_,_,_,_=>rfl
 |a::R,k,0,r,h,hk=>by
  simp at h;subst h;have:∀(R:List DR) (m:Nat),k<m->ud (λj=>if j=k then true else X j) m R=ud X m R:=by
   intro R
   induction R with
   |nil=>intro m _;rfl
   |cons b R ih =>
    grind[ud]
  simp_all[ud,jt]
 |a::R,k,i+1,r,h,hk=>by have:=Gn (X:=X) R (k+1) i r W hk;grind[ud]
def Bw(xs:List V)(off:Nat)(cs:List V):List V:=xs.take off++cs++xs.drop (off+cs.length)
def dL(r:DR)(h:mz):mz :=
 match r.k with
 | .store i off cs=>match h[i]? with
  |some (.cells xs)=>h.set i (.cells (Bw xs off cs))
  |_=>h
 |_=>h
theorem gN:∀(l:List DR) (h:mz),xy l h=l.foldl (λh r=>dL r h) h
 | [],_=>rfl
 |r::l,h=>by
  simp only[xy,kr,dL];cases r.k with
  |store i off cs=>exact gN l _
  |_=>exact gN l _
theorem MO(r:DR)(h:mz):(dL r h).length=h.length:=by grind[dL]
theorem qnw(l:List DR)(h:mz):(xy l h).length=h.length:=by
 rw[gN]
 induction l generalizing h with
 |nil=>rfl
 |cons r l ih=>rw[kr,ih,MO]
theorem YQ{r:DR}(qz:∀off cs,r.k≠.store i off cs):(dL r h)[i]?=h[i]?:=by grind[gv,dL]
theorem Tf(qz:∀r,r∈l->∀off cs,r.k≠.store i off cs):(xy l h)[i]?=h[i]?:=by
 rw[gN]
 induction l generalizing h with
 |nil=>rfl
 |cons r l ih =>
  rw[kr,ih (λr' G=>qz r' fb),YQ (qz r Z)]
theorem Ap(r:DR)(h:mz)(i:Nat):(∀o,(∀xs,o≠AObj.cells xs)->((dL r h)[i]?=some o↔h[i]?=some o)):=by grind[ji,gv,dL]
theorem HT(l:List DR)(h:mz)(i:Nat):(∀o,(∀xs,o≠AObj.cells xs)->((xy l h)[i]?=some o↔h[i]?=some o)):=by
 intro o ho;rw[gN]
 induction l generalizing h with
 |nil=>exact Iff.rfl
 |cons r l ih=>rw[kr,ih,Ap r h i o ho]
def PF{r:DR}(Ay:∀i off cs xs,r.k=.store i off cs->h[i]?=some (.cells xs)->off+cs.length<=xs.length){xs:List V}(hi:h[i]?=some (.cells xs)) :
  ∃ys,(dL r h)[i]?=some (.cells ys)/\ys.length=xs.length:=by
 unfold dL;split
 .rename_i i' off cs hk;split
  .grind[ji,Bw,gv]
  grind
 grind
def qqq:∀{h:mz},(∀r,r∈l->∀i off cs,r.k=.store i off cs->∀ys,h[i]?=some (.cells ys)->off+cs.length<=ys.length)->∀{i:Nat} {xs:List V},h[i]?=some (.cells xs) ->
  ∃ys,(xy l h)[i]?=some (.cells ys)/\ys.length=xs.length:=by
 induction l with
 |nil=>intro h _ i xs hi;exact⟨xs,hi,rfl⟩
 |cons r l ih =>
  intro h Ay i xs hi;rw[gN,kr,<-gN];obtain⟨ys,O,U⟩:=PF (r:=r) (h:=h) (λi off cs xs hk hx=>Ay r Z i off cs hk xs hx) hi;obtain⟨zs,h3,h4⟩:=ih (h:=dL r h) (λr' G i off cs hk ys hy=>by
   cases hh:h[i]? with
   |none =>
    grind[List.getElem?_eq_none_iff,MO]
   |some o =>
    cases o with
    |cells zs =>
     obtain⟨us,g1,g2⟩:=PF (r:=r) (h:=h) (λi off cs xs hk hx=>Ay r Z i off cs hk xs hx) hh;rw[hy]at g1;grind
    |none=>have:=(Ap r h i .none Z).2 hh;rw[this]at hy;cases hy
    |map es=>have:=(Ap r h i (.map es) Z).2 hh;rw[this]at hy;cases hy
    |iter a b=>have:=(Ap r h i (.iter a b) Z).2 hh;rw[this]at hy;cases hy
    |raw a b d=>have:=(Ap r h i (.raw a b d) Z).2 hh;rw[this]at hy;cases hy
    |uarr a b d=>have:=(Ap r h i (.uarr a b d) Z).2 hh;rw[this]at hy;cases hy
    |oarr a b d=>have:=(Ap r h i (.oarr a b d) Z).2 hh;rw[this]at hy;cases hy
    |arr a b d=>have:=(Ap r h i (.arr a b d) Z).2 hh;rw[this]at hy;cases hy) O
  grind
def yJ{X:Nat->Bool}:∀{R:List DR} {k:Nat} {r:DR},r∈zw X k R->∃j,R[j]?=some r/\X (k+j)=true
 | [],_,_,h=>by simp[zw]at h
 |a::R,k,r,h=>by
  simp only[zw]at h;cases hX:X k with
  |true =>
   rw[hX,lu]at h;cases h with
   |head=>exact⟨0,rfl,by simpa using hX⟩
   |tail _ h =>
    obtain⟨j,O,U⟩:=yJ h;exact⟨j+1,da,by rwa [show k+(j+1)=k+1+j from by omega]⟩
  |false =>
   rw[hX,lh]at h;obtain⟨j,O,U⟩:=yJ h;exact⟨j+1,da,by rwa [show k+(j+1)=k+1+j from by omega]⟩
def Kd{X:Nat->Bool}:∀{R:List DR} {k i:Nat} {r:DR},R[i]?=some r->X (k+i)=false->((∀a b cs,r.k≠.store a b cs)\/∀j r',R[j]?=some r'->i<j->X (k+j)=true->∀a b cs,r'.k≠.store a b cs)->∀h,
  xy (zw (λj=>if j=k+i then true else X j) k R) h=dL r (xy (zw X k R) h):=by
 have quiet:∀{l:List DR} {h:mz},(∀r,r∈l->∀a b cs,r.k≠.store a b cs)->xy l h=h:=by
  intro l
  induction l with
  |nil=>intro h _;rfl
  |cons r l ih =>
   intro h hq;rw[gN,kr,<-gN,ih (λr' G=>hq r' fb)];unfold dL;grind
 have same:∀(k:Nat) (R:List DR) (m:Nat),k<m->zw (λj=>if j=k then true else X j) m R=zw X m R:=by
  intro k R
  induction R with
  |nil=>intro m _;rfl
  |cons b R ih =>
   grind[zw]
 have idle:∀{r:DR} {h:mz},(∀a b cs,r.k≠.store a b cs)->dL r h=h:=by grind[dL]
 intro R
 induction R with
 |nil=>intro k i r h;simp at h
 |cons a R ih =>
  intro k i r G hX fT h;cases i with
  |zero =>
   simp at G;subst G;simp only[jt]at hX|-;simp only[zw,iz,hX,lu,lh];rw[same k R (k+1) J,gN,kr,<-gN];rcases fT with hq|hq
   .grind
   have nz:∀r',r'∈zw X (k+1) R->∀a b cs,r'.k≠.store a b cs:=λr' o6=>by obtain⟨j,O,U⟩:=yJ o6;exact hq (j+1) r' W J W
   grind
  |succ i =>
   have hlast':(∀a b cs,r.k≠.store a b cs)\/∀j r',R[j]?=some r'->i<j->X (k+1+j)=true->∀a b cs,r'.k≠.store a b cs:=by
    rcases fT with hq|hq
    .grind
    exact .inr λj r' o6 hj iC=>hq (j+1) r' W J W
   have:=λh=>ih (k:=k+1) (i:=i) (r:=r) W W hlast' h;have hf:(λj=>if j=k+1+i then true else X j)=(λj=>if j=k+(i+1)then true else X j):=W;rw[hf]at this;have nv:(if k=k+(i+1)then true else X k)=X k:=gg J;simp only[zw];rw[nv];cases X k with
   |true =>
    simp only[lu];rw[gN,kr,<-gN,this,gN (a::_),kr,<-gN]
   |false=>exact this h
end
section
def uU(l:List Operand):List Tmp:=l.filterMap λ| .tmp t=>some t|_=>none
def AF(l:List Oper)(o:Oper):List Tmp :=
 match o.guard with
 |some (j,_)=>((l[j]?).bind (·.dst)).toList
 |none=>[]
def zc(b:Array Nat)(i j:Nat):Bool:=(b.getD j 0).testBit i
def uS(l:List Oper):Bool :=
 let b:=Region.before l.toArray
 let hI:=l.zipIdx
 (hI.all λp=>p.1.after.all λe=>!Region.binds .any e||e.on<p.2) &&
 (hI.all λp=>(uU p.1.op.operands.toList++AF l p.1).all λt=>hI.all λq=>q.1.dst != some t||q.2 == p.2||zc b (min p.2 q.2) (max p.2 q.2)) &&
 (hI.all λp=>hI.all λq=>q.2 == p.2||p.1.dst == none||p.1.dst != q.1.dst) &&
 (hI.all λp=>hI.all λq=>!(p.2<q.2)||!(rE p.1.op&&rE q.1.op)||zc b p.2 q.2) &&
 (hI.all λp=>match p.1.guard with|some (j,_)=>j<p.2|none=>true)
structure DrawOk(l:List Oper):Prop where
 after:∀(j:Nat) (o:Oper),l[j]?=some o->∀e,e∈o.after->Region.binds .any e=true->e.on<j
 temps:∀(j:Nat) (o:Oper) (t:Tmp) (i:Nat) (o':Oper),l[j]?=some o->t∈uU o.op.operands.toList++AF l o->l[i]?=some o'->o'.dst=some t->i=j\/zc (Region.before l.toArray) (min j i) (max j i)=true
 uniq:∀(j:Nat) (o:Oper) (i:Nat) (o':Oper),l[j]?=some o->l[i]?=some o'->o.dst≠none->o.dst=o'.dst->i=j
 stores:∀(j:Nat) (o:Oper) (i:Nat) (o':Oper),l[j]?=some o->l[i]?=some o'->j<i->rE o.op=true->rE o'.op=true->zc (Region.before l.toArray) j i=true
 guard:∀(j:Nat) (o:Oper) (k:Nat) (zh:Bool),l[j]?=some o->o.guard=some (k,zh)->k<j
def xH{l:List Oper}{j:Nat}{o:Oper}(h:l[j]?=some o):(o,j)∈l.zipIdx:=W
def Ct{l:List Oper}(h:uS l=true):DrawOk l:=by
 simp only[uS,gy,jk]at h;obtain⟨⟨⟨⟨O,U⟩,h3⟩,h4⟩,h5⟩:=h;refine⟨λj o hj e he hb=>?_,λj o t i o' hj ht hi hd=>?_,λj o i o' hj hi hn hd=>?_,λj o i o' hj hi ni hs o9=>?_,λj o k zh hj hg=>?_⟩
 .have:=O (o,j) (xH hj);grind[qj2]
 .have:=U (o,j) (xH hj) t ht (o',i) (xH hi);grind
 .have:=h3 (o,j) (xH hj) (o',i) (xH hi);grind
 .have:=h4 (o,j) (xH hj) (o',i) (xH hi);grind
 have:=h5 (o,j) (xH hj);grind
def QT(l:List Oper):∀j i,zc (Region.before l.toArray) i j=true->∃o,l[j]?=some o/\∃e,e∈o.after/\Region.binds .any e=true/\(e.on=i\/(e.on<j/\zc (Region.before l.toArray) i e.on=true)):=by
 have inner:∀(es:List Edge) (nw:Array Nat) (s i:Nat),(es.foldl (λs e=>if Region.binds .any e then s ||| 2 ^ e.on ||| nw.getD e.on 0 else s) s).testBit i=true->s.testBit i=true\/∃e,e∈es/\Region.binds .any e=true/\(e.on=i\/(nw.getD e.on 0).testBit i=true):=by
  intro es
  induction es with
  |nil=>intro nw s i h;exact .inl h
  |cons e es ih =>
   intro nw s i h;rw[kr]at h;rcases ih nw _ i h with O|⟨e',he',U⟩
   .grind
   grind
 have outer:∀(rest done:List Oper) (nw:Array Nat),nw.size=done.length->(∀j i,(nw.getD j 0).testBit i=true->∃o,done[j]?=some o/\∃e,e∈o.after/\Region.binds .any e=true/\(e.on=i\/(e.on<j/\(nw.getD e.on 0).testBit i=true))) ->
   ∀j i,((rest.foldl (λnw o=>nw.push (o.after.foldl (λs e=>if Region.binds .any e then s ||| 2 ^ e.on ||| nw.getD e.on 0 else s) 0)) nw).getD j 0).testBit i=true ->
    ∃o,(done++rest)[j]?=some o/\∃e,e∈o.after/\Region.binds .any e=true/\(e.on=i\/(e.on<j/\((rest.foldl (λnw o=>nw.push (o.after.foldl (λs e=>if Region.binds .any e then s ||| 2 ^ e.on ||| nw.getD e.on 0 else s) 0)) nw).getD e.on 0).testBit i=true)):=by
  intro rest
  induction rest with
  |nil=>intro done nw _ h;simpa using h
  |cons o rest ih =>
   intro done nw p6 h;rw[kr];have:=ih (done++[o]) (nw.push (o.after.foldl (λs e=>if Region.binds .any e then s ||| 2 ^ e.on ||| nw.getD e.on 0 else s) 0)) (by simp[p6]) (λj i aI=>by
    have wb:∀m,m<nw.size->(nw.push (o.after.foldl (λs e=>if Region.binds .any e then s ||| 2 ^ e.on ||| nw.getD e.on 0 else s) 0)).getD m 0=nw.getD m 0:=λm hm=>by simp only[jq,Array.getElem?_push];grind
    have xA:∀m i,(nw.getD m 0).testBit i=true->m<nw.size:=λm i hm=>by grind
    by_cases hj:j<nw.size
    .rw[wb j hj]at aI;obtain⟨o',O,e,U,h3,h4⟩:=h j i aI;grind
    have uq:j=nw.size:=by grind
    subst uq;rw[jq,Array.getElem?_push,gh rfl]at aI;simp only[l6]at aI;rw[<-Array.foldl_toList]at aI;rcases inner _ nw 0 i aI with O|⟨e,O,U,h3⟩
    .simp at O
    refine⟨o,by rw[p6];simp,e,da,U,?_⟩;rcases h3 with h3|h3
    .exact .inl h3
    exact .inr ⟨xA _ _ h3,by rw[wb _ (xA _ _ h3)];exact h3⟩)
   simpa using this
 intro j i h;have:=outer l [] #[] rfl (λj i h=>by simp at h) j i (by unfold zc Region.before at h;rw[<-Array.foldl_toList]at h;exact h)
 unfold zc Region.before;grind
def iS(l:List Oper)(X:Nat->Bool):Prop:=∀j o,X j=true->l[j]?=some o->∀e,e∈o.after->Region.binds .any e=true->X e.on=true
theorem kW{l:List Oper}{X:Nat->Bool}(hX:iS l X):∀j i o,l[j]?=some o->(∀e,e∈o.after->Region.binds .any e=true->X e.on=true)->zc (Region.before l.toArray) i j=true->X i=true:=by
 intro j
 induction j using Nat.strongRecOn with
 |_ j ih =>
  intro i o hj nz h;obtain⟨o',O,e,U,h3,h4⟩:=QT l j i h;rw[hj]at O;cases O;have hXe:=nz e U h3;rcases h4 with rfl|⟨h4,h5⟩
  .exact hXe
  obtain⟨o2,g1,_⟩:=QT l e.on i h5;exact ih e.on h4 i o2 g1 (hX e.on o2 hXe g1) h5
def AObj.isArr:AObj->Bool
 | .arr .. | .uarr .. | .oarr ..=>true
 |_=>false
def wZ(h Y:mz):Prop:=∀(i:Nat) (o:AObj),o.isArr=true->(h[i]?=some o↔Y[i]?=some o)
mutual
theorem EB{h Y:mz}(hh:wZ h Y):∀x:V,x.norm h=x.norm Y
 | .nils| .top| .val _| .slice _| .ptr _ _| .eptr _| .lit _| .cap _| .mapr _| .fn _ _ _| .opt _ _| .optr ..=>rfl
 | .agg xs| .tuple xs=>by simp only[V.norm,Ht hh xs]
 | .iface t v=>by simp only[V.norm,EB hh v]
 | .own i n=>by
  simp only[V.norm];split
  .rename_i e sz S hi;rw[(hh i _ rfl).1 hi]
  rename_i qz;split
  .rename_i e sz S hi;exact(qz e sz S ((hh i _ rfl).2 hi)).elim
  rfl
theorem Ht{h Y:mz}(hh:wZ h Y):∀xs:List V,qu h xs=qu Y xs
 | []=>rfl
 |x::xs=>by simp only[qu,EB hh x,Ht hh xs]
end
section
variable{P:Program}{T:TypeId}{h Y:mz}{α:Type}
theorem O8{h Y:mz}(hh:wZ h Y)(sz:Nat):∀(k:Nat) (l:List (Nat×V)),sL h sz k l=sL Y sz k l
 |_,[]=>rfl
 |k,(i,x)::l=>by simp only[sL,Ht hh,O8 hh sz (k+1) l]
theorem qqa{x i:V}{ok:Bool}(hm:∀(i:Nat) (es:List (V×V)),h[i]?=some (.map es)↔Y[i]?=some (.map es)):zC P T x i ok h=zC P T x i ok Y:=by unfold zC;grind
def JR(hh:wZ h Y)(i:Nat)(k:Option AObj->α)(k0:α)(hk:∀o,(∀e sz S,o≠some (AObj.uarr e sz S))->(∀e sz S,o≠some (AObj.oarr e sz S))->k o=k0):k h[i]?=k Y[i]?:=by
 by_cases Q:∃e sz S,h[i]?=some (AObj.uarr e sz S)
 .obtain⟨e,sz,S,hi⟩:=Q;rw[hi,(hh i _ rfl).1 hi]
 by_cases gJ:∃e sz S,Y[i]?=some (AObj.uarr e sz S)
 .obtain⟨e,sz,S,hi⟩:=gJ;exact(Q ⟨e,sz,S,(hh i _ rfl).2 hi⟩).elim
 by_cases hp:∃e sz S,h[i]?=some (AObj.oarr e sz S)
 .obtain⟨e,sz,S,hi⟩:=hp;rw[hi,(hh i _ rfl).1 hi]
 by_cases rL:∃e sz S,Y[i]?=some (AObj.oarr e sz S)
 .obtain⟨e,sz,S,hi⟩:=rL;exact(hp ⟨e,sz,S,(hh i _ rfl).2 hi⟩).elim
 grind
theorem U4{x i:V}(hh:wZ h Y):Ab P T x i h=Ab P T x i Y:=by
 unfold Ab;split<;>try rfl
 rename_i e sz o m k n hk;exact JR hh o (λob=>match ob with
  |some (.uarr _ rr S)=>(⟨S.length=m/\rr=sz/\0<=n/\n.toNat<S.length/\0<sz,.optr o m sz n.toNat 0⟩:SV)
  |some (.oarr _ rr S)=>(⟨S.length=m/\rr=sz/\0<=n/\n.toNat<S.length/\0<sz,.optr o m sz n.toNat 0⟩:SV)
  |_=>.no) .no λob hob hob2=>by simp
def map_congr(hm:∀(i:Nat) (es:List (V×V)),h[i]?=some (.map es)↔Y[i]?=some (.map es))(i:Nat)(k:Option AObj->α)(k0:α)(hk:∀o,(∀es,o≠some (AObj.map es))->k o=k0):k h[i]?=k Y[i]?:=W
theorem qsq{x:V}(hh:wZ h Y)(hm:∀(i:Nat) (es:List (V×V)),h[i]?=some (.map es)↔Y[i]?=some (.map es)):zX P T x h=zX P T x Y:=by
 unfold zX;split<;>try rfl
 rotate_left
 .grind
 rename_i e sz o m hk;exact JR hh o (λob=>match ob with
  |some (.uarr _ _ S)=>(⟨S.length=m,.val (.int .i64 S.length)⟩:SV)
  |some (.oarr _ _ S)=>(⟨S.length=m,.val (.int .i64 S.length)⟩:SV)
  |_=>.no) .no λob hob hob2=>by simp
def TE{e:Env}{op:Op}(ha:wZ h Y)(G:∀i,A7 e op=some i->h[i]?=Y[i]?)(hm:∀(i:Nat) (es:List (V×V)),h[i]?=some (.map es)↔Y[i]?=some (.map es)):wx P e.getS h op=wx P e.getS Y op:=by
 cases op with
 |load t a =>
  simp only[wx,zS];simp only[A7]at G;cases ha:e.getS a with
  |ptr i off =>
   grind
  |optr i n sz r q =>
   exact JR ‹wZ h Y› i (λob=>match ob with
    |some (.uarr _ rr S)=>(⟨S.length=n/\rr=sz/\r<S.length/\(kK (oh P t) (nj P t).agg ((S.getD r []).drop q)).side/\nj P t≠TK.other,(kK (oh P t) (nj P t).agg ((S.getD r []).drop q)).val⟩:SV)
    |some (.oarr _ rr S)=>(⟨S.length=n/\rr=sz/\r<S.length/\(kK (oh P t) (nj P t).agg ((S.getD r []).drop q)).side/\nj P t≠TK.other,(kK (oh P t) (nj P t).agg ((S.getD r []).drop q)).val⟩:SV)
    |_=>.no) .no λob hob hob2=>by simp
  |_=>rfl
 |lookup T x i ok =>
  grind[wx,qqa]
 |indexAddr T x i=>simp only[wx,EB ha,U4 ha]
 |slice T x lo hi mx=>simp only[wx,EB ha]
 |call c =>
  obtain⟨callee,args,ts⟩:=c;cases callee with
  |builtin b=>cases b with
   |len=>simp only[wx,EB ha,qsq ha hm]
   |_=>rfl
  |_=>rfl
 |unOp op t x=>cases op<;>rfl
 |_=>rfl
end
end
