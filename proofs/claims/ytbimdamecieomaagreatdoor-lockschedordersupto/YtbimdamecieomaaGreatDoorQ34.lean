/- Part 34 of a proof: W94, W4, W5 -/
import Derived.Test.YtbimdamecieomaaGreatDoorQ17
import Derived.Test.YtbimdamecieomaaGreatDoorQ21
import Derived.Test.YtbimdamecieomaaGreatDoorQ31
import Derived.Test.YtbimdamecieomaaGreatDoorQ32
import Derived.Test.YtbimdamecieomaaGreatDoorQ33
set_option linter.all false

set_option maxRecDepth 4000
set_option maxHeartbeats 2000000
namespace Go.Proofs.YtbimdamecieomaaGreatDoor
open Go Go.Abs Go.Cw
theorem addQ_found {k:qac} {r:LReq}:∀ {l:List LQ},(qbg l)[qc0 k (qbg l)]?=some k→∃ (h:qc0 k (qbg l)<l.length),l[qc0 k (qbg l)].key=k∧addQ k r l=l.set (qc0 k (qbg l)) ⟨k,l[qc0 k (qbg l)].reqs++[r]⟩
 | [],h=>by simp at h
 | q::l,h=>by
  simp only [List.map_cons,qc0] at h ⊢;by_cases h1:sLt q.key k=true
  ·
   rw [if_pos h1] at h;simp only [if_pos h1,addQ];obtain ⟨g1,g2,g3⟩:=addQ_found (r:=r) (l:=l) (by simpa using h);exact ⟨by simpa using g1,by simpa using g2,by simpa using g3⟩
  ·
   rw [if_neg h1] at h;simp only [if_neg h1,addQ];have h2:q.key=k:=by simpa using h
   rw [if_pos h2];exact ⟨by simp,by simpa using h2,by simp⟩
theorem addQ_new {k:qac} {r:LReq}:∀ {l:List LQ},¬ (qbg l)[qc0 k (qbg l)]?=some k→addQ k r l=l.take (qc0 k (qbg l))++⟨k,[r]⟩::l.drop (qc0 k (qbg l))
 | [],h=>by simp [addQ,qc0]
 | q::l,h=>by
  simp only [List.map_cons,qc0] at h ⊢;by_cases h1:sLt q.key k=true
  ·
   rw [if_pos h1] at h;simp only [if_pos h1,addQ];rw [addQ_new (r:=r) (l:=l) (by simpa using h)];simp
  ·
   rw [if_neg h1] at h;simp only [if_neg h1,addQ];have h2:¬ q.key=k:=by simpa using h
   rw [if_neg h2];simp
def zipQ (ks:List Nat) (qs:List LQ):List (List AV):=List.zipWith (fun k (q:LQ)=>[S q.key,.own k q.reqs.length]) ks qs
theorem zipQ_len {ks:List Nat} {qs:List LQ} (h:ks.length=qs.length):(zipQ ks qs).length=qs.length:=by simp [zipQ,h]
theorem zipQ_get {ks:List Nat} {qs:List LQ} {n k:Nat} {q:LQ} (h1:ks[n]?=some k) (h2:qs[n]?=some q):(zipQ ks qs)[n]?=some [S q.key,.own k q.reqs.length]:=by
 unfold zipQ;rw [List.getElem?_zipWith,h1,h2]
def isQ (H:qaa) (k:Nat) (l:List LReq):Prop:=H[k]?=some (.uarr 95 2 (l.map LReq.c))∨H[k]?=some (.arr 95 2 (l.map LReq.c))
structure TabH (B:Nat) (H:qaa) (o g q:Nat) (ks:List Nat) (T:LT):Prop where
 ho:H[o]?=some (.cells [.own g T.glob.length,.own q T.qs.length])
 hg:H[g]?=some (.uarr 95 2 (T.glob.map LReq.c))
 hq:H[q]?=some (.oarr 107 2 (zipQ ks T.qs))
 hkl:ks.length=T.qs.length
 hk:∀ p,p∈ks.zip T.qs→isQ H p.1 p.2.reqs
 nd:ks.Nodup
 gk:g∉ks
 bo:B≤o
 bg:B≤g
 bq:B≤q
 bk:∀ k∈ks,B≤k
theorem TabH.hkI {B:Nat} {H:qaa} {o g q:Nat} {ks:List Nat} {T:LT} (h:TabH B H o g q ks T) (j k:Nat) (x:LQ) (h1:ks[j]?=some k) (h2:T.qs[j]?=some x):isQ H k x.reqs :=
 h.hk (k,x) (List.mem_of_getElem? (i:=j) (by rw [List.getElem?_zip_eq_some];exact ⟨h1,h2⟩))
theorem isQ_lt {H:qaa} {k:Nat} {l:List LReq} (h:isQ H k l):k<H.length:=h.elim (fun h=>(List.getElem?_eq_some_iff.1 h).1) (fun h=>(List.getElem?_eq_some_iff.1 h).1)
theorem TabH.kin {B:Nat} {H:qaa} {o g q:Nat} {ks:List Nat} {T:LT} (h:TabH B H o g q ks T) {k:Nat} (hk:k∈ks):∃ x,(k,x)∈ks.zip T.qs∧isQ H k x.reqs:=by
 obtain ⟨j,hj⟩:=List.getElem?_of_mem hk;have hlt:j<T.qs.length:=by rw [← h.hkl];exact (List.getElem?_eq_some_iff.1 hj).1
 have h2:T.qs[j]?=some T.qs[j]:=List.getElem?_eq_getElem hlt;exact ⟨_,List.mem_of_getElem? (i:=j) (by rw [List.getElem?_zip_eq_some];exact ⟨hj,h2⟩),h.hkI j k _ hj h2⟩
theorem TabH.kne {B:Nat} {H:qaa} {o g q:Nat} {ks:List Nat} {T:LT} (h:TabH B H o g q ks T) {k:Nat} (hk:k∈ks):k<H.length∧k≠o∧k≠q∧k≠g:=by
 obtain ⟨x,_,hq⟩:=h.kin hk;refine ⟨isQ_lt hq,fun e=>?_,fun e=>?_,fun e=>h.gk (e▸hk)⟩
 · rw [e] at hq;rcases hq with hq | hq<;>(rw [h.ho] at hq;cases hq)
 · rw [e] at hq;rcases hq with hq | hq<;>(rw [h.hq] at hq;cases hq)
theorem TabH.gne {B:Nat} {H:qaa} {o g q:Nat} {ks:List Nat} {T:LT} (h:TabH B H o g q ks T):g≠o∧g≠q∧q≠o:=by
 refine ⟨fun e=>?_,fun e=>?_,fun e=>?_⟩
 · have h1:=h.hg;rw [e,h.ho] at h1;cases h1
 · have h1:=h.hg;rw [e,h.hq] at h1;cases h1
 · have h1:=h.hq;rw [e,h.ho] at h1;cases h1
theorem zipQ_ins {ks:List Nat} {qs:List LQ} {pos k:Nat} {q:LQ} (h:ks.length=qs.length):zipQ (ks.take pos++k::ks.drop pos) (qs.take pos++q::qs.drop pos)=(zipQ ks qs).take pos++[S q.key,.own k q.reqs.length]::(zipQ ks qs).drop pos:=by
 unfold zipQ;rw [List.zipWith_append (by simp [h]),List.zipWith_cons_cons,List.take_zipWith,List.drop_zipWith]
theorem zipQ_set {ks:List Nat} {k:Nat} {q:LQ}:∀ {qs:List LQ} {pos:Nat},ks[pos]?=some k→zipQ ks (qs.set pos q)=(zipQ ks qs).set pos [S q.key,.own k q.reqs.length]:=by
 induction ks with
 | nil=>intro qs pos h;simp at h
 | cons x ks ih =>
  intro qs pos h;cases qs with
  | nil=>simp [zipQ]
  | cons y qs =>
   cases pos with
   | zero=>simp at h;subst h;simp [zipQ]
   | succ pos =>
    have:=ih (qs:=qs) (pos:=pos) (by simpa using h);simp only [zipQ,List.set_cons_succ,List.zipWith_cons_cons] at this ⊢;rw [this]
theorem zip_tk {α β:Type} (l:List α) (m:List β) (n:Nat):(l.take n).zip (m.take n)=(l.zip m).take n:=by unfold List.zip;exact List.take_zipWith.symm
theorem zip_dp {α β:Type} (l:List α) (m:List β) (n:Nat):(l.drop n).zip (m.drop n)=(l.zip m).drop n:=by unfold List.zip;exact List.drop_zipWith.symm
theorem set_mid {α:Type} (A Z:List α) (x y:α) {n:Nat} (h:A.length=n):(A++x::Z).set n y=A++y::Z:=by
 subst h;rw [List.set_append_right _ _ (Nat.le_refl _),Nat.sub_self];rfl
theorem zipQ_under {N:Nat}:∀ {ks:List Nat} {qs:List LQ},(∀ k∈ks,k<N)→∀ r,r∈zipQ ks qs→qav N r=true
 | [],_,_,r,h=>by simp [zipQ] at h
 | _::_,[],_,r,h=>by simp [zipQ] at h
 | k::ks,q::qs,hk,r,h=>by
  rw [zipQ,List.zipWith_cons_cons] at h;rcases List.mem_cons.1 h with rfl | h
  ·
   have:=hk k (by simp);simp [qav,AV.under,this]
  · exact zipQ_under (fun x hx=>hk x (by simp [hx])) r h
theorem TabH.view {B:Nat} {H:qaa} {o g q:Nat} {ks:List Nat} {T:LT} (h:TabH B H o g q ks T):(∀ r,r∈zipQ ks T.qs→∀ x,x∈r→(borV H x).isData=true)∧(zipQ ks T.qs).map (fun r=>r.map (borV H))=T.qs.map LQ.c:=by
 have key:∀ (n k:Nat) (x:LQ),ks[n]?=some k→T.qs[n]?=some x→borV H (.own k x.reqs.length)=.slice (x.reqs.map LReq.c):=fun n k x h1 h2=>by
  rcases h.hkI n k x h1 h2 with h3 | h3<;>simp [borV,h3]
 constructor
 ·
  intro r hr x hx;obtain ⟨n,hn⟩:=List.getElem?_of_mem hr;unfold zipQ at hn;rw [List.getElem?_zipWith] at hn;split at hn
  ·
   rename_i k y hk hy;cases hn;rcases List.mem_cons.1 hx with rfl | hx
   · rfl
   ·
    rcases List.mem_cons.1 hx with rfl | hx
    · rw [key n k y hk hy];rfl
    · cases hx
  · cases hn
 ·
  apply List.ext_getElem?;intro n;rw [List.getElem?_map,List.getElem?_map];rcases Nat.lt_or_ge n T.qs.length with hn | hn
  ·
   have h1:ks[n]?=some (ks[n]'(by rw [h.hkl];exact hn)):=List.getElem?_eq_getElem _;have h2:T.qs[n]?=some T.qs[n]:=List.getElem?_eq_getElem _;rw [zipQ_get h1 h2,h2];simp only [Option.map_some,List.map_cons,List.map_nil,key n _ _ h1 h2];rfl
  · rw [List.getElem?_eq_none hn,List.getElem?_eq_none (by rw [zipQ_len h.hkl];exact hn)];rfl
theorem TabH.app {B:Nat} {H:qaa} {o g q:Nat} {ks:List Nat} {T:LT} (h:TabH B H o g q ks T) (l:qaa):TabH B (H++l) o g q ks T:=by
 have key:∀ {i:Nat} {x:AObj},H[i]?=some x→(H++l)[i]?=some x:=fun {i x} h=>by rw [List.getElem?_append_left (List.getElem?_eq_some_iff.1 h).1];exact h
 exact ⟨key h.ho,key h.hg,key h.hq,h.hkl,fun p hp=>(h.hk p hp).imp key key,h.nd,h.gk,h.bo,h.bg,h.bq,h.bk⟩
theorem fn_rel {c c':Ctx} {f:Fn} {v:Value} (h:Rel c (.fn f [] []) v):Rel c' (.fn f [] []) v:=by
 cases h with
 | data h=>cases h
 | fn _ _ _ us vs hl' hl h' h=>exact .fn f [] [] us vs hl' hl (fun j x v hx=>by simp at hx) (fun j x v hx=>by simp at hx)
theorem c_lt_add {B:Nat} {H:qaa} {o g q:Nat} {ks:List Nat} {T:LT} (hT:TabH B H o g q ks T) (key:qac) (r:LReq) (ha:qb7 (qbg T.qs)) (hl:T.qs.length<68719476736) (hlr:∀ x∈T.qs,x.reqs.length<68719476736) :
  ACalls Tryz.prog 48 [P0 o,S key,.agg r.c] H fun r' H'=>r'=.ret (.tuple [])∧(∃ ks',TabH B H' o g q ks' ⟨T.glob,addQ key r T.qs⟩)∧H.length≤H'.length∧∀ i,i<B→H'[i]?=H[i]?:=by
 refine qbu Tryz.func48 rfl (by kernel_rfl) (by simp [Tryz.ntmps48]) ?_;intro E hN hh hu hb hb' hua;rw [Tryz.ntmps48] at hN;have ho':=(List.getElem?_eq_some_iff.1 hT.ho).1;have hq':=(List.getElem?_eq_some_iff.1 hT.hq).1;have hg':=(List.getElem?_eq_some_iff.1 hT.hg).1;have bo:∀ l,(H++l)[o]?=some (.cells [.own g T.glob.length,.own q T.qs.length]):=fun l=>by rw [List.getElem?_append_left ho'];exact hT.ho
 have bq:∀ l,(H++l)[q]?=some (.oarr 107 2 (zipQ ks T.qs)):=fun l=>by rw [List.getElem?_append_left hq'];exact hT.hq
 refine qau (qcq ?_);simp [go_sem,hN];refine qau (qb5 [_,_,_,_,_] _ ?_);simp [go_sem,hN,bo];intro c a w sm k;have hT1:=hT.app [.cells r.c];refine wp_borV sm k (f:=.func 78) (args:=#[.tmp 12,.tmp 13,.func 79]) rfl (by simp [dstOk,hN]) rfl (by simp [go_sem]) (fid:=78) (by simp [go_sem])
  (fun y=>match y with | .tmp 12=>.slice (T.qs.map LQ.c) | .tmp 13=>S key | _=>.fn (.func 79) [] []) ?_ (x:=.tuple [I (qc0 key (qbg T.qs)),Bo (decide ((qbg T.qs)[qc0 key (qbg T.qs)]?=some key))]) (c_BSF T.qs key ha) rfl ?_
 ·
  intro y hy v hr;simp only [List.mem_cons,List.not_mem_nil,or_false] at hy;rcases hy with rfl | rfl | rfl
  ·
   have h9:=view_oarr sm.hs hT1.hq (zipQ_len hT.hkl) (by simpa [go_sem] using hr) hT1.view.1
   rwa [hT1.view.2] at h9
  · exact flat_rel rfl (by simpa [go_sem] using hr)
  · exact fn_rel (c:=c) (by simpa [go_sem] using hr)
 intro a' w' s' k';refine qbd _ [_,_,_,_,_,_] _ rfl ?_ _ a' w' s' k';simp [go_sem,hN];have hps:=posS_le key (qbg T.qs);rw [show (qbg T.qs).length=T.qs.length by simp] at hps;have hF:=@addQ_found key r T.qs;have hN':=@addQ_new key r T.qs;refine qau (qau (qcq ?_));simp [go_sem,hN];generalize hpos:qc0 key (qbg T.qs)=pos at hps hF hN' ⊢;have hzl:(zipQ ks T.qs).length=T.qs.length:=zipQ_len hT.hkl;by_cases hc:∃ a,T.qs[pos]?=some a∧a.key=key
 ·
  refine awp_cond (b:=false) (by simp [go_sem];exact hc) (fun h=>by cases h) (fun _=>?_);refine awp_skip ?_;simp;obtain ⟨hpl,hkey,hqs⟩:=hF (by obtain ⟨a,ha,hb⟩:=hc;simp [ha,hb]);have hkp:ks[pos]?=some (ks[pos]'(by rw [hT.hkl];exact hpl)):=List.getElem?_eq_getElem _;have hqp:T.qs[pos]?=some T.qs[pos]:=List.getElem?_eq_getElem hpl;obtain ⟨k,hk⟩:∃ k,ks[pos]'(by rw [hT.hkl];exact hpl)=k:=⟨_,rfl⟩
  rw [hk] at hkp;have hkm:k∈ks:=List.mem_of_getElem? hkp;obtain ⟨k1,k2,k3,k4⟩:=hT.kne hkm;obtain ⟨n1,n2,n3⟩:=hT.gne;have hrq:=hlr _ (List.getElem_mem hpl);obtain ⟨R,hR⟩:∃ R,zipQ ks T.qs=R:=⟨_,rfl⟩
  have hRp:R[pos]?=some [S T.qs[pos].key,.own k T.qs[pos].reqs.length]:=by rw [← hR];exact zipQ_get hkp hqp
  rw [hR] at hzl;have hRg:∀ h,R[pos]'h=[S T.qs[pos].key,.own k T.qs[pos].reqs.length]:=fun h=>by have h9:=hRp;rw [List.getElem?_eq_getElem h] at h9;exact Option.some.inj h9
  have xq':∀ l,(H++l)[q]?=some (.oarr 107 2 R):=fun l=>by rw [bq,hR]
  have fin:∀ (Y:qaa) (nr:AObj),Y.length=H.length+1→Y[q]?=some (.oarr 107 2 (R.set pos [S T.qs[pos].key,.own k (T.qs[pos].reqs.length+1)]))→Y[k]?=some nr→nr.under Y.length=true→isQ Y k (T.qs[pos].reqs++[r]) →
    (∀ i,i<H.length→i≠q→i≠k→Y[i]?=H[i]?)→Y[H.length]?=some (.cells r.c) →
    hUnder Y.length Y=true∧TabH B Y o g q ks ⟨T.glob,addQ key r T.qs⟩∧∀ i,i<B→Y[i]?=H[i]?:=by
   intro Y nr hYl yq yk hnu yK ye yr;have hrows:R.set pos [S T.qs[pos].key,AV.own k (T.qs[pos].reqs.length+1)]=zipQ ks (addQ key r T.qs):=by
    rw [hqs,zipQ_set hkp,hR,hkey];simp
   refine ⟨?_,⟨?_,?_,by rw [yq,hrows],?_,fun p hp=>?_,hT.nd,hT.gk,hT.bo,hT.bg,hT.bq,hT.bk⟩,fun i hi=>?_⟩
   ·
    rw [qbq];intro ob hob;obtain ⟨i,hi⟩:=List.getElem?_of_mem hob;have hil:i<Y.length:=(List.getElem?_eq_some_iff.1 hi).1;by_cases e1:i=q
    ·
     subst e1;rw [yq] at hi;cases hi;simp only [AObj.under,List.all_eq_true];rw [hrows];exact fun r' hr'=>zipQ_under (fun k hk=>by have:=(hT.kne hk).1;omega) r' hr'
    ·
     by_cases e2:i=k
     · subst e2;rw [yk] at hi;cases hi;exact hnu
     ·
      by_cases e3:i=H.length
      · subst e3;rw [yr] at hi;cases hi;rfl
      ·
       rw [ye i (by omega) e1 e2] at hi;exact qbq.1 (qa1 (by omega:H.length≤Y.length) hu) ob (List.mem_of_getElem? hi)
   · rw [ye o ho' (Ne.symm n3) (Ne.symm k2),hT.ho,hqs];simp
   · rw [ye g hg' n2 (Ne.symm k4)];exact hT.hg
   · rw [hqs];simp [hT.hkl]
   ·
    obtain ⟨j,hj⟩:=List.getElem?_of_mem hp;rw [List.getElem?_zip_eq_some] at hj;obtain ⟨j1,j2⟩:=hj;simp only [hqs] at j2;by_cases e:j=pos
    ·
     subst e;rw [hkp] at j1;rw [List.getElem?_set_self hpl] at j2;have e1:p.1=k:=(Option.some.inj j1).symm;have e2:p.2=⟨key,T.qs[j].reqs++[r]⟩:=(Option.some.inj j2).symm;rw [e1,e2];exact yK
    ·
     rw [List.getElem?_set_ne (Ne.symm e)] at j2;have h2:=hT.hkI j p.1 p.2 j1 j2;have h3:=hT.kne (List.mem_of_getElem? j1);have h4:p.1≠k:=fun e3=>by
      obtain ⟨a1,a2⟩:=List.getElem?_eq_some_iff.1 j1;obtain ⟨b1,b2⟩:=List.getElem?_eq_some_iff.1 hkp;have h6:ks[j]=ks[pos]:=by rw [a2,b2,e3]
      rcases Nat.lt_or_gt_of_ne e with h7 | h7
      · exact List.pairwise_iff_getElem.1 hT.nd j pos a1 b1 h7 h6
      · exact List.pairwise_iff_getElem.1 hT.nd pos j b1 a1 h7 h6.symm
     unfold isQ;rw [ye p.1 h3.1 h3.2.2.1 h4];exact h2
   ·
    have h1:=hT.bo;have h2:=hT.bq;have h3:=hT.bk k hkm;exact ye i (by omega) (by omega) (by omega)
  rcases hT.hkI pos k _ hkp hqp with hkk | hkk
  all_goals
   have xk':∀ l,(H++l)[k]?=_:=fun l=>by rw [List.getElem?_append_left k1]
   have xk2:∀ l Z,((H++l).set k Z)[q]?=some (.oarr 107 2 R):=fun l Z=>by rw [List.getElem?_set_ne k3];exact xq' l
   have xk3:∀ l Z,((H++l).set k Z)[o]?=some (.cells [.own g T.glob.length,.own q T.qs.length]):=fun l Z=>by rw [List.getElem?_set_ne k2];exact bo l
  ·
   refine awp_drawP 16 15 [0,1,2,3,4] mixed (by kernel_rfl) ?_;simp -dsimp [go_sem,hN,bo,xq',xk',xk2,xk3,hkk,hzl,hpl,hRp,hRg,hrq,LReq.c];refine ⟨by omega,?_⟩;obtain ⟨Y,hY⟩:∃ Y,((H++[AObj.cells [I r.t,Bo r.w]]).set k (AObj.uarr 95 2 (T.qs[pos].reqs.map LReq.c++[[AV.val (Value.int IntKind.i64 r.t),AV.val (Value.bool r.w)]]))).set q (AObj.oarr 107 2 (R.set pos [S T.qs[pos].key,AV.own k (T.qs[pos].reqs.length+1)]))=Y:=⟨_,rfl⟩
   have hYl:Y.length=H.length+1:=by rw [← hY];simp
   have yk:Y[k]?=some (AObj.uarr 95 2 ((T.qs[pos].reqs++[r]).map LReq.c)):=by rw [← hY,List.getElem?_set_ne (Ne.symm k3),List.getElem?_set_self (by simp;omega),List.map_append];rfl
   obtain ⟨f1,f2,f3⟩:=fin Y _ hYl (by rw [← hY];exact List.getElem?_set_self (by simp;omega)) yk rfl (by first | exact .inl yk | exact .inr yk) (fun i h1 h2 h3=>by rw [← hY,List.getElem?_set_ne (Ne.symm h2),List.getElem?_set_ne (Ne.symm h3),List.getElem?_append_left h1])
    (by rw [← hY,List.getElem?_set_ne (by omega),List.getElem?_set_ne (by omega),List.getElem?_append_right (Nat.le_refl _),Nat.sub_self];rfl)
   rw [hY];exact ⟨_,.refl _,Y,rfl,hwk.refl _,by omega,f1,rfl,⟨ks,f2⟩,by omega,f3⟩
  ·
   refine awp_drawP 16 15 [0,1,2,3,4] mixed (by kernel_rfl) ?_;simp -dsimp [go_sem,hN,bo,xq',xk',xk2,xk3,hkk,hzl,hpl,hRp,hRg,hrq,LReq.c];refine ⟨by omega,?_⟩;obtain ⟨Y,hY⟩:∃ Y,((H++[AObj.cells [I r.t,Bo r.w]]).set k (AObj.arr 95 2 (T.qs[pos].reqs.map LReq.c++[[AV.val (Value.int IntKind.i64 r.t),AV.val (Value.bool r.w)]]))).set q (AObj.oarr 107 2 (R.set pos [S T.qs[pos].key,AV.own k (T.qs[pos].reqs.length+1)]))=Y:=⟨_,rfl⟩
   have hYl:Y.length=H.length+1:=by rw [← hY];simp
   have yk:Y[k]?=some (AObj.arr 95 2 ((T.qs[pos].reqs++[r]).map LReq.c)):=by rw [← hY,List.getElem?_set_ne (Ne.symm k3),List.getElem?_set_self (by simp;omega),List.map_append];rfl
   obtain ⟨f1,f2,f3⟩:=fin Y _ hYl (by rw [← hY];exact List.getElem?_set_self (by simp;omega)) yk rfl (by first | exact .inl yk | exact .inr yk) (fun i h1 h2 h3=>by rw [← hY,List.getElem?_set_ne (Ne.symm h2),List.getElem?_set_ne (Ne.symm h3),List.getElem?_append_left h1])
    (by rw [← hY,List.getElem?_set_ne (by omega),List.getElem?_set_ne (by omega),List.getElem?_append_right (Nat.le_refl _),Nat.sub_self];rfl)
   rw [hY];exact ⟨_,.refl _,Y,rfl,hwk.refl _,by omega,f1,rfl,⟨ks,f2⟩,by omega,f3⟩
 ·
  refine awp_cond (b:=true) (by simp [go_sem];simpa using hc) (fun _=>?_) (fun h=>by cases h);refine qb5 [_,_,_,_,_,_,_,_] _ ?_;simp [go_sem,hN,bo];intro c a w sm k;refine wp_insO sm k (T:=54) (el:=107) (sz:=2) (x:=.tmp 26) (xa:=.tmp 23) (xb:=.tmp 24) (f:=.func 80) (d1:=27) (y:=.agg [S key,.nils]) (fid:=80) insK_LQ rfl rfl rfl (by omega) (by simp [dstOk,hN]) rfl rfl (by simp [go_sem]) (by simp [go_sem]) (by simp [go_sem]) (by omega) (by omega) (by simp [go_sem]) (by simp [go_sem]) rfl rfl (i:=q) (n:=T.qs.length) (by simp [go_sem]) (pos:=pos) (by simp [go_sem]) (by simp) (by simp) rfl
   ⟨Tryz.f80,Tryz.func80,by kernel_rfl,by kernel_rfl⟩ (bq _) hzl hps (by omega) fun c' a' w' s' k'=>?_
  refine qbd _ [_,_,_,_,_,_,_,_,_,_] _ rfl ?_ c' a' w' s' k';have hqo:q≠o:=fun e=>by have h1:=hT.hq;rw [e,hT.ho] at h1;cases h1
  have bo2:∀ X:AObj,((H++[AObj.cells r.c]).set q X)[o]?=some (.cells [.own g T.glob.length,.own q T.qs.length]):=fun X=>by rw [List.getElem?_set_ne hqo];exact bo _
  simp [go_sem,hN,bo2];obtain ⟨R,hR⟩:∃ R,(zipQ ks T.qs).take pos++[S key,.nils]::(zipQ ks T.qs).drop pos=R:=⟨_,rfl⟩
  rw [hR];have hRl:R.length=T.qs.length+1:=by rw [← hR];simp [hzl];omega
  have hRp:R[pos]?=some [S key,.nils]:=by rw [← hR,List.getElem?_append_right (by rw [List.length_take,hzl];omega),List.length_take,hzl,Nat.min_eq_left hps,Nat.sub_self];rfl
  have hpl:pos<T.qs.length+1:=by omega
  obtain ⟨X,hX⟩:∃ X,((H++[AObj.cells r.c]).set q (.oarr 107 2 R)).set o (.cells [.own g T.glob.length,.own q (T.qs.length+1)])=X:=⟨_,rfl⟩
  rw [hX];have hXl:X.length=H.length+1:=by rw [← hX];simp
  have xo:X[o]?=some (.cells [.own g T.glob.length,.own q (T.qs.length+1)]):=by rw [← hX];exact List.getElem?_set_self (by simp;omega)
  have xq:X[q]?=some (.oarr 107 2 R):=by rw [← hX,List.getElem?_set_ne (Ne.symm hqo)];exact List.getElem?_set_self (by simp;omega)
  have xr:X[H.length]?=some (.cells r.c):=by rw [← hX,List.getElem?_set_ne (by omega),List.getElem?_set_ne (by omega)];simp
  have xe:∀ i,i<H.length→i≠o→i≠q→X[i]?=H[i]?:=fun i h1 h2 h3=>by rw [← hX,List.getElem?_set_ne (Ne.symm h2),List.getElem?_set_ne (Ne.symm h3),List.getElem?_append_left h1]
  have xo':∀ l,(X++l)[o]?=some (.cells [.own g T.glob.length,.own q (T.qs.length+1)]):=fun l=>by rw [List.getElem?_append_left (by omega)];exact xo
  have xq':∀ l,(X++l)[q]?=some (.oarr 107 2 R):=fun l=>by rw [List.getElem?_append_left (by omega)];exact xq
  have hRg:∀ h,R[pos]'h=[S key,.nils]:=fun h=>by have h9:=hRp;rw [List.getElem?_eq_getElem h] at h9;exact Option.some.inj h9
  have xrg:∀ h,X[H.length]'h=.cells r.c:=fun h=>by have h9:=xr;rw [List.getElem?_eq_getElem h] at h9;exact Option.some.inj h9
  refine awp_drawP 16 15 [0,1,2,3,4] mixed (by kernel_rfl) ?_;simp -dsimp [go_sem,hN,xo,xq,xr,xo',xq',hRl,hRp,hRg,xrg,hpl,hXl,LReq.c];have hqs:=hN' (by simpa using hc);obtain ⟨n1,n2,n3⟩:=hT.gne;obtain ⟨Y,hY⟩:∃ Y,(X++[AObj.arr 95 2 [[AV.val (Value.int IntKind.i64 r.t),AV.val (Value.bool r.w)]]]).set q (.oarr 107 2 (R.set pos [S key,AV.own (H.length+1) 1]))=Y:=⟨_,rfl⟩
  rw [hY];have hYl:Y.length=H.length+2:=by rw [← hY];simp [hXl]
  have yq:Y[q]?=some (.oarr 107 2 (R.set pos [S key,AV.own (H.length+1) 1])):=by rw [← hY];exact List.getElem?_set_self (by simp [hXl];omega)
  have ye:∀ i,i<H.length+1→i≠q→Y[i]?=X[i]?:=fun i h1 h2=>by rw [← hY,List.getElem?_set_ne (Ne.symm h2),List.getElem?_append_left (by omega)]
  have yn:Y[H.length+1]?=some (.arr 95 2 [r.c]):=by rw [← hY,List.getElem?_set_ne (by omega),List.getElem?_append_right (by omega),hXl,Nat.sub_self];rfl
  have hrows:R.set pos [S key,AV.own (H.length+1) 1]=zipQ (ks.take pos++(H.length+1)::ks.drop pos) (addQ key r T.qs):=by
   rw [hqs,zipQ_ins hT.hkl,← hR,set_mid _ _ _ _ (by rw [List.length_take,hzl];omega)];rfl
  have hksl:∀ k∈ks.take pos++(H.length+1)::ks.drop pos,k=H.length+1∨k∈ks:=fun k hk=>by
   rcases List.mem_append.1 hk with h1 | h1
   · exact .inr (List.mem_of_mem_take h1)
   ·
    rcases List.mem_cons.1 h1 with h1 | h1
    · exact .inl h1
    · exact .inr (List.mem_of_mem_drop h1)
  refine ⟨_,.refl _,Y,rfl,hwk.refl _,by omega,?_,rfl,⟨ks.take pos++(H.length+1)::ks.drop pos,?_⟩,by omega,fun i hi=>?_⟩
  ·
   rw [qbq];intro ob hob;obtain ⟨i,hi⟩:=List.getElem?_of_mem hob;have hil:i<Y.length:=(List.getElem?_eq_some_iff.1 hi).1;by_cases e1:i=q
   ·
    subst e1;rw [yq] at hi;cases hi;simp only [AObj.under,List.all_eq_true];rw [hrows];exact fun r' hr'=>zipQ_under (fun k hk=>by
     rcases hksl k hk with rfl | h1
     · omega
     · have:=(hT.kne h1).1;omega) r' hr'
   ·
    by_cases e2:i=H.length+1
    · subst e2;rw [yn] at hi;cases hi;rfl
    ·
     rw [ye i (by omega) e1] at hi;by_cases e3:i=H.length
     · subst e3;rw [xr] at hi;cases hi;rfl
     ·
      by_cases e4:i=o
      ·
       subst e4;rw [xo] at hi;cases hi;simp [AObj.under,qav,AV.under];omega
      ·
       rw [xe i (by omega) e4 e1] at hi;have:=qbq.1 (qa1 (by omega:H.length≤Y.length) hu) ob (List.mem_of_getElem? hi);exact this
  ·
   refine ⟨?_,?_,by rw [yq,hrows],?_,fun p hp=>?_,?_,?_,hT.bo,hT.bg,hT.bq,fun k hk=>?_⟩
   · rw [ye o (by omega) (Ne.symm n3),xo,hqs];simp;omega
   · rw [ye g (by omega) n2,xe g hg' n1 n2];exact hT.hg
   · rw [hqs];simp [hT.hkl]
   ·
    rw [hqs,List.zip_append (by simp [hT.hkl]),List.zip_cons_cons,zip_tk,zip_dp] at hp;have old:p∈ks.zip T.qs→isQ Y p.1 p.2.reqs:=fun h1=>by
     have h2:=hT.hk p h1;have h3:=hT.kne (List.of_mem_zip h1).1;unfold isQ;rw [ye p.1 (by omega) h3.2.2.1,xe p.1 h3.1 h3.2.1 h3.2.2.1];exact h2
    rcases List.mem_append.1 hp with h1 | h1
    · exact old (List.mem_of_mem_take h1)
    ·
     rcases List.mem_cons.1 h1 with rfl | h1
     · exact .inr yn
     · exact old (List.mem_of_mem_drop h1)
   ·
    have hp:(ks.take pos++(H.length+1)::ks.drop pos).Perm ((H.length+1)::ks):=by
     have:=List.perm_middle (a:=H.length+1) (l₁:=ks.take pos) (l₂:=ks.drop pos)
     rwa [List.take_append_drop] at this
    rw [hp.nodup_iff,List.nodup_cons];exact ⟨fun h1=>by have:=(hT.kne h1).1;omega,hT.nd⟩
   ·
    intro h1;rcases hksl g h1 with h2 | h2
    · omega
    · exact hT.gk h2
   ·
    rcases hksl k hk with rfl | h1
    · have:=hT.bo;omega
    · exact hT.bk k h1
  ·
   have h1:=hT.bo;have h2:=hT.bq;rw [ye i (by omega) (by omega),xe i (by omega) (by omega) (by omega)]
end Go.Proofs.YtbimdamecieomaaGreatDoor

set_option maxRecDepth 4000
namespace Go.Proofs.YtbimdamecieomaaGreatDoor
open Go Go.Abs Go.Cw
theorem c_lexer_letter (c:Int):APure Tryz.prog 281 [.val (.int .i32 c)] (Bo (ltr c)):=by
 refine qaz Tryz.func281 Tryz.ntmps281 rfl (by kernel_rfl) rfl rfl fun E h hN hh hu hb=>?_;simp -dsimp [go_sem,hN,ltr]
theorem c_lexer_word (s:qac):APure Tryz.prog 282 [S s] (I (wordLen (bl s))):=by
 refine qaz Tryz.func282 Tryz.ntmps282 rfl (by kernel_rfl) rfl rfl fun E h hN hh hu hb=>?_;simp [go_sem] at hb;simp -dsimp [go_sem,hN];refine qaj s.size (fun n=>n+wordLen ((bl s).drop n)=wordLen (bl s)) (fun n=>⟨[(0,S s),(6,P0 h.length)],h++[.iter s n]⟩) (by simp) wkA ?_;intro n hn hI;have hw:=qa6 hn hb;simp -dsimp [go_sem,hN];by_cases hc:n<s.size
 ·
  rw [bdrop hc,wordLen] at hI;simp -dsimp [go_sem,hN,hc];refine qab (c_lexer_letter _) ?_;simp -dsimp [go_sem,hN];by_cases h8:(bAt s n).toNat<128
  ·
   simp only [dec_lo hc h8];refine ⟨by grind,cnd (fun hg=>?_) (fun hg=>?_)⟩
   ·
    have hg':wordI ((bAt s n).toNat:Int)=false:=by simp [wordI] at hg ⊢;grind
    simp -dsimp [go_sem,hN];rw [← hI];simp [hg']
   ·
    have hg':wordI ((bAt s n).toNat:Int)=true:=by simp [wordI] at hg ⊢;grind
    simp -dsimp [go_sem,hN,hw];exact ⟨hc,by rw [if_pos hg'] at hI;omega,wkA⟩
  ·
   have h9:=dec_hi hc h8;have hg':wordI ((bAt s n).toNat:Int)=false:=by simp [wordI,ltr];omega
   have hl:ltr ((Utf8.decode s n).1:Int)=false:=by simp [ltr];omega
   refine ⟨by grind,cnd (fun hg=>?_) (fun hg=>?_)⟩
   ·
    simp -dsimp [go_sem,hN];rw [← hI];simp [hg']
   ·
    simp [hl] at hg;omega
 ·
  rw [bend hc,wordLen] at hI;simp -dsimp [go_sem,hN,hc];have:wordLen (bl s)=s.size:=by omega
  simp [this]
theorem c_lexer_IsKeyword (s:qac):APure Tryz.prog 283 [S s] (Bo (kw s)):=by
 refine qaz Tryz.func283 Tryz.ntmps283 rfl (by kernel_rfl) rfl rfl fun E h hN hh hu hb=>?_;simp -dsimp [go_sem,hN]
 iterate 25
  refine cnd (fun hg=>?_) (fun hg=>?_)
  ·
   simp at hg;subst hg;simp -dsimp [go_sem,hN];rfl
  simp -dsimp [go_sem,hN]
  try simp at hg
 simp [kw, *]
theorem c_ast_plain (s:qac):APure Tryz.prog 340 [S s] (Bo (qbm s)):=by
 refine qaz Tryz.func340 Tryz.ntmps340 rfl (by kernel_rfl) rfl rfl fun E h hN hh hu hb=>?_;simp [go_sem] at hb;simp -dsimp [go_sem,hN];refine qaj s.size (fun n=>allL okB ((bl s).drop n)=allL okB (bl s)) (fun n=>⟨[(0,S s),(3,I n)],h⟩) (by simp) wkA ?_;intro n hn hI;have hw:=qa6 hn hb;simp -dsimp [go_sem,hN];refine cnd ?_ ?_<;>intro hc<;>simp at hc
 ·
  rw [bdrop hc,allL] at hI;simp -dsimp [go_sem,hN,hc];refine cnd (fun hg=>?_) (fun hg=>?_)
  ·
   simp -dsimp [go_sem,hN];simp [qbm,← hI,okB,hg]
  ·
   simp -dsimp [go_sem,hN,hw];exact ⟨hc,by simpa [okB,hg] using hI,wkA⟩
 ·
  rw [bend (by omega),allL] at hI;simp -dsimp [go_sem,hN,qbm,← hI]
theorem c_ast_Arity (op:Int):APure Tryz.prog 339 [I op] (I (arity op)):=by
 refine qaz Tryz.func339 Tryz.ntmps339 rfl (by kernel_rfl) rfl rfl fun E h hN hh hu hb=>?_;simp -dsimp [go_sem,hN];refine cnd ?_ ?_<;>intro h0<;>simp at h0<;>simp -dsimp [go_sem,hN,arity,h0];refine cnd ?_ ?_<;>intro h1<;>simp at h1<;>simp -dsimp [go_sem,hN,arity,h0,h1];refine cnd ?_ ?_<;>intro h2<;>simp at h2<;>simp -dsimp [go_sem,hN,arity]
 · rw [if_neg (by omega),if_neg (by omega),if_pos (by omega)]
 · rw [if_neg (by omega),if_neg (by omega),if_neg (by omega)]
theorem c_lexer_IsName (s:qac):APure Tryz.prog 248 [S s] (Bo (nameOk s)):=by
 refine qaz Tryz.func248 Tryz.ntmps248 rfl (by kernel_rfl) rfl rfl fun E h hN hh hu hb=>?_;rcases sz_em s with rfl | h1
 ·
  simp -dsimp [go_sem,hN,nameOk];refine tgcall_if .top (by simp) (by simp) ?_;simp -dsimp [go_sem,hN];refine tgcall_if .top (by simp) (by simp) ?_;simp -dsimp [go_sem,hN];refine tgcall_if .top (by simp) (by simp) ?_;simp -dsimp [go_sem,hN,nameOk]
 ·
  have h1':0<s.size:=by omega
  have he:¬ s=em:=by rintro rfl;simp at h1
  simp -dsimp [go_sem,hN,h1',he];refine qag (c_lexer_letter _) (by simp) ?_;simp -dsimp [go_sem,hN];refine qag (c_lexer_word s) (by simp) ?_;simp -dsimp [go_sem,hN];refine qag (c_lexer_IsKeyword s) (by simp) ?_;simp -dsimp [go_sem,hN,nameOk,he]
theorem c_ast_node (op n:Int) (s:qac) (args:List Ex) (d:Nat):APure Tryz.prog 330 [.agg [I op,I n,S s,.slice (args.map Ex.c)],I d] (I (qdi op n s args.length d)):=by
 refine qaz Tryz.func330 Tryz.ntmps330 rfl (by kernel_rfl) rfl rfl fun E h hN hh hu hb=>?_;simp -dsimp [go_sem,hN];refine qab (c_ast_Arity _) ?_;simp -dsimp [go_sem,hN]
 repeat refine ⟨by grind,?_⟩
 refine cnd (fun h0=>?_) (fun h0=>?_)
 ·
  simp -dsimp [go_sem,hN];simp at h0;rw [qdi,if_pos (by grind)]
 have h0':¬ (arity op<0∨(op≠1∧n≠0)∨(op≠2∧op≠3∧s≠em)):=by simp at h0;grind
 simp -dsimp [go_sem,hN];refine qag (c_lexer_IsName s) (by simp) ?_;simp -dsimp [go_sem,hN];refine cnd (fun h1=>?_) (fun h1=>?_)
 ·
  simp -dsimp [go_sem,hN];simp at h1;rw [qdi,if_neg h0',if_pos (by grind)]
 have h1':¬ (op=3∧nameOk s=false):=by simp at h1;grind
 simp -dsimp [go_sem,hN]
 repeat refine ⟨by grind,?_⟩
 refine qag (c_ast_plain s) (by simp) ?_;simp -dsimp [go_sem,hN]
 repeat refine ⟨by grind,?_⟩
 refine cnd (fun h2=>?_) (fun h2=>?_)
 ·
  simp -dsimp [go_sem,hN];simp at h2;rw [qdi,if_neg h0',if_neg h1',if_pos (by grind)]
 have h2':¬ ((op=1∧n<0)∨(op=2∧qbm s=false)∨(args.length:Int)≠arity op):=by simp at h2;grind
 simp -dsimp [go_sem,hN];refine cnd ?_ ?_<;>intro h3<;>simp at h3
 ·
  simp -dsimp [go_sem,hN];rw [qdi,if_neg h0',if_neg h1',if_neg h2',if_pos (by omega)]
 ·
  simp -dsimp [go_sem,hN];rw [qdi,if_neg h0',if_neg h1',if_neg h2',if_neg (by omega)]
theorem c_ast_check (e:Ex) (d:Nat):APure Tryz.prog 317 [.agg [I e.op,I e.n,S e.s,.slice (e.args.map Ex.c)],I d] (I (chkE e d)):=by
 refine qaz Tryz.func317 Tryz.ntmps317 rfl (by kernel_rfl) rfl rfl fun E h hN hh hu hb=>?_;simp [go_sem] at hb;simp -dsimp [go_sem,hN];refine qab (c_ast_node _ _ _ _ _) ?_;simp -dsimp [go_sem,hN];refine cnd ?_ ?_<;>intro h0<;>simp at h0
 ·
  simp -dsimp [go_sem,hN];rw [chkE_eq,if_neg h0]
 have hd:d≤12:=by
  unfold qdi at h0;grind
 simp -dsimp [go_sem,hN];refine qaj e.args.length (fun n=>chkL (e.args.drop n) (d+1)=chkL e.args (d+1)) (fun n=>⟨[(1,I d),(16,.slice (e.args.map Ex.c)),(17,I e.args.length),(18,I n)],h⟩) (by simp) wkA ?_;intro n hn hI;have hw:=qa6 hn hb.2.1;have hw2:IntKind.i64.wrap ((d:Int)+1)=((d+1:Nat):Int):=by rw [wrapI (by omega) (by omega)];rfl
 simp -dsimp [go_sem,hN];refine cnd ?_ ?_<;>intro hc<;>simp at hc
 ·
  rw [qah hc,chkL] at hI;simp -dsimp [go_sem,hN,hc,hw2];have hlt:SizeOf.sizeOf e.args[n]<SizeOf.sizeOf e:=Ex.arg_lt (List.getElem_mem hc);refine qab (c_ast_check e.args[n] (d+1)) ?_;simp -dsimp [go_sem,hN];refine cnd ?_ ?_<;>intro hg<;>simp at hg
  ·
   simp -dsimp [go_sem,hN];rw [chkE_eq e,if_pos h0,← hI,if_neg hg]
  ·
   simp -dsimp [go_sem,hN,hw];exact ⟨hc,by simpa [hg] using hI,wkA⟩
 ·
  rw [List.drop_eq_nil_of_le (by omega),chkL] at hI;simp -dsimp [go_sem,hN];rw [chkE_eq e,if_pos h0,← hI]
termination_by SizeOf.sizeOf e
theorem c_ast_ValidExpr (e:Ex):APure Tryz.prog 289 [.agg [I e.op,I e.n,S e.s,.slice (e.args.map Ex.c)]] (I (chkE e 1)):=by
 refine qaz Tryz.func289 Tryz.ntmps289 rfl (by kernel_rfl) rfl rfl fun E h hN hh hu hb=>?_;simp -dsimp [go_sem,hN];refine qab (c_ast_check e 1) ?_;simp -dsimp [go_sem,hN]
end Go.Proofs.YtbimdamecieomaaGreatDoor

set_option maxRecDepth 4000
namespace Go.Proofs.YtbimdamecieomaaGreatDoor
open Go Go.Abs Go.Cw
theorem c_ast_usesOf (op:Int):APure Tryz.prog 287 [I op] (.tuple [.agg (qcf op).1.c,Bo (qcf op).2]):=by
 refine qaz Tryz.func287 Tryz.ntmps287 rfl (by kernel_rfl) rfl rfl fun E h hN hh hu hb=>?_;by_cases h1:op=1
 · subst h1;simp -dsimp [go_sem,hN,qcf]
 by_cases h2:op=2
 · subst h2;simp -dsimp [go_sem,hN,qcf]
 by_cases h3:op=3
 · subst h3;simp -dsimp [go_sem,hN,qcf]
 by_cases h4:op=4
 · subst h4;simp -dsimp [go_sem,hN,qcf]
 by_cases h7:op=7
 · subst h7;simp -dsimp [go_sem,hN,qcf]
 by_cases h5:op=5
 · subst h5;simp -dsimp [go_sem,hN,qcf]
 by_cases h6:op=6
 · subst h6;simp -dsimp [go_sem,hN,qcf]
 by_cases h8:op=8
 · subst h8;simp -dsimp [go_sem,hN,qcf]
 simp -dsimp [go_sem,hN,qcf,h1,h2,h3,h4,h5,h6,h7,h8]
theorem c_ast_absent (e:Ex):APure Tryz.prog 316 [.agg e.x] (Bo (absE e)):=by
 refine qaz Tryz.func316 Tryz.ntmps316 rfl (by kernel_rfl) rfl rfl fun E h hN hh hu hb=>?_;simp -dsimp [go_sem,hN,absE]
 try grind
theorem c_ast_shape (s:St) (u:Uses):APure Tryz.prog 288 [.agg s.x,.agg u.c] (Bo (shapeOk s u)):=by
 refine qaz Tryz.func288 Tryz.ntmps288 rfl (by kernel_rfl) rfl rfl fun E h hN hh hu hb=>?_;simp -dsimp [go_sem,hN]
 repeat refine ⟨by grind,?_⟩
 refine qag (c_ast_absent s.a) (by simp) ?_;simp -dsimp [go_sem,hN]
 repeat refine ⟨by grind,?_⟩
 refine qag (c_ast_absent s.b) (by simp) ?_;simp -dsimp [go_sem,hN]
 repeat refine ⟨by grind,?_⟩
 refine cnd (fun h0=>?_) (fun h0=>?_)
 ·
  simp -dsimp [go_sem,hN];simp [shapeOk] at h0 ⊢;grind
 ·
  simp -dsimp [go_sem,hN];refine cnd ?_ ?_<;>intro h1<;>simp at h1<;>simp -dsimp [go_sem,hN,h1]
  ·
   simp [shapeOk,h1] at h0 ⊢;grind
  ·
   refine cnd ?_ ?_<;>intro h2<;>simp at h2<;>simp -dsimp [go_sem,hN,h2]
   ·
    simp [shapeOk,h1,h2] at h0 ⊢;grind
   ·
    simp [shapeOk,h1,h2] at h0 ⊢;grind
end Go.Proofs.YtbimdamecieomaaGreatDoor
