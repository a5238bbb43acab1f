/- Part 28 of a proof: CwLc, CwLd, CwI, CwLg, CwLh, CwIy -/
import Derived.Test.YtbimdamecieomaaGreatDoorQ19
import Derived.Test.YtbimdamecieomaaGreatDoorQ21
import Derived.Test.YtbimdamecieomaaGreatDoorQ22
import Derived.Test.YtbimdamecieomaaGreatDoorQ27
set_option linter.all false

namespace Go.Cw
open Go Go.Abs
def befQ (t:Int) (l:List LReq):List Int:=match l.find? fun r=>decide (r.t=t) with
 | none=>[]
 | some r=>((l.takeWhile fun x=>!decide (x.t=t)).filter fun x=>x.w||r.w).map (·.t)
def qdr (T:LT) (t:Int):List Int:=befQ t T.glob++T.qs.flatMap fun q=>befQ t q.reqs
def readyL (T:LT):List Int:=(T.glob.filter fun r=>(qdr T r.t).isEmpty).map (·.t)
theorem bef_map (w:Nat→Bool) (i:Nat):∀ (R:List Nat),R.Pairwise (· < ·)→befQ i (R.map fun (j:Nat)=>⟨(j:Int),w j⟩)=if i∈R then (R.filter fun j=>decide (j<i)&&(w j||w i)).map Int.ofNat else []
 | [],_=>rfl
 | x::R,h=>by
  obtain ⟨h1,h2⟩:=List.pairwise_cons.1 h;by_cases e:x=i
  ·
   subst e;have:(R.filter fun j=>decide (j<x)&&(w j||w x))=[]:=List.filter_eq_nil_iff.2 fun j hj=>by
    have:=h1 j hj;have:¬ j<x:=by omega
    simp [this]
   simp [befQ,this]
  ·
   have e':¬ (x:Int)=(i:Int):=by omega
   have ih:=bef_map w i R h2;unfold befQ at ih ⊢;simp only [List.map_cons,List.mem_cons,Ne.symm e,false_or];rw [List.find?_cons_of_neg (by simp [e']),List.takeWhile_cons_of_pos (by simp [e'])];by_cases hm:i∈R
   ·
    have hlt:=h1 i hm;rw [if_pos hm] at ih ⊢;have hf:(R.map fun (j:Nat)=>(⟨(j:Int),w j⟩:LReq)).find? (fun r=>decide (r.t=(i:Int)))=some ⟨(i:Int),w i⟩:=by
     clear ih
     induction R with
     | nil=>cases hm
     | cons y R ih =>
      simp only [List.map_cons];by_cases ey:y=i
      · subst ey;rw [List.find?_cons_of_pos (by simp)]
      ·
       rw [List.find?_cons_of_neg (by simp;omega)];obtain ⟨h3,h4⟩:=List.pairwise_cons.1 h2;have hm':i∈R:=by
        rcases List.mem_cons.1 hm with g | g
        · exact (ey g.symm).elim
        · exact g
       exact ih (List.pairwise_cons.2 ⟨fun z hz=>h1 z (by simp [hz]),h4⟩) (fun z hz=>h1 z (by simp [hz])) h4 hm'
    rw [hf] at ih ⊢;simp only at ih ⊢;rw [List.filter_cons,List.filter_cons];simp only [hlt,decide_true,Bool.true_and];split
    · simp only [List.map_cons];rw [ih];rfl
    · exact ih
   ·
    rw [if_neg hm] at ih ⊢;have hf:(R.map fun (j:Nat)=>(⟨(j:Int),w j⟩:LReq)).find? (fun r=>decide (r.t=(i:Int)))=none:=by
     rw [List.find?_eq_none];intro r hr;obtain ⟨j,hj,rfl⟩:=List.mem_map.1 hr;simp only [decide_eq_true_eq];intro hji;have:j=i:=by omega
     exact hm (this▸hj)
    rw [hf]
theorem waits_nil {fs:Nat→Foot} {R:List Nat} {T:LT} (h:TabOk fs R T) (hR:R.Pairwise (· < ·)) (hf:∀ i∈R,qbi (fs i).all (fs i).reads (fs i).writes=true) {i:Nat} (hi:i∈R) :
  qdr T i=[]↔∀ j∈R,j<i→qci (fs j) (fs i)=false:=by
 have e1:befQ i T.glob=[]↔∀ j∈R,j<i→((fs j).all||(fs i).all)=false:=by
  rw [h.glob,bef_map (fun j=>(fs j).all) i R hR,if_pos hi,List.map_eq_nil_iff,List.filter_eq_nil_iff];refine forall₂_congr fun j hj=>?_;simp
 have e2:∀ q∈T.qs,(befQ i q.reqs=[]↔(hasF (fs i) q.key=true→∀ j∈R,j<i→hasF (fs j) q.key=true→(qc8 (fs j).writes q.key||qc8 (fs i).writes q.key)=false)):=fun q hq=>by
  rw [((h.mem q).1 hq).1];unfold rq;rw [bef_map (fun j=>qc8 (fs j).writes q.key) i _ (hR.filter _)];by_cases hh:hasF (fs i) q.key=true
  ·
   rw [if_pos (List.mem_filter.2 ⟨hi,hh⟩),List.map_eq_nil_iff,List.filter_eq_nil_iff];constructor
   ·
    intro g _ j hj hji hjk;have:=g j (List.mem_filter.2 ⟨hj,hjk⟩);simpa [hji] using this
   ·
    intro g j hj;obtain ⟨hj1,hj2⟩:=List.mem_filter.1 hj;by_cases hji:j<i
    ·
     have:=g hh j hj1 hji hj2;simp [this]
    · simp [hji]
  ·
   have hn:¬ i∈R.filter fun i=>hasF (fs i) q.key:=fun g=>hh (List.mem_filter.1 g).2;rw [if_neg hn];simp [hh]
 unfold qdr;rw [List.append_eq_nil_iff,e1,List.flatMap_eq_nil_iff];constructor
 ·
  rintro ⟨g1,g2⟩ j hj hji;have h1:=g1 j hj hji;simp only [Bool.or_eq_false_iff] at h1;rcases hx:qci (fs j) (fs i) with _ | _
  · rfl
  ·
   exfalso;unfold qci at hx;rw [if_neg (by rw [hf j hj,hf i hi,h1.1,h1.2];simp)] at hx;have key:∀ k,hasF (fs j) k=true→hasF (fs i) k=true→(qc8 (fs j).writes k||qc8 (fs i).writes k)=true→False:=fun k a b c=>by
    have hq:(⟨k,rq fs k R⟩:LQ)∈T.qs:=(h.mem _).2 ⟨rfl,fun e=>by
     have:i∈R.filter fun i=>hasF (fs i) k:=List.mem_filter.2 ⟨hi,b⟩;unfold rq at e;rw [List.map_eq_nil_iff] at e;rw [e] at this;cases this⟩
    have:=(e2 _ hq).1 (g2 _ hq) b j hj hji a;rw [c] at this;cases this
   simp only [meetS,Bool.or_eq_true,List.any_eq_true] at hx;rcases hx with ⟨k,a,b⟩ | ⟨k,a,b⟩ | ⟨k,a,b⟩
   ·
    have a:=qb3.2 a;exact key k (by simp [hasF,a]) (by simp [hasF,b]) (by simp [a])
   ·
    have a:=qb3.2 a;exact key k (by simp [hasF,a]) (by simp [hasF,b]) (by simp [a])
   ·
    have a:=qb3.2 a;exact key k (by simp [hasF,a]) (by simp [hasF,b]) (by simp [b])
 ·
  intro g;have nall:∀ j∈R,j<i→(fs j).all=false∧(fs i).all=false∧meetS (fs j).writes (fs i).writes=false∧meetS (fs j).writes (fs i).reads=false∧meetS (fs j).reads (fs i).writes=false:=fun j hj hji=>by
   have:=g j hj hji;unfold qci at this;split at this
   · cases this
   ·
    rename_i hc;simp only [not_or,Bool.not_eq_false,Bool.not_eq_true] at hc;simp only [Bool.or_eq_false_iff] at this;exact ⟨hc.2.2.1,hc.2.2.2,this.1,this.2.1,this.2.2⟩
  refine ⟨fun j hj hji=>by simp [(nall j hj hji).1,(nall j hj hji).2.1],fun q hq=>(e2 q hq).2 fun hik j hj hji hjk=>?_⟩;obtain ⟨_,_,m1,m2,m3⟩:=nall j hj hji;have no:∀ {a b:List qac},meetS a b=false→qc8 a q.key=true→qc8 b q.key=true→False:=fun {a b} m x y=>by
   unfold meetS at m;rw [List.any_eq_false] at m;exact m _ (qb3.1 x) y
  unfold hasF at hik hjk;rcases Bool.eq_false_or_eq_true (qc8 (fs j).writes q.key) with x | x
  ·
   rcases Bool.or_eq_true_iff.1 hik with y | y
   · exact (no m1 x y).elim
   · exact (no m2 x y).elim
  ·
   rcases Bool.eq_false_or_eq_true (qc8 (fs i).writes q.key) with y | y
   ·
    rw [x,Bool.false_or] at hjk;exact (no m3 hjk y).elim
   · simp [x,y]
theorem ready_eq {fs:Nat→Foot} {R:List Nat} {T:LT} (h:TabOk fs R T) (hR:R.Pairwise (· < ·)) (hf:∀ i∈R,qbi (fs i).all (fs i).reads (fs i).writes=true) :
  readyL T=(R.filter fun i=>R.all fun j=>!(decide (j<i)&&qci (fs j) (fs i))).map Int.ofNat:=by
 unfold readyL;rw [show T.glob.filter (fun r=>(qdr T r.t).isEmpty)=(R.map fun (i:Nat)=>(⟨(i:Int),(fs i).all⟩:LReq)).filter (fun r=>(qdr T r.t).isEmpty) by rw [h.glob],List.filter_map,List.map_map];have hf2:R.filter ((fun r:LReq=>(qdr T r.t).isEmpty)∘fun (i:Nat)=>(⟨(i:Int),(fs i).all⟩:LReq))=R.filter fun i=>R.all fun j=>!(decide (j<i)&&qci (fs j) (fs i)):=by
  refine List.filter_congr fun i hi=>?_;have:=waits_nil h hR hf hi;simp only [Function.comp];rw [Bool.eq_iff_iff,List.isEmpty_iff,this,List.all_eq_true];refine forall₂_congr fun j hj=>?_;by_cases hji:j<i<;>simp [hji]
 rw [hf2];rfl
def lkCand (fs:List Foot) (o:List Nat):List Nat:=(List.range fs.length).filter fun i=>!o.contains i&&(List.range i).all fun j=>o.contains j||!qc4 fs j i
def qdy (fs:List Foot) (choices:List Int):Nat→List Nat
 | 0=>[]
 | n+1=>qdy fs choices n++[(lkCand fs (qdy fs choices n)).getD (choiceS choices n (lkCand fs (qdy fs choices n)).length) 0]
section
variable {fs:List Foot} {o:List Nat}
theorem lk_cand_ne (hL:Leg fs o) (hlen:o.length<fs.length):0<(lkCand fs o).length:=by
 have hex:∃ n,n<fs.length∧n∉o:=Classical.byContradiction fun hno=>by
  have:∀ x∈List.range fs.length,x∈o:=fun x hx=>Classical.byContradiction fun hx2=>hno ⟨x,List.mem_range.1 hx,hx2⟩;have:=nodup_sub (List.range fs.length) o List.nodup_range this;rw [List.length_range] at this;omega
 obtain ⟨n,⟨h1,h2⟩,h3⟩:=least (P:=fun n=>n<fs.length∧n∉o) hex;refine List.length_pos_of_mem (a:=n) (List.mem_filter.2 ⟨List.mem_range.2 h1,?_⟩);simp only [Bool.and_eq_true,Bool.not_eq_true',List.contains_eq_mem,decide_eq_false_iff_not,List.all_eq_true,Bool.or_eq_true,decide_eq_true_eq];refine ⟨h2,fun j hj=>.inl (Classical.byContradiction fun hno=>h3 j (List.mem_range.1 hj) ⟨by have:=List.mem_range.1 hj;omega,hno⟩)⟩
theorem lk_step (hL:Leg fs o) {j:Nat} (hj:j∈lkCand fs o):Leg fs (o++[j]):=by
 obtain ⟨h1,h2⟩:=List.mem_filter.1 hj;simp only [Bool.and_eq_true,Bool.not_eq_true',List.contains_eq_mem,decide_eq_false_iff_not,List.all_eq_true,Bool.or_eq_true,decide_eq_true_eq] at h2;refine .snoc hL (List.mem_range.1 h1) h2.1 fun i hi hc=>?_;rcases h2.2 i (List.mem_range.2 hi) with h | h
 · exact h
 · rw [hc] at h;cases h
theorem lk_leg (fs:List Foot) (choices:List Int):∀ n,n≤fs.length→Leg fs (qdy fs choices n)∧(qdy fs choices n).length=n
 | 0,_=>⟨.nil,rfl⟩
 | n+1,h=>by
  obtain ⟨i1,i2⟩:=lk_leg fs choices n (by omega);have hne:=lk_cand_ne i1 (by omega);refine ⟨lk_step i1 ?_,by simp [qdy,i2]⟩;have hlt:=choice_lt (choices:=choices) (step:=n) hne;rw [List.getD_eq_getElem?_getD,List.getElem?_eq_getElem hlt];exact List.getElem_mem _
def leftR (n:Nat) (o:List Nat):List Nat:=(List.range n).filter fun i=>!o.contains i
theorem leftR_snoc (n:Nat) (o:List Nat) (j:Nat):(leftR n o).filter (fun i=>!decide (i=j))=leftR n (o++[j]):=by
 unfold leftR;rw [List.filter_filter];refine List.filter_congr fun i _=>?_;simp only [List.contains_eq_mem,List.mem_append,List.mem_singleton];by_cases a:i∈o<;>by_cases b:i=j<;>simp [a,b]
theorem cand_left (fs:List Foot) (o:List Nat) (f:Nat→Foot) (hfs:∀ i (h:i<fs.length),f i=effF fs[i]) :
  ((leftR fs.length o).filter fun i=>(leftR fs.length o).all fun j=>!(decide (j<i)&&qci (f j) (f i)))=lkCand fs o:=by
 unfold leftR lkCand;rw [List.filter_filter];refine List.filter_congr fun i hi=>?_;have hil:=List.mem_range.1 hi;by_cases ho:i∈o
 · simp [ho]
 ·
  simp only [List.contains_eq_mem,ho,decide_false,Bool.not_false,Bool.true_and,Bool.and_true];rw [Bool.eq_iff_iff,List.all_eq_true,List.all_eq_true];have hcn:∀ j (hj:j<fs.length),qci (f j) (f i)=qc4 fs j i:=fun j hj=>by
   rw [hfs j hj,hfs i hil,conflS_eff];simp [qc4,hj,hil]
  constructor
  ·
   intro g j hj;have hji:=List.mem_range.1 hj;have hjl:j<fs.length:=by omega
   by_cases hjo:j∈o
   · simp [hjo]
   ·
    have:=g j (List.mem_filter.2 ⟨List.mem_range.2 hjl,by simp [hjo]⟩);rw [hcn j hjl] at this;simpa [hji,hjo] using this
  ·
   intro g j hj;obtain ⟨h1,h2⟩:=List.mem_filter.1 hj;have hjl:=List.mem_range.1 h1;have hjo:j∉o:=by simpa using h2
   by_cases hji:j<i
   ·
    have:=g j (List.mem_range.2 hji);rw [hcn j hjl];simpa [hji,hjo] using this
   · simp [hji]
end
end Go.Cw

namespace Go.Cw
open Go Go.Abs
def qcs (fs:List Foot) (order:List Int):Bool:=permR order fs.length&&decide (earlyP fs order=0)
theorem confN_comm (fs:List Foot) (i j:Nat):qc4 fs i j=qc4 fs j i:=by
 unfold qc4;rcases fs[i]? with _ | x<;>rcases fs[j]? with _ | y<;>simp [conflS_comm]
theorem qdm {fs:List Foot} {order:List Int}:qcs fs order=true↔(order.length=fs.length∧okO fs.length [] order)∧∀ a b,a<b→b<order.length→(order.getD a 0<order.getD b 0∨qc4 fs (order.getD a 0).toNat (order.getD b 0).toNat=false):=by
 unfold qcs;rw [Bool.and_eq_true,decide_eq_true_eq,← perm_iff];exact and_congr_right fun h=>legal_iff h
theorem qd1 {order:List Int} {a:Nat} (h:a<order.length):order.getD a 0=order[a]:=by rw [List.getD_eq_getElem?_getD,List.getElem?_eq_getElem h];rfl
theorem legal_leg {fs:List Foot} {order:List Int} (h:qcs fs order=true):Leg fs (order.map Int.toNat)∧order.length=fs.length:=by
 obtain ⟨⟨h1,h2,h3⟩,h4⟩:=qdm.1 h;simp only [List.nil_append] at h3;refine ⟨?_,h1⟩;have hlt:∀ x∈order.map Int.toNat,x<fs.length:=fun x hx=>by
  obtain ⟨k,hk,rfl⟩:=List.mem_map.1 hx;have:=h2 k hk;omega
 have hall:=nodup_all h3 hlt (by simpa using h1);have step:∀ m,m≤order.length→Leg fs ((order.map Int.toNat).take m):=fun m=>by
  induction m with
  | zero=>intro _;simpa using Leg.nil
  | succ m ih =>
   intro hm;have hml:m<(order.map Int.toNat).length:=by rw [List.length_map];omega
   have hmo:m<order.length:=by omega
   rw [List.take_succ_eq_append_getElem hml];refine .snoc (ih (by omega)) (hlt _ (List.getElem_mem hml)) (fun hmem=>?_) fun i hi hc=>?_
   ·
    obtain ⟨p,hp,e⟩:=List.mem_iff_getElem.1 hmem;rw [List.length_take] at hp;rw [List.getElem_take] at e;have:=(List.getElem_inj h3).1 e;omega
   ·
    obtain ⟨p,hp,e⟩:=List.mem_iff_getElem.1 (hall i (by have:=hlt _ (List.getElem_mem hml);omega));have hpo:p<order.length:=by simpa using hp
    have hne:p≠m:=fun g=>by subst g;rw [e] at hi;omega
    by_cases hpm:p<m
    ·
     rw [List.mem_iff_getElem];exact ⟨p,by rw [List.length_take];omega,by rw [List.getElem_take];exact e⟩
    ·
     have:=h4 m p (by omega) hpo;rw [qd1 hmo,qd1 hpo] at this;simp only [List.getElem_map] at e hi hc;have g1:=h2 _ (List.getElem_mem hmo);have g2:=h2 _ (List.getElem_mem hpo);rcases this with g | g
     · omega
     · rw [e,confN_comm,hc] at g;cases g
 have:=step order.length (Nat.le_refl _)
 rwa [List.take_of_length_le (by simp)] at this
theorem leg_legal {fs:List Foot} {o:List Nat} (h:Leg fs o) (hlen:o.length=fs.length):qcs fs (o.map Int.ofNat)=true:=by
 have hid:(o.map Int.ofNat).map Int.toNat=o:=by
  rw [List.map_map];exact (List.map_congr_left fun a _=>rfl).trans (List.map_id o)
 refine qdm.2 ⟨⟨by simpa using hlen,fun k hk=>?_,by rw [hid];simpa using h.nod⟩,fun a b hab hb=>?_⟩
 ·
  obtain ⟨x,hx,rfl⟩:=List.mem_map.1 hk;have:=h.lt x hx;simp only [Int.ofNat_eq_natCast];omega
 ·
  have hb':b<o.length:=by simpa using hb
  have ha':a<o.length:=by omega
  rw [qd1 (by simpa using ha'),qd1 hb];simp only [List.getElem_map,Int.ofNat_eq_natCast,Int.toNat_natCast];rcases Nat.lt_trichotomy o[a] o[b] with g | g | g
  · exact .inl (by omega)
  ·
   have:=(List.getElem_inj h.nod).1 g;omega
  ·
   right;rcases hx:qc4 fs o[a] o[b] with _ | _
   · rfl
   ·
    rw [confN_comm] at hx;have hm:=h.at a ha' o[b] g hx;obtain ⟨p,hp,e⟩:=List.mem_iff_getElem.1 hm;rw [List.length_take] at hp;rw [List.getElem_take] at e;have:=(List.getElem_inj h.nod).1 e;omega
theorem leg_up (fs:List Foot):qcs fs ((List.range fs.length).map Int.ofNat)=true:=by
 refine leg_legal ?_ (by simp);have:∀ n,n≤fs.length→Leg fs (List.range n):=fun n=>by
  induction n with
  | zero=>intro _;exact .nil
  | succ n ih =>
   intro h;rw [List.range_succ];exact .snoc (ih (by omega)) (by omega) (by simp) fun i hi _=>List.mem_range.2 hi
 exact this _ (Nat.le_refl _)
def swapO (order:List Int) (i:Nat):List Int:=(order.set i (order.getD (i+1) 0)).set (i+1) (order.getD i 0)
theorem swap_get {order:List Int} {i:Nat} (hi:i+1<order.length) (k:Nat):(swapO order i).getD k 0=order.getD (if k=i then i+1 else if k=i+1 then i else k) 0:=by
 unfold swapO;rw [getD_set _ _ _ _ _ (by simpa using hi),getD_set _ _ _ _ _ (by omega)];by_cases h1:k=i
 · subst h1;simp
 ·
  by_cases h2:k=i+1
  · subst h2;simp
  · rw [if_neg (fun e=>h2 e.symm),if_neg (fun e=>h1 e.symm),if_neg h1,if_neg h2]
theorem legal_swap {fs:List Foot} {order:List Int} (h:qcs fs order=true) {i:Nat} (hi:i+1<order.length) :
  qcs fs (swapO order i) = !qc4 fs (order.getD i 0).toNat (order.getD (i+1) 0).toNat:=by
 obtain ⟨⟨h1,h2,h3⟩,h4⟩:=qdm.1 h;simp only [List.nil_append] at h3;have hsl:(swapO order i).length=order.length:=by simp [swapO]
 have hmem:∀ k∈swapO order i,k∈order:=fun k hk=>by
  obtain ⟨p,hp,rfl⟩:=List.mem_iff_getElem.1 hk;have hp':p<order.length:=by omega
  have e:(swapO order i)[p]=(swapO order i).getD p 0:=(qd1 hp).symm;rw [e,swap_get hi];have:(if p=i then i+1 else if p=i+1 then i else p)<order.length:=by split<;>(try split)<;>omega
  rw [qd1 this];exact List.getElem_mem _
 have hnod:((swapO order i).map Int.toNat).Nodup:=by
  rw [List.nodup_iff_pairwise_ne,List.pairwise_iff_getElem];intro a b ha hb hab e;simp only [List.length_map,hsl] at ha hb;simp only [List.getElem_map] at e;have e1:(swapO order i)[a]'(by omega)=(swapO order i).getD a 0:=(qd1 (by omega)).symm;have e2:(swapO order i)[b]'(by omega)=(swapO order i).getD b 0:=(qd1 (by omega)).symm;rw [e1,e2,swap_get hi,swap_get hi] at e;have la:(if a=i then i+1 else if a=i+1 then i else a)<order.length:=by split<;>(try split)<;>omega
  have lb:(if b=i then i+1 else if b=i+1 then i else b)<order.length:=by split<;>(try split)<;>omega
  rw [qd1 la,qd1 lb] at e;have:=(List.getElem_inj h3 (i:=if a=i then i+1 else if a=i+1 then i else a) (j:=if b=i then i+1 else if b=i+1 then i else b) (h₀:=by simpa using la) (h₁:=by simpa using lb)).1 (by simpa using e);split at this<;>split at this<;>(try split at this)<;>(try split at this)<;>omega
 have hok:okO fs.length [] (swapO order i):=⟨fun k hk=>h2 k (hmem k hk),by simpa using hnod⟩
 rw [Bool.eq_iff_iff,qdm];constructor
 ·
  rintro ⟨_,g⟩;have:=g i (i+1) (by omega) (by omega);rw [swap_get hi,swap_get hi] at this;simp only [if_pos,if_neg (show ¬ i+1=i by omega)] at this;have h5:=h4 i (i+1) (by omega) (by omega);rw [confN_comm] at this;rcases this with g1 | g1
  ·
   rcases h5 with g2 | g2
   · omega
   · rw [g2];rfl
  · rw [g1];rfl
 ·
  intro hc;have hc:qc4 fs (order.getD i 0).toNat (order.getD (i+1) 0).toNat=false:=by simpa using hc
  refine ⟨⟨by omega,hok⟩,fun a b hab hb=>?_⟩;rw [hsl] at hb;rw [swap_get hi,swap_get hi];by_cases e1:a=i
  ·
   by_cases e2:b=i+1
   ·
    subst e1 e2;simp only [if_pos,if_neg (show ¬ a+1=a by omega)];right;rw [confN_comm];exact hc
   ·
    subst e1;rw [if_pos rfl,if_neg (show ¬ b=a by omega),if_neg e2];exact h4 (a+1) b (by omega) hb
  ·
   by_cases e2:a=i+1
   ·
    rw [if_neg e1,if_pos e2,if_neg (show ¬ b=i by omega),if_neg (show ¬ b=i+1 by omega)];exact h4 i b (by omega) hb
   ·
    rw [if_neg e1,if_neg e2];by_cases e3:b=i
    · rw [if_pos e3];exact h4 a (i+1) (by omega) hi
    ·
     by_cases e4:b=i+1
     · rw [if_neg e3,if_pos e4];exact h4 a i (by omega) (by omega)
     · rw [if_neg e3,if_neg e4];exact h4 a b hab hb
end Go.Cw

namespace Go.Cw
open Go Go.Abs
structure YH (P:Program) (l:Nat) (HF:Nat→qaa) (HX:Nat→Ex→qaa) (stop:Ex→Bool) (n0:Nat):Prop where
 len:∀ k,(HF k).length=n0
 lenX:∀ k x,(HX k x).length=n0
 und:∀ k,hUnder n0 (HF k)=true
 undX:∀ k x,hUnder n0 (HX k x)=true
 y:∀ k (x:Ex) (L:qaa),AYield P l [.agg x.x] (HF k++L) fun r h'=>(stop x=true→r=.ret (Bo false)∧h'=HX k x++L)∧(stop x=false→r=.ret (Bo true)∧h'=HF (k+1)++L)
theorem YH.ext {P:Program} {l:Nat} {HF:Nat→qaa} {HX:Nat→Ex→qaa} {stop:Ex→Bool} {n0:Nat} (Y:YH P l HF HX stop n0) (L:qaa) (hL:hUnder (n0+L.length) L=true):YH P l (fun k=>HF k++L) (fun k x=>HX k x++L) stop (n0+L.length) where
 len:=fun k=>by rw [List.length_append,Y.len]
 lenX:=fun k x=>by rw [List.length_append,Y.lenX]
 und:=fun k=>by rw [qax,qa1 (by omega) (Y.und k),hL];rfl
 undX:=fun k x=>by rw [qax,qa1 (by omega) (Y.undX k x),hL];rfl
 y:=fun k x L'=>by simpa [List.append_assoc] using Y.y k x (L++L')
def finY (HF:Nat→qaa) (HX:Nat→Ex→qaa) (r:Nat×Option Ex):qaa:=match r.2 with
 | none=>HF r.1
 | some e=>HX r.1 e
def gM (ms:List (Option Nat)):qaa:=ms.map fun | none=>.none | some D=>qdj D
def dM (ms:List (Option Nat)):List Deferred:=(ms.filterMap id).reverse.map coll
def idxM:Nat→List (Option Nat)→List (Nat×Nat)
 | _,[]=>[]
 | k,none::l=>idxM (k+1) l
 | k,some D::l=>idxM (k+1) l++[(k,D)]
theorem idxM_coll:∀ (ms:List (Option Nat)) (k:Nat),(idxM k ms).map (fun p=>coll p.2)=dM ms
 | [],_=>rfl
 | none::l,k=>by simp only [idxM,idxM_coll l];rfl
 | some D::l,k=>by simp [idxM,idxM_coll l,dM]
theorem idxM_ge:∀ (ms:List (Option Nat)) (k:Nat) (p:Nat×Nat),p∈idxM k ms→k≤p.1∧p.1<k+ms.length∧(gM ms)[p.1 - k]?=some (qdj p.2)
 | [],_,p,h=>by simp [idxM] at h
 | none::l,k,p,h=>by
  obtain ⟨h1,h2,h3⟩:=idxM_ge l (k+1) p h;refine ⟨by omega,by simp;omega,?_⟩;rw [show p.1 - k=(p.1 - (k+1))+1 by omega];exact h3
 | some D::l,k,p,h=>by
  rw [idxM,List.mem_append] at h;rcases h with h | h
  ·
   obtain ⟨h1,h2,h3⟩:=idxM_ge l (k+1) p h;refine ⟨by omega,by simp;omega,?_⟩;rw [show p.1 - k=(p.1 - (k+1))+1 by omega];exact h3
  ·
   simp at h;subst h;refine ⟨by simp,by simp,?_⟩;simp [gM]
theorem idxM_nodup:∀ (ms:List (Option Nat)) (k:Nat),((idxM k ms).map (·.1)).Nodup
 | [],_=>List.nodup_nil
 | none::l,k=>idxM_nodup l (k+1)
 | some D::l,k=>by
  rw [idxM,List.map_append,List.nodup_append];refine ⟨idxM_nodup l (k+1),by simp,fun a ha b hb=>?_⟩;rw [List.mem_map] at ha;obtain ⟨p,hp,rfl⟩:=ha;have:=(idxM_ge l (k+1) p hp).1;simp at hb;omega
theorem takeA:∀ (l:List (Nat×Nat)) (A Z:qaa),(∀ p,p∈l→A.length≤p.1)→∃ Z',takeAll l (A++Z)=A++Z'
 | [],A,Z,_=>⟨Z,rfl⟩
 | p::l,A,Z,h=>by
  rw [takeAll,List.set_append_right _ _ (h p (by simp))];exact takeA l A _ fun q hq=>h q (by simp [hq])
theorem gM_app (a b:List (Option Nat)):gM (a++b)=gM a++gM b:=by simp [gM]
theorem dM_snoc (ms:List (Option Nat)) (D:Nat):dM (ms++[none,none,some D])=coll D::dM ms:=by simp [dM,List.filterMap_append]
theorem gM_und (ms:List (Option Nat)) (m:Nat):hUnder m (gM ms)=true:=by
 rw [qbq];intro o ho;simp only [gM,List.mem_map] at ho;obtain ⟨x,_,rfl⟩:=ho;cases x<;>rfl
section
variable {P:Program} {E:Ent} {p:Tmp} {asg body:Code}
def recA (E:Ent) (e:Env) (p:Tmp) (asg body:Code) (l D:Nat) (fn:FuncId) (st:LoopState) (pe:Option Code):AObj:=.raw l (recO st pe fn #[p] asg body D) (slots E.N e)
def roundJ (E:Ent) (idx:Nat) (r0 rb rd:AObj) (R:AEnd→qaa→Prop):AExit→List Deferred→Env→Prop
 | .normal,_,e=>e.h[idx]?=some rb∧∃ h',Wk E ⟨[],e.h.set idx r0⟩ ⟨[],h'⟩∧R (.ret (.val (.bool true))) h'
 | .ret,_,e=>e.h[idx]?=some rb∧∃ h',Wk E ⟨[],e.h.set idx rd⟩ ⟨[],h'⟩∧R (.ret (.val (.bool false))) h'
 | _,_,_=>False
theorem awpI_rangeY {g:Operand} {gf:FuncId} {caps:List AV} {Q:AExit→List Deferred→Env→Prop} {ds:List Deferred} {e:Env} (hg:e.get g=.fn (.func gf) [] caps) (hcaps:∀ H,qa4 H caps=caps)
  (B:Nat→qaa) (X:Nat→Ex→qaa) (stop:Ex→Bool) (xs:List Ex) (k n0:Nat) (hB:e.h=B k) (len:∀ j,(B j).length=n0) (lenX:∀ j x,(X j x).length=n0) (und:∀ j,hUnder n0 (B j)=true) (undX:∀ j x,hUnder n0 (X j x)=true)
  (hsl:qav n0 (slots E.N e)=true) (hp:p<E.N)
  (hit:∀ (l:Nat) (L:qaa) (HX:Nat→Ex→qaa) (n1:Nat),YH P l (fun j=>B j++L) HX stop n1→ACalls P gf ([.fn (.yield l) [] []]++caps) (B k++L) fun r h'=>r=.ret (.tuple [])∧h'=finY (fun j=>B j++L) HX (scan stop xs k))
  (hround:∀ (E':Ent) (l D j:Nat) (x:Ex) (L:qaa) (r0 rb rd:AObj),(∀ m,n0≤m→r0.under m=true∧rb.under m=true∧rd.under m=true)→E'.N=E.N→E'.h=B j++qdj D::r0::L→hUnder E'.h.length E'.h=true→(AV.agg x.x).bd →
   AWpI P E' (some l) asg (thenI (fun ds e1=>ds=[]∧e1.h[n0+1]?=some r0 ∧
    AWpI P E' (some l) body (roundJ E' (n0+1) r0 rb rd fun r h' =>
     (stop x=true→r=.ret (Bo false)∧h'=X j x++qdj D::rd::L)∧(stop x=false→r=.ret (Bo true)∧h'=B (j+1)++qdj D::r0::L))
     [] ⟨e1.t,e1.h.set (n0+1) rb⟩) (fun _ _ _=>False)) [] ⟨(p,.agg x.x)::qdf 0 (slots E.N e),E'.h⟩)
  (hdone:∀ (j D:Nat) (o:AObj),scan stop xs k=(j,none)→Q .normal (coll D::ds) ⟨e.t,B j++[qdj D,o]⟩)
  (hstop:∀ (j:Nat) (x:Ex) (D:Nat) (o:AObj),scan stop xs k=(j,some x)→Q .ret (coll D::ds) ⟨e.t,X j x++[qdj D,o]⟩) :
  AWpI P E none (.rangeFunc g #[p] asg body) Q ds e:=by
 refine awpI_range hg fun fn D l=>?_;have hL:∀ st pe,hUnder (n0+2) [qdj D,recA E e p asg body l D fn st pe]=true:=fun st pe=>by
  simp only [hUnder,qdj,recA,AObj.under,qav,Bool.true_and,Bool.and_true];exact qby (by omega) _ hsl
 have hnl:qa4 (e.h++[qdj D,.raw l (recO .ready none fn #[p] asg body D) (slots E.N e)]) ([.fn (.yield l) [] []]++caps)=[.fn (.yield l) [] []]++caps:=by
  have:∀ (a b:List AV) H,qa4 H (a++b)=qa4 H a++qa4 H b:=fun a b H=>by
   induction a with
   | nil=>rfl
   | cons x a ih=>simp [qa4,ih]
  rw [this,hcaps];simp [qa4,AV.norm]
 rw [hnl,hB];have Y:YH P l (fun j=>B j++[qdj D,recA E e p asg body l D fn .ready none]) (fun j x=>X j x++[qdj D,recA E e p asg body l D fn .done (some .ret)]) stop (n0+2):={
  len:=fun j=>by simp [len]
  lenX:=fun j x=>by simp [lenX]
  und:=fun j=>by rw [qax,qa1 (by omega) (und j),hL];rfl
  undX:=fun j x=>by rw [qax,qa1 (by omega) (undX j x),hL];rfl
  y:=fun j x L=>by
   have hidx:(B j++[qdj D,recA E e p asg body l D fn .ready none]++L)[n0+1]?=some (.raw l (recO .ready none fn #[p] asg body D) (slots E.N e)):=by
    rw [List.append_assoc,List.getElem?_append_right (by rw [len];omega),len,show n0+1 - n0=1 by omega];rfl
   refine ayield_of hidx (by simpa [slots] using hp) fun E' hN hh hu hbd _=>?_;have hN':E'.N=E.N:=by rw [hN];simp [slots]
   have hh':E'.h=B j++qdj D::recA E e p asg body l D fn .ready none::L:=by rw [hh];simp
   have hun:∀ st pe m,n0≤m→(recA E e p asg body l D fn st pe).under m=true:=fun st pe m hm=>qby hm _ hsl;have:=hround E' l D j x L _ (recA E e p asg body l D fn .busy none) (recA E e p asg body l D fn .done (some .ret)) (fun m hm=>⟨hun _ _ m hm,hun _ _ m hm,hun _ _ m hm⟩) hN' hh' (by rw [hh];exact hu) hbd;have hJ:∀ R,roundJ E' (n0+1) (recA E e p asg body l D fn .ready none) (recA E e p asg body l D fn .busy none) (recA E e p asg body l D fn .done (some .ret)) R=roundI E' (n0+1) l fn #[p] asg body D (slots E.N e) R:=fun R=>by
    funext x ds e;cases x<;>rfl
   rw [hJ,hh'] at this;simpa [recA] using this }
 refine (hit l [qdj D,recA E e p asg body l D fn .ready none] _ (n0+2) Y).mono ?_;rintro r h' ⟨rfl,rfl⟩;refine ⟨⟨_,rfl⟩,?_⟩;rcases hsc:scan stop xs k with ⟨j,_ | x⟩
 ·
  refine ⟨.ready,none,by simp,?_,?_⟩
  ·
   simp only [finY];rw [List.getElem?_append_right (by rw [len,len];omega),len,len,show n0+1 - n0=1 by omega];rfl
  ·
   simp only [finY];rw [List.set_append_right _ _ (by rw [len,len];omega),len,len,show n0+1 - n0=1 by omega];exact hdone j D _ hsc
 ·
  refine ⟨.done,some .ret,by simp,?_,?_⟩
  ·
   simp only [finY];rw [List.getElem?_append_right (by rw [len,lenX];omega),len,lenX,show n0+1 - n0=1 by omega];rfl
  ·
   simp only [finY];rw [List.set_append_right _ _ (by rw [len,lenX];omega),len,lenX,show n0+1 - n0=1 by omega];exact awpI_ret (hstop j x D _ hsc)
end
end Go.Cw

namespace Go.Cw
open Go Go.Abs
end Go.Cw

namespace Go.Cw
open Go Go.Abs
end Go.Cw

namespace Go.Cw
open Go Go.Abs
theorem takeWhile_idx {α:Type} (q:α→Bool):∀ (l:List α) (n m:Nat),qbj q n l=((n+m:Nat):Int)→l.takeWhile (fun x=>!q x)=l.take m
 | [],n,m,h=>by simp
 | x::l,n,m,h=>by
  rw [qbj] at h;by_cases hx:q x=true
  ·
   rw [if_pos hx] at h;have:m=0:=by omega
   subst this;simp [hx]
  ·
   rw [if_neg hx] at h;cases m with
   | zero =>
    exfalso;rcases idxR_from q l (n+1) with ⟨h1,_⟩ | ⟨k,_,h1,_⟩
    · omega
    · omega
   | succ m =>
    rw [List.take_succ_cons,List.takeWhile_cons_of_pos (by simpa using hx),takeWhile_idx q l (n+1) m (by rw [h];congr 1;omega)]
theorem befQ_at (t:Int) (l:List LReq):(qcp (fun x:LReq=>decide (x.t=t)) l = -1∧befQ t l=[])∨∃ (m:Nat) (hm:m<l.length),qcp (fun x:LReq=>decide (x.t=t)) l=(m:Int)∧befQ t l=((l.take m).filter fun x=>x.w||l[m].w).map (·.t):=by
 rcases idxR_find (fun x:LReq=>decide (x.t=t)) l with ⟨h1,h2⟩ | ⟨m,hm,h1,h2⟩
 · exact .inl ⟨h1,by unfold befQ;rw [h2]⟩
 ·
  refine .inr ⟨m,hm,h1,?_⟩;unfold befQ;rw [h2];simp only;rw [takeWhile_idx (fun x:LReq=>decide (x.t=t)) l 0 m (by rw [Nat.zero_add];exact h1)]
theorem befQ_len (t:Int) (l:List LReq):(befQ t l).length≤l.length:=by
 rcases befQ_at t l with ⟨_,h⟩ | ⟨m,hm,_,h⟩
 · rw [h];exact Nat.zero_le _
 ·
  rw [h,List.length_map];exact Nat.le_trans (List.length_filter_le _ _) (by rw [List.length_take];omega)
end Go.Cw
