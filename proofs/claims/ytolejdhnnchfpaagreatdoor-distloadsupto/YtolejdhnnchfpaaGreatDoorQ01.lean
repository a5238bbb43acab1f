/- Part 1 of a proof. -/
import Derived.Calls
import Derived.Orders
import Derived.Laws.AppendOwn
import Derived.Tactics
import Derived.KernelRfl
set_option linter.all false
namespace Go
theorem aa{p:Prop}(h:p:=by omega):p:=h
theorem ac{p:Prop}(h:p:=by simp):p:=h
theorem ae{p:Prop}(h:p:=by kernel_rfl):p:=h
theorem af{p:Prop}(h:p:=by grind):p:=h
theorem ag{p:Prop}(h:p:=by simp[go_sem]):p:=h
theorem ah{p:Prop}(h:p:=by first|exact hwk.refl _|exact hwk.app0 _|simp[hwk.refl]):p:=h
theorem ai{p:Prop}(h:p:=by simp[hh]):p:=h
theorem aj{p:Prop}(h:p:=by first|rfl|simp[MS.q]):p:=h
theorem ak{p:Prop}(h:p:=by and_intros<;>kernel_rfl):p:=h
theorem am{p:Prop}(h:p:=by simp[hu,tj hu,go_sem]):p:=h
theorem aq{p:Prop}(h:p:=by simp[hu,go_sem]):p:=h
theorem au{p:Prop}(h:p:=by first|rfl|simp):p:=h
theorem av{p:Prop}(h:p:=by first|rfl|grind|simp[*]):p:=h
theorem ax{p:Prop}(h:p:=by simp[Y.len]):p:=h
theorem ay{p:Prop}(h:p:=by simp[hUnder,AObj.under,AV.under,lj]):p:=h
theorem az{p:Prop}(h:p:=by simp;omega):p:=h
theorem qes{p:Prop}(h:p:=by rw[hF0];exact(Wk.mk (by simp[hh]) (by simp) (by simp[hu,tj hu,go_sem]) (by simp[go_sem]))):p:=h
theorem ba{p:Prop}(h:p:=by decide):p:=h
theorem bb{p:Prop}(h:p:=by simp[Op.operands]):p:=h
theorem bc{p:Prop}(h:p:=by simp[il]):p:=h
theorem bf{p:Prop}(h:p:=by simp[N4.add]):p:=h
theorem bh{p:Prop}(h:p:=by grind[N4.add]):p:=h
theorem qet{p:Prop}(h:p:=by simp[go_sem];simpa[go_sem]using ju):p:=h
theorem bi{p:Prop}(h:p:=by simp[wkS,go_sem]):p:=h
theorem bj{p:Prop}(h:p:=by simp[Ctx.addSl]):p:=h
theorem bm{p:Prop}(h:p:=by simp[T.len]):p:=h
theorem bp{p:Prop}(h:p:=by rw[hXl];exact hX.und _):p:=h
theorem qeu{p:Prop}(h:p:=by first|kernel_rfl|trivial):p:=h
theorem br{p:Prop}(h:p:=by simpa[hg]using hI):p:=h
theorem qev{p:Prop}(h:p:=by simp only[execOp,lf,c8,jk,dm,c9]):p:=h
theorem bs{p:Prop}(h:p:=by simpa using k.len):p:=h
theorem qew{p:Prop}(h:p:=by rw[xbb (by have:=(h.base y hy).1;omega)];exact(h.base y hy).2):p:=h
theorem bu{p:Prop}(h:p:=by simp[hx]):p:=h
theorem qex{p:Prop}(h:p:=by simp[Op.operands,Call.operands]):p:=h
theorem qey{p:Prop}(h:p:=by simp[go_sem,hXl];omega):p:=h
theorem qez{p:Prop}(h:p:=by simp[AV.under,lj]):p:=h
theorem qe0{p:Prop}(h:p:=by simp[N4.add,N4.one,N4.zero]):p:=h
theorem bv{p:Prop}(h:p:=by simp[go_sem,e2]):p:=h
theorem bw{p:Prop}(h:p:=by simpa using h1):p:=h
theorem qe1{p:Prop}(h:p:=by have:=k.len;simp;omega):p:=h
theorem qe2{p:Prop}(h:p:=by simp[ox h2,goInt]):p:=h
theorem qe3{p:Prop}(h:p:=by simp[go_sem];omega):p:=h
theorem bx{p:Prop}(h:p:=by simp[h]):p:=h
theorem qe4{p:Prop}(h:p:=by simp[Region.wanted,g1]):p:=h
theorem qe5{p:Prop}(h:p:=by simp only[Rows.uptoBulkAll]at hbk;omega):p:=h
theorem qe6{p:Prop}(h:p:=by grind[ec]):p:=h
theorem bz{p:Prop}(h:p:=by grind[je]):p:=h
theorem qe7{p:Prop}(h:p:=by grind[Nat.mul_comm,Nat.mul_add_mod,Nat.mod_eq_of_lt]):p:=h
theorem qe8{p:Prop}(h:p:=by grind[N4.add,N4.mx]):p:=h
theorem qe9{p:Prop}(h:p:=by simp[Ctx.trunc,il,h1]):p:=h
theorem qfa{p:Prop}(h:p:=by have:=T.hc;simp[go_sem,T.len];omega):p:=h
theorem qfb{p:Prop}(h:p:=by grind[jq,im,xdx]):p:=h
theorem ca{p:Prop}(h:p:=by simp_all):p:=h
theorem cf{p:Prop}(h:p:=by grind[qed]):p:=h
theorem qfc{p:Prop}(h:p:=by simp[go_sem,Y.len]<;>omega):p:=h
theorem qfd{p:Prop}(h:p:=by rw[lf];simp[Op.operands]):p:=h
theorem cg{p:Prop}(h:p:=by cases h):p:=h
theorem cj{p:Prop}(h:p:=by simp[h0]):p:=h
theorem qfe{p:Prop}(h:p:=by simp[Instr.indexAt,asIntOf,Instr.sureAddr,ox h2,qqc,xl ln,vg]):p:=h
theorem qff{p:Prop}(h:p:=by simp[Y.und,Y.undA,Y.len,go_sem]):p:=h
theorem qfg{p:Prop}(h:p:=by simp only[maxLen];omega):p:=h
theorem qfh{p:Prop}(h:p:=by rw[Y.len];omega):p:=h
theorem ck{p:Prop}(h:p:=by simp[hy]):p:=h
theorem qfi{p:Prop}(h:p:=by simp[Act.eval,Act.put]):p:=h
theorem qfj{p:Prop}(h:p:=by grind[qi3,qjr]):p:=h
theorem qfk{p:Prop}(h:p:=by simp[zeroValue,run_typeInfo _ ln,yp]):p:=h
theorem qfl{p:Prop}(h:p:=by simp[execOp,resolve,invoke,builtin,hr]):p:=h
theorem qfm{p:Prop}(h:p:=by simp[je,hv,Value.ownBlock]):p:=h
theorem qfn{p:Prop}(h:p:=by simp[zeroValue,run_typeInfo _ h1,h3]):p:=h
theorem qfo{p:Prop}(h:p:=by simp[hr]):p:=h
theorem qfp{p:Prop}(h:p:=by simp[Ctx.addBlk]):p:=h
theorem qfq{p:Prop}(h:p:=by rw[gz];exact qh hu rfl):p:=h
theorem qfr{p:Prop}(h:p:=by have:=(h.base y hy).1;omega):p:=h
theorem qfs{p:Prop}(h:p:=by simpa using hj):p:=h
theorem qft{p:Prop}(h:p:=by have:=W.lt;simp[go_sem,W.len];omega):p:=h
theorem qfu{p:Prop}(h:p:=by simp[execOp,hr]):p:=h
theorem qfv{p:Prop}(h:p:=by have:=hZ.trans hI;simpa using this):p:=h
theorem qfw{p:Prop}(h:p:=by simp only[c8,joy hu hms,c9,binOp,Op.equal,Op.maxDepth,jnm hu];simp):p:=h
theorem qfx{p:Prop}(h:p:=by simp[hu]):p:=h
theorem qfy{p:Prop}(h:p:=by simpa[hg,s6,hc,after]using hI):p:=h
theorem qfz{p:Prop}(h:p:=by simp[ko,AV.norm]):p:=h
theorem qf0{p:Prop}(h:p:=by simpa[s6,hc]using hI):p:=h
theorem qf1{p:Prop}(h:p:=by simpa[go_sem]using hr):p:=h
theorem qf2{p:Prop}(h:p:=by simp[hHd]):p:=h
theorem qf3{p:Prop}(h:p:=by rw[hw g (by simp[je,h1,hv,Value.ownBlock]),hh]):p:=h
theorem qf4{p:Prop}(h:p:=by simp only[execOp,lf,Instr.alloc,newVar,newRow,c8,yt,qck,dm,c9]):p:=h
theorem qf5{p:Prop}(h:p:=by simp_all[dx]):p:=h
theorem qf6{p:Prop}(h:p:=by simp only[execOp,lf,Instr.box,newVar,newRow,c8,qck,dm,c9]):p:=h
theorem qf7{p:Prop}(h:p:=by simpa using h):p:=h
theorem qf8{p:Prop}(h:p:=by simp_all[Nat.mod_lt]):p:=h
theorem qf9{p:Prop}(h:p:=by simp only[Instr.loadAt,Instr.sureAddr,c8,dm,c9];exact v6):p:=h
theorem qga{p:Prop}(h:p:=by simp[n0]):p:=h
theorem qgb{p:Prop}(h:p:=by simp only[eqGuard,binOp,c8,Op.equal,Op.maxDepth,jll hu];simp[eqGuard]):p:=h
theorem qgc{p:Prop}(h:p:=by rw[<-dn];exact hwk.app0 _):p:=h
theorem qgd{p:Prop}(h:p:=by simp[nv]):p:=h
theorem qge{p:Prop}(h:p:=by simp[hh,Y.len]):p:=h
theorem qgf{p:Prop}(h:p:=by simp[hh,T.len]):p:=h
theorem qgg{p:Prop}(h:p:=by simp[go_sem,Y.len,han,hbn]):p:=h
theorem qgh{p:Prop}(h:p:=by rw[inv.size];rw[ww]at hdok;exact hdok):p:=h
theorem qgi{p:Prop}(h:p:=by rw[h4,show k+1+i=k+(i+1)from by omega]):p:=h
theorem qgj{p:Prop}(h:p:=by simp[hq]):p:=h
theorem qgk{p:Prop}(h:p:=by simp[hl]):p:=h
theorem qgl{p:Prop}(h:p:=by simp[h1]):p:=h
theorem qgm{p:Prop}(h:p:=by rw[N.ls];exact ht):p:=h
theorem qgn{p:Prop}(h:p:=by rw[N.le];exact ht):p:=h
theorem qgo{p:Prop}(h:p:=by simp only[c7,ey,qi8,hkl,zf];omega):p:=h
theorem qgp{p:Prop}(h:p:=by simp only[N4.add];omega):p:=h
theorem qgq{p:Prop}(h:p:=by rw[hcan];simpa using hg):p:=h
theorem qgr{p:Prop}(h:p:=by rw[Y.len];exact Y.und _):p:=h
theorem qgs{p:Prop}(h:p:=by grind[ObjWk]):p:=h
theorem qgt{p:Prop}(h:p:=by cases o.dst<;>simp[Act.put,inv.size]):p:=h
theorem qgu{p:Prop}(h:p:=by simpa[okB,hg]using hI):p:=h
theorem qgv{p:Prop}(h:p:=by simp only[execOp,lf,hav,c8,jk,dm,c9]):p:=h
theorem qgw{p:Prop}(h:p:=by simp[World.frozen?,hk]):p:=h
theorem qgx{p:Prop}(h:p:=by rw[hsize];exact k.size):p:=h
theorem qgy{p:Prop}(h:p:=by simp[je,Ctx.addSl,Value.ownBlock]):p:=h
theorem qgz{p:Prop}(h:p:=by have:=ha.2;omega):p:=h
theorem qg0{p:Prop}(h:p:=by simp[AObj.under,lj,AV.under,ke]):p:=h
theorem qg1{p:Prop}(h:p:=by rw[<-ee];congr 1;omega):p:=h
theorem qg2{p:Prop}(h:p:=by simpa[go_sem]using jn1 h iw (decide (tw=1)) b[k] [] (by omega)):p:=h
theorem qg3{p:Prop}(h:p:=by simpa[go_sem]using jn1 h iw (decide (tw=1)) a[i] [] (by omega)):p:=h
theorem qg4{p:Prop}(h:p:=by simp only[c8,g1,c9,binOp,g2,dm]):p:=h
theorem qg5{p:Prop}(h:p:=by rw[hw b' (by simp[je,h1]),h2]):p:=h
theorem qg6{p:Prop}(h:p:=by rw[qdp.2 c1,c2];rfl):p:=h
theorem qg7{p:Prop}(h:p:=by simpa using hi):p:=h
theorem qg8{p:Prop}(h:p:=by simp[je,h1,hv,Value.ownBlock]):p:=h
theorem qg9{p:Prop}(h:p:=by simp[execOp,hb,jnn hf]):p:=h
theorem qha{p:Prop}(h:p:=by unfold maxLen;omega):p:=h
theorem qhb{p:Prop}(h:p:=by simp[lj,AV.under]):p:=h
theorem qhc{p:Prop}(h:p:=by simp[go_sem,T.len]):p:=h
theorem qhd{p:Prop}(h:p:=by cases o.dst<;>exact inv.defers):p:=h
theorem qhe{p:Prop}(h:p:=by simp[s6]):p:=h
theorem qhf{p:Prop}(h:p:=by rw[<-hXs];exact hwk.refl _):p:=h
theorem qhg{p:Prop}(h:p:=by obtain⟨_,_,_,_,_,_,h3,_⟩:=hs.obj i _ hi;simpa using h3):p:=h
theorem qhh{p:Prop}(h:p:=by simpa[go_sem]using jcl h u6 iw b[k] [] (by omega)):p:=h
theorem qhi{p:Prop}(h:p:=by simp[hi]):p:=h
theorem qhj{p:Prop}(h:p:=by simp[go_sem,hXl,hwm];omega):p:=h
theorem qhk{p:Prop}(h:p:=by simp[AObj.under]):p:=h
theorem qhl{p:Prop}(h:p:=by grind[Ctx.trunc]):p:=h
theorem qhm{p:Prop}(h:p:=by have:=xr1 hj;rw[<-hE.1]at this;simpa using this):p:=h
theorem qhn{p:Prop}(h:p:=by have:=Y.hm;simp[qq6,List.zipIdx];exact .inl (by omega)):p:=h
theorem qho{p:Prop}(h:p:=by simp[go_sem,hv]):p:=h
theorem qhp{p:Prop}(h:p:=by rw[W.len];omega):p:=h
theorem qhq{p:Prop}(h:p:=by rw[B.len];omega):p:=h
theorem qhr{p:Prop}(h:p:=by simpa[go_sem]using xyh h iw a[i] [] (by omega)):p:=h
theorem qhs{p:Prop}(h:p:=by simp[Instr.indexAt,asIntOf,ox h2,qqc,xl ln,vg]):p:=h
theorem qht{p:Prop}(h:p:=by rw[hb];rfl):p:=h
theorem qhu{p:Prop}(h:p:=by first|(simp[hl2,g3];done)|(simp[hl2,g3];omega)):p:=h
theorem qhv{p:Prop}(h:p:=by simp only;omega):p:=h
theorem qhw{p:Prop}(h:p:=by simp[zj,hN]):p:=h
theorem qhx{p:Prop}(h:p:=by grind[xdz]):p:=h
theorem qhy{p:Prop}(h:p:=by simp[qw]):p:=h
theorem qhz{p:Prop}(h:p:=by simp[qq6,List.zipIdx]):p:=h
theorem qh0{p:Prop}(h:p:=by simp[Region.wanted,hg]):p:=h
theorem qh1{p:Prop}(h:p:=by simp[Region.wanted,g2]):p:=h
theorem qh2{p:Prop}(h:p:=by simpa using hv):p:=h
theorem qh3{p:Prop}(h:p:=by simp only[qi9,ni,hk];exact h3):p:=h
theorem qh4{p:Prop}(h:p:=by rw[<-hH];simp;omega):p:=h
theorem qh5{p:Prop}(h:p:=by rw[s.size];exact hlt1):p:=h
theorem qh6{p:Prop}(h:p:=by rw[ut];exact k.size):p:=h
theorem qh7{p:Prop}(h:p:=by have:=inv.ok.len;rwa [qzw d.quiet]at this):p:=h
theorem qh8{p:Prop}(h:p:=by have:=h.len;simp;omega):p:=h
theorem qh9{p:Prop}(h:p:=by simp[je,h1]):p:=h
theorem qia{p:Prop}(h:p:=by simp[eqGuard,binOp,Op.shift,Int.not_lt.2 hs]):p:=h
theorem qib{p:Prop}(h:p:=by simp[Op.operands,hy]):p:=h
theorem qic{p:Prop}(h:p:=by simp[N4.add,N4.zero]):p:=h
theorem qid{p:Prop}(h:p:=by grind[slots]):p:=h
theorem qie{p:Prop}(h:p:=by rintro _ _ ⟨rfl,rfl⟩;exact⟨rfl,rfl⟩):p:=h
theorem qif{p:Prop}(h:p:=by simp[tj hu,go_sem]):p:=h
theorem qig{p:Prop}(h:p:=by simp[N4.add,N4.one]):p:=h
theorem qih{p:Prop}(h:p:=by simp[wv]):p:=h
theorem qii{p:Prop}(h:p:=by simp[rows']):p:=h
theorem qij{p:Prop}(h:p:=by simp[je,Ctx.addSl,hv0,hn,Value.ownBlock]):p:=h
theorem qik{p:Prop}(h:p:=by simp[W.len]):p:=h
theorem qil{p:Prop}(h:p:=by rw[hv0];rfl):p:=h
theorem qim{p:Prop}(h:p:=by rw[hT,dn];exact hwk.app0 _):p:=h
theorem qin{p:Prop}(h:p:=by grind[qt4]):p:=h
theorem qio{p:Prop}(h:p:=by simpa using hus _ _):p:=h
theorem qip{p:Prop}(h:p:=by cases hm):p:=h
theorem qiq{p:Prop}(h:p:=by rw[cz,Nat.add_assoc];exact hu):p:=h
theorem qir{p:Prop}(h:p:=by rw[hl6];exact hu6):p:=h
theorem qis{p:Prop}(h:p:=by rw[hkl];exact il):p:=h
theorem qit{p:Prop}(h:p:=by rw[hK];rfl):p:=h
theorem qiu{p:Prop}(h:p:=by rw[hF];rfl):p:=h
theorem qiv{p:Prop}(h:p:=by rintro _ ⟨e,rfl,_⟩;rw[Ex.c_eq];rfl):p:=h
theorem qiw{p:Prop}(h:p:=by grind[qc8]):p:=h
theorem cm:type_of% @List.getElem?_eq_some_iff:=@List.getElem?_eq_some_iff
theorem cn:type_of% @Nat.le_refl:=@Nat.le_refl
theorem co:type_of% @List.getElem?_append_left:=@List.getElem?_append_left
theorem cq:type_of% @List.drop_eq_nil_of_le:=@List.drop_eq_nil_of_le
theorem ct:type_of% @List.getElem?_set_ne:=@List.getElem?_set_ne
theorem cu:type_of% @List.getElem?_eq_getElem:=@List.getElem?_eq_getElem
theorem cv:type_of% @List.mem_of_getElem?:=@List.mem_of_getElem?
theorem cw:type_of% @Bool.and_eq_true:=@Bool.and_eq_true
theorem cx:type_of% @List.getElem?_append_right:=@List.getElem?_append_right
theorem cy:type_of% @List.mem_map:=@List.mem_map
theorem cz:type_of% @Nat.zero_add:=@Nat.zero_add
theorem c0:type_of% @List.mem_cons:=@List.mem_cons
theorem c7:type_of% @List.length_append:=@List.length_append
theorem c8:type_of% @Sem.run_bind:=@Sem.run_bind
theorem c9:type_of% @Result.andThen_ok:=@Result.andThen_ok
theorem da:type_of% @List.getElem?_of_mem:=@List.getElem?_of_mem
theorem db:type_of% @Option.map_eq_some_iff:=@Option.map_eq_some_iff
theorem dh:type_of% @Bool.true_and:=@Bool.true_and
theorem di:type_of% @List.getElem?_map:=@List.getElem?_map
theorem dj:type_of% @List.map_cons:=@List.map_cons
theorem dk:type_of% @List.getElem_mem:=@List.getElem_mem
theorem dm:type_of% @Sem.run_pure:=@Sem.run_pure
theorem dn:type_of% @List.append_assoc:=@List.append_assoc
theorem dq:type_of% @Nat.zero_le:=@Nat.zero_le
theorem dr:type_of% @List.all_eq_true:=@List.all_eq_true
theorem dt:type_of% @List.getElem?_take:=@List.getElem?_take
theorem du:type_of% @List.getElem?_set_self:=@List.getElem?_set_self
theorem dv:type_of% @Nat.le_trans:=@Nat.le_trans
theorem dw:type_of% @List.mem_append:=@List.mem_append
theorem dx:type_of% @Nat.mul_le_mul_right:=@Nat.mul_le_mul_right
theorem dy:type_of% @List.length_cons:=@List.length_cons
theorem dz:type_of% @Array.getD_eq_getD_getElem?:=@Array.getD_eq_getD_getElem?
theorem ea:type_of% @Nat.add_zero:=@Nat.add_zero
theorem eb:type_of% @Option.some.injEq:=@Option.some.injEq
theorem ec:type_of% @List.take_succ_eq_append_getElem:=@List.take_succ_eq_append_getElem
theorem ed:type_of% @List.length_nil:=@List.length_nil
theorem ee:type_of% @Nat.add_mul:=@Nat.add_mul
theorem eg:type_of% @List.map_append:=@List.map_append
theorem eh:type_of% @List.pairwise_cons:=@List.pairwise_cons
theorem ei:type_of% @Nat.lt_or_ge:=@Nat.lt_or_ge
theorem ej:type_of% @List.append_nil:=@List.append_nil
theorem eo:type_of% @List.length_map:=@List.length_map
theorem ep:type_of% @List.mem_singleton:=@List.mem_singleton
theorem ew:type_of% @List.getElem?_drop:=@List.getElem?_drop
theorem ey:type_of% @List.length_take:=@List.length_take
theorem ez:type_of% @Nat.le_of_lt:=@Nat.le_of_lt
theorem e6:type_of% @List.set_append_left:=@List.set_append_left
theorem e8:type_of% @Option.map_some:=@Option.map_some
theorem e9:type_of% @List.mem_filter:=@List.mem_filter
theorem fa:type_of% @Bool.and_true:=@Bool.and_true
theorem fb:type_of% @Array.getElem?_toList:=@Array.getElem?_toList
theorem fc:type_of% @List.map_nil:=@List.map_nil
theorem fe:type_of% @Nat.sub_self:=@Nat.sub_self
theorem ff:type_of% @List.nil_append:=@List.nil_append
theorem fg:type_of% @List.eq_nil_of_length_eq_zero:=@List.eq_nil_of_length_eq_zero
theorem fh:type_of% @List.ext_getElem?:=@List.ext_getElem?
theorem fi:type_of% @Array.getElem?_eq_getElem:=@Array.getElem?_eq_getElem
theorem fj:type_of% @List.foldl_cons:=@List.foldl_cons
theorem fk:type_of% @List.set_append_right:=@List.set_append_right
theorem fl:type_of% @Bool.false_and:=@Bool.false_and
theorem fm:type_of% @Nat.min_eq_left:=@Nat.min_eq_left
theorem fo:type_of% @Nat.one_mul:=@Nat.one_mul
theorem fp:type_of% @Option.bind_some:=@Option.bind_some
theorem fq:type_of% @List.getElem?_eq_none:=@List.getElem?_eq_none
theorem fu:type_of% @Bool.eq_false_iff:=@Bool.eq_false_iff
theorem fv:type_of% @Array.getElem?_eq_some_iff:=@Array.getElem?_eq_some_iff
theorem fw:type_of% @List.take_of_length_le:=@List.take_of_length_le
theorem fx:type_of% @List.length_singleton:=@List.length_singleton
theorem fy:type_of% @Array.getElem?_map:=@Array.getElem?_map
theorem ga:type_of% @List.mem_range:=@List.mem_range
theorem gb:type_of% @List.sizeOf_lt_of_mem:=@List.sizeOf_lt_of_mem
theorem gc:type_of% @List.any_eq_true:=@List.any_eq_true
theorem gd:type_of% @List.map_take:=@List.map_take
theorem gg:type_of% @Array.getElem?_setIfInBounds_ne:=@Array.getElem?_setIfInBounds_ne
theorem gh:type_of% @Bool.and_assoc:=@Bool.and_assoc
theorem gj:type_of% @Array.ext':=@Array.ext'
theorem gn:type_of% @List.take_append_drop:=@List.take_append_drop
theorem gq:type_of% @Option.getD_some:=@Option.getD_some
theorem gu:type_of% @Bool.or_eq_true:=@Bool.or_eq_true
theorem gv:type_of% @Bool.not_eq_true':=@Bool.not_eq_true'
theorem gw:type_of% @List.take_length:=@List.take_length
theorem gy:type_of% @Option.some.inj:=@Option.some.inj
theorem gz:type_of% @List.length_set:=@List.length_set
theorem qix:type_of% @List.cons_append:=@List.cons_append
theorem qiy:type_of% @List.nodup_cons:=@List.nodup_cons
theorem qiz:type_of% @List.map_set:=@List.map_set
theorem qi0:type_of% @Bool.false_or:=@Bool.false_or
theorem qi1:type_of% @List.all_cons:=@List.all_cons
theorem qi2:type_of% @List.set_set:=@List.set_set
theorem qi3:type_of% @List.map_map:=@List.map_map
theorem qi4:type_of% @Nat.lt_of_lt_of_le:=@Nat.lt_of_lt_of_le
theorem qi5:type_of% @List.drop_eq_getElem_cons:=@List.drop_eq_getElem_cons
theorem qi6:type_of% @List.getElem?_cons_succ:=@List.getElem?_cons_succ
theorem qi7:type_of% @List.mem_of_mem_take:=@List.mem_of_mem_take
theorem qi8:type_of% @List.length_drop:=@List.length_drop
theorem qi9:type_of% @List.take_succ_cons:=@List.take_succ_cons
theorem qja:type_of% @List.getElem_of_mem:=@List.getElem_of_mem
theorem qjb:type_of% @List.nodup_nil:=@List.nodup_nil
theorem qjc:type_of% @List.not_mem_nil:=@List.not_mem_nil
theorem qjd:type_of% @List.any_cons:=@List.any_cons
theorem qje:type_of% @Bool.false_eq_true:=@Bool.false_eq_true
theorem qjf:type_of% @List.mem_of_mem_drop:=@List.mem_of_mem_drop
theorem qjg:type_of% @List.size_toArray:=@List.size_toArray
theorem qjh:type_of% @Nat.mul_le_mul:=@Nat.mul_le_mul
theorem qji:type_of% @List.map_toArray:=@List.map_toArray
theorem qjj:type_of% @List.take_zero:=@List.take_zero
theorem qjk:type_of% @List.mem_map_of_mem:=@List.mem_map_of_mem
theorem qjl:type_of% @Option.bind_eq_some_iff:=@Option.bind_eq_some_iff
theorem qjm:type_of% @List.nodup_append:=@List.nodup_append
theorem qjn:type_of% @Bool.eq_false_or_eq_true:=@Bool.eq_false_or_eq_true
theorem qjo:type_of% @List.map_drop:=@List.map_drop
theorem qjp:type_of% @List.length_eq_zero_iff:=@List.length_eq_zero_iff
theorem qjq:type_of% @Nat.lt_trichotomy:=@Nat.lt_trichotomy
theorem qjr:type_of% @List.map_congr_left:=@List.map_congr_left
theorem qjs:type_of% @List.pairwise_iff_getElem:=@List.pairwise_iff_getElem
theorem qjt:type_of% @List.mem_flatMap:=@List.mem_flatMap
theorem qju:type_of% @List.filter_congr:=@List.filter_congr
theorem qjv:type_of% @List.length_filter_le:=@List.length_filter_le
theorem qjw:type_of% @List.sum_cons:=@List.sum_cons
theorem qjx:type_of% @List.any_nil:=@List.any_nil
theorem qjy:type_of% @Array.length_toList:=@Array.length_toList
theorem qjz:type_of% @Array.empty_append:=@Array.empty_append
theorem qj0:type_of% @Array.getElem?_append_left:=@Array.getElem?_append_left
theorem qj1:type_of% @Array.getElem?_replicate:=@Array.getElem?_replicate
theorem qj2:type_of% @List.length_pos_of_mem:=@List.length_pos_of_mem
theorem qj3:type_of% @Bool.not_false:=@Bool.not_false
theorem qj4:type_of% @List.set_append:=@List.set_append
theorem qj5:type_of% @Bool.and_false:=@Bool.and_false
theorem qj6:type_of% @Array.getElem?_modify:=@Array.getElem?_modify
theorem qj7:type_of% @Array.foldl_toList:=@Array.foldl_toList
theorem qj8:type_of% @List.set_cons_succ:=@List.set_cons_succ
theorem qj9:type_of% @Array.all_eq_true':=@Array.all_eq_true'
theorem qka:type_of% @List.drop_sublist:=@List.drop_sublist
theorem qkb:type_of% @List.take_append_of_le_length:=@List.take_append_of_le_length
theorem qkc:type_of% @Array.eq_empty_of_size_eq_zero:=@Array.eq_empty_of_size_eq_zero
theorem qkd:type_of% @Array.append_empty:=@Array.append_empty
theorem qke:type_of% @Int.toNat_natCast:=@Int.toNat_natCast
theorem qkf:type_of% @List.getElem?_replicate:=@List.getElem?_replicate
theorem qkg:type_of% @List.getD_eq_getElem?_getD:=@List.getD_eq_getElem?_getD
theorem qkh:type_of% @List.length_range:=@List.length_range
theorem qki:type_of% @List.filter_filter:=@List.filter_filter
theorem qkj:type_of% @List.mem_or_eq_of_mem_set:=@List.mem_or_eq_of_mem_set
end Go
namespace Go.Abs
inductive AV where
 |top
 |val (v:Value)
 |nils
 |slice (rows:List (List AV))
 |agg (cells:List AV)
 |tuple (vs:List AV)
 |ptr (i off:Nat)
 |eptr (cells:List AV)
 |mapr (i:Nat)
 |fn (f:Fn) (first caps:List AV)
 |iface (t:TypeId) (v:AV)
 |own (i n:Nat)
 |opt (g:Bool) (v:AV)
 |optr (i n sz r q:Nat)
 |lit (cells:List AV)
 |cap (rows:List (List AV))
instance:Inhabited AV:=⟨.top⟩
structure Ctx where
 D:Nat->Nat->Option Value
 blk:Nat->Option Nat
 sl:Nat->Nat->Option Value
structure Ctx.le(c c':Ctx):Prop where
 D:∀b j v,c.D b j=some v->c'.D b j=some v
 blk:∀i b,c.blk i=some b->c'.blk i=some b
 sl:∀i n v,c.sl i n=some v->c'.sl i n=some v
theorem Ctx.le.refl(c:Ctx):c.le c:=⟨λ_ _ _ h=>h,λ_ _ h=>h,λ_ _ _ h=>h⟩
theorem Ctx.le.trans{a b c:Ctx}(h:a.le b)(k:b.le c):a.le c :=
 ⟨λ_ _ _ x=>k.D _ _ _ (h.D _ _ _ x),λ_ _ x=>k.blk _ _ (h.blk _ _ x),λ_ _ _ x=>k.sl _ _ _ (h.sl _ _ _ x)⟩
def qkt:Value->Bool
 | .string s=>decide (s.size<=68719476736)
 |_=>true
inductive DRel(D:Nat->Nat->Option Value):AV->Value->Prop
 |val (v:Value) (h:v.oneCell'=true) (hs:qkt v=true:=by first|rfl|assumption):DRel D (.val v) v
 |nil:DRel D (.slice []) (.slice none 0 0)
 |slice (rows:List (List AV)) (b off cap sz:Nat) (g:Nat->Nat->Value) (jx:∀r,r∈rows->r.length=sz) (hB:rows.length<=68719476736) (hc:rows.length<=cap)
   (hD:∀(i j:Nat) (r:List AV) (x:AV),rows[i]?=some r->r[j]?=some x->D b (off+i * sz+j)=some (g i j))
   (h:∀(i j:Nat) (r:List AV) (x:AV),rows[i]?=some r->r[j]?=some x->DRel D x (g i j)) :
   DRel D (.slice rows) (.slice (some ⟨b,off,none⟩) rows.length cap)
 |empty (a:Addr):DRel D (.slice []) (.slice (some a) 0 0)
theorem DRel.mono{D D':Nat->Nat->Option Value}(hD:∀b j v,D b j=some v->D' b j=some v){x:AV}{v:Value}(h:DRel D x v):DRel D' x v:=by
 induction h with
 |val v h hs=>exact .val v h hs
 |nil=>exact .nil
 |slice rows b off cap sz g jx hB hc h1 h2 ih=>exact .slice rows b off cap sz g jx hB hc (λi j r x hr hx=>hD _ _ _ (h1 i j r x hr hx)) ih
 |empty a=>exact .empty a
theorem DRel.one{D:Nat->Nat->Option Value}{x:AV}{v:Value}(h:DRel D x v):v.oneCell'=true:=by
 cases h with
 |val v h hs=>exact h
 |nil=>rfl
 |slice=>rfl
 |empty=>rfl
inductive Rel(c:Ctx):AV->Value->Prop
 |data {x:AV} {v:Value} (h:DRel c.D x v):Rel c x v
 |top (v:Value):Rel c .top v
 |val (v:Value) (hs:qkt v=true:=by first|rfl|assumption):Rel c (.val v) v
 |nils:Rel c .nils (.slice none 0 0)
 |agg (xs:List AV) (vs:Array Value) (hl:vs.size=xs.length) (ho:∀(j:Nat) (v:Value),vs[j]?=some v->v.oneCell'=true)
   (h:∀(j:Nat) (x:AV) (v:Value),xs[j]?=some x->vs[j]?=some v->Rel c x v):Rel c (.agg xs) (.agg vs)
 |tuple (xs:List AV) (vs:Array Value) (hl:vs.size=xs.length)
   (h:∀(j:Nat) (x:AV) (v:Value),xs[j]?=some x->vs[j]?=some v->Rel c x v):Rel c (.tuple xs) (.tuple vs)
 |ptr (i off b:Nat) (h:c.blk i=some b):Rel c (.ptr i off) (.pointer (some ⟨b,off,none⟩))
 |eptr (cells:List AV) (b o:Nat) (g:Nat->Value) (hD:∀(j:Nat) (x:AV),cells[j]?=some x->c.D b (o+j)=some (g j))
   (h:∀(j:Nat) (x:AV),cells[j]?=some x->DRel c.D x (g j)):Rel c (.eptr cells) (.pointer (some ⟨b,o,none⟩))
 |mapr (i b:Nat) (h:c.blk i=some b):Rel c (.mapr i) (.map (some b))
 |fn (f:Fn) (ys xs:List AV) (us vs:Array Value) (po:us.size=ys.length) (hl:vs.size=xs.length)
   (h':∀(j:Nat) (x:AV) (v:Value),ys[j]?=some x->us[j]?=some v->Rel c x v)
   (h:∀(j:Nat) (x:AV) (v:Value),xs[j]?=some x->vs[j]?=some v->Rel c x v):Rel c (.fn f ys xs) (.func f us vs)
 |iface (t:TypeId) (x:AV) (v:Value) (h:Rel c x v):Rel c (.iface t x) (.iface t v)
 |own (i n:Nat) (v:Value) (h:c.sl i n=some v) (ho:v.oneCell'=true):Rel c (.own i n) v
 |opt (g:Bool) (x:AV) (v:Value) (h:g=true->Rel c x v) (hn:g=false->v=undef):Rel c (.opt g x) v
 |optr (i n sz r q b o len cap:Nat) (h:c.sl i n=some (.slice (some ⟨b,o,none⟩) len cap)):Rel c (.optr i n sz r q) (.pointer (some ⟨b,o+(r * sz+q),none⟩))
 |lit (cells:List AV) (b o cap:Nat) (g:Nat->Value) (hD:∀(j:Nat) (x:AV),cells[j]?=some x->c.D b (o+j)=some (g j))
   (h:∀(j:Nat) (x:AV),cells[j]?=some x->Rel c x (g j)) (ho:∀(j:Nat) (x:AV),cells[j]?=some x->(g j).oneCell'=true):Rel c (.lit cells) (.slice (some ⟨b,o,none⟩) 1 cap)
 |cap (rows:List (List AV)) (a:Option Addr) (n:Nat) (h:DRel c.D (.slice rows) (.slice a n n)):Rel c (.cap rows) (.slice a n n)
theorem Rel.mono{c c':Ctx}(hc:c.le c'){x:AV}{v:Value}(h:Rel c x v):Rel c' x v:=by
 induction h with
 |data h=>exact .data (h.mono hc.D)
 |top v=>exact .top v
 |val v hs=>exact .val v hs
 |nils=>exact .nils
 |agg xs vs hl ho h ih=>exact .agg xs vs hl ho ih
 |tuple xs vs hl h ih=>exact .tuple xs vs hl ih
 |ptr i off b h=>exact .ptr i off b (hc.blk _ _ h)
 |eptr cells b o g hD h=>exact .eptr cells b o g (λj x hx=>hc.D _ _ _ (hD j x hx)) (λj x hx=>(h j x hx).mono hc.D)
 |mapr i b h=>exact .mapr i b (hc.blk _ _ h)
 |fn f ys xs us vs po hl h' h ih' ih=>exact .fn f ys xs us vs po hl ih' ih
 |iface t x v h ih=>exact .iface t x v ih
 |own i n v h ho=>exact .own i n v (hc.sl _ _ _ h) ho
 |opt g x v h hn ih=>exact .opt g x v ih hn
 |optr i n sz r q b o len cap h=>exact .optr i n sz r q b o len cap (hc.sl _ _ _ h)
 |lit cells b o cap g hD h ho ih=>exact .lit cells b o cap g (λj x hx=>hc.D _ _ _ (hD j x hx)) ih ho
 |cap rows a n h=>exact .cap rows a n (h.mono hc.D)
mutual
def AV.under(n:Nat):AV->Bool
 | .top| .val _| .nils| .slice _| .eptr _| .cap _=>true
 | .agg xs| .tuple xs| .lit xs=>lj n xs
 | .fn _ ys xs=>lj n ys&&lj n xs
 | .ptr i _| .mapr i| .own i _| .optr i _ _ _ _=>i<n
 | .iface _ v=>v.under n
 | .opt g v=>!g||v.under n
def lj(n:Nat):List AV->Bool
 | []=>true
 |x::xs=>x.under n&&lj n xs
end
theorem qb0{n:Nat}:∀{xs:List AV},lj n xs=true↔∀x,x∈xs->x.under n=true
 | []=>by simp[lj]
 |x::xs=>by simp[lj,qb0 (xs:=xs)]
def Ctx.trunc(c:Ctx)(n:Nat):Ctx:={ D:=c.D,blk:=λi=>if i<n then c.blk i else none,sl:=λi m=>if i<n then c.sl i m else none }
theorem Rel.trunc{c:Ctx}{n:Nat}{x:AV}{v:Value}(h:Rel c x v):x.under n=true->Rel (c.trunc n) x v:=by
 induction h with
 |data h=>exact λ_=>.data h
 |top v=>exact λ_=>.top v
 |val v hs=>exact λ_=>.val v hs
 |nils=>exact λ_=>.nils
 |agg xs vs hl ho h ih =>
  intro hb;simp only[AV.under,qb0]at hb;exact .agg xs vs hl ho λj x v hx hv=>ih j x v hx hv (hb x (cv hx))
 |tuple xs vs hl h ih =>
  intro hb;simp only[AV.under,qb0]at hb;exact .tuple xs vs hl λj x v hx hv=>ih j x v hx hv (hb x (cv hx))
 |ptr i off b h =>
  intro hb;simp[AV.under]at hb;exact .ptr i off b qhl
 |eptr cells b o g hD h=>exact λ_=>.eptr cells b o g hD h
 |mapr i b h =>
  intro hb;simp[AV.under]at hb;exact .mapr i b qhl
 |fn f ys xs us vs po hl h' h ih' ih =>
  intro hb;simp only[AV.under,qb0,cw]at hb;exact .fn f ys xs us vs po hl (λj x v hx hv=>ih' j x v hx hv (hb.1 x (cv hx))) λj x v hx hv=>ih j x v hx hv (hb.2 x (cv hx))
 |iface t x v h ih=>exact λhb=>.iface t x v (ih (by grind[AV.under]))
 |own i n v h ho =>
  intro hb;simp[AV.under]at hb;exact .own i n v qhl ho
 |opt g x v h hn ih=>exact λhb=>.opt g x v (λhg=>ih hg (by grind[AV.under])) hn
 |optr i n sz r q b o len cap h =>
  intro hb;simp[AV.under]at hb;exact .optr i n sz r q b o len cap qhl
 |lit cells b o cap g hD h ho ih =>
  intro hb;simp only[AV.under,qb0]at hb;exact .lit cells b o cap g hD (λj x hx=>ih j x hx (hb x (cv hx))) ho
 |cap rows a n h=>exact λ_=>.cap rows a n h
theorem Rel.under{c:Ctx}{n:Nat}(hd:∀i,n<=i->c.blk i=none/\∀m,c.sl i m=none){x:AV}{v:Value}(h:Rel c x v):x.under n=true:=by
 induction h with
 |data h=>cases h<;>rfl
 |top v=>rfl
 |val v hs=>rfl
 |nils=>rfl
 |fn f ys xs us vs po hl h' h ih' ih =>
  simp only[AV.under,qb0,cw];constructor
  .intro x hx;obtain⟨j,hj⟩:=da hx;have il:j<us.size:=af;exact ih' j x us[j] hj bc
  .intro x hx;obtain⟨j,hj⟩:=da hx;have il:j<vs.size:=af;exact ih j x vs[j] hj bc
 |agg xs vs hl ho h ih|tuple xs vs hl h ih =>
  simp only[AV.under,qb0];intro x hx;obtain⟨j,hj⟩:=da hx;have il:j<vs.size:=af;exact ih j x vs[j] hj bc
 |ptr i off b h|mapr i b h =>
  simp only[AV.under,decide_eq_true_eq];rcases ei i n with h1|h1
  .exact h1
  .grind
 |eptr cells b o g hD h=>rfl
 |cap rows a n h=>rfl
 |iface t x v h ih=>exact ih
 |own i m v h ho =>
  simp only[AV.under,decide_eq_true_eq];rcases ei i n with h1|h1
  .exact h1
  .grind
 |opt g x v h hn ih =>
  cases g with
  |false=>rfl
  |true=>simpa[AV.under]using ih rfl
 |optr i m sz r q b o len cap h =>
  simp only[AV.under,decide_eq_true_eq];rcases ei i n with h1|h1
  .exact h1
  .grind
 |lit cells b o cap g hD h ho ih =>
  simp only[AV.under,qb0];intro x hx;obtain⟨j,hj⟩:=da hx;exact ih j x hj
inductive AObj where
 |none
 |cells (xs:List AV)
 |map (es:List (AV×AV))
 |arr (e:TypeId) (sz:Nat) (rows:List (List AV))
 |uarr (e:TypeId) (sz:Nat) (rows:List (List AV))
 |oarr (e:TypeId) (sz:Nat) (rows:List (List AV))
 |iter (s:ByteArray) (pos:Nat)
 |raw (g:Nat) (f:Array Value->Obj) (xs:List AV)
instance:Inhabited AObj:=⟨.none⟩
abbrev g9:=List AObj
def je(c:Ctx)(i:Nat):AObj->Option Nat
 | .none=>Option.none
 | .cells _| .map _| .iter _ _| .raw _ _ _=>c.blk i
 | .arr _ _ rows| .uarr _ _ rows| .oarr _ _ rows=>(c.sl i rows.length).bind Value.ownBlock
def AObj.shares(o:AObj)(j:Nat):Prop :=
 match o with
 | .arr _ sz rows=>j<rows.length * sz
 |_=>False
def mapClk(kj:Array MapEntry)(clock:Nat):Prop:=(∀e,e∈kj.toList->e.born<clock)/\kj.toList.Pairwise λa b=>a.born≠b.born
def ObjR(c:Ctx)(w:World)(i:Nat):AObj->Prop
 | .none=>True
 | .cells xs=>∃b vs T,c.blk i=some b/\w.heap[b]?=some (.cells vs T (0,0))/\vs.size=xs.length /\
   ∀(j:Nat) (x:AV) (v:Value),xs[j]?=some x->vs[j]?=some v->Rel c x v/\v.oneCell'=true
 | .map es=>∃b kj clock,c.blk i=some b/\w.heap[b]?=some (.map kj clock)/\kj.size=es.length /\
   (∀(j:Nat) (k x:AV) (ce:MapEntry),es[j]?=some (k,x)->kj[j]?=some ce->Rel c k ce.key/\Rel c x ce.val)/\mapClk kj clock
 | .iter s pos=>∃b,c.blk i=some b/\w.heap[b]?=some (.stringIter s pos)
 | .raw g f xs=>c.blk i=some g/\∃vs,w.heap[g]?=some (f vs)/\vs.size=xs.length/\∀(j:Nat) (x:AV) (v:Value),xs[j]?=some x->vs[j]?=some v->Rel c x v
 | .arr e sz rows=>∃v vs,c.sl i rows.length=some v/\v.oneCell'=true/\(∀m,rows.length<m->c.sl i m=Option.none)/\w.ownsRow 0 e sz v rows.length vs/\rows.length<=68719476736/\(∀r,r∈rows->r.length=sz) /\
   (∀(i' j:Nat) (r:List AV) (x:AV),rows[i']?=some r->r[j]?=some x->∃u,vs[i' * sz+j]?=some u/\DRel c.D x u) /\
   ∀b j,v.ownBlock=some b->j<rows.length * sz->∃u,c.D b j=some u
 | .uarr e sz rows=>∃v vs,c.sl i rows.length=some v/\v.oneCell'=true/\(∀m,rows.length<m->c.sl i m=Option.none)/\w.ownsRow 0 e sz v rows.length vs/\rows.length<=68719476736/\(∀r,r∈rows->r.length=sz) /\
   (∀(i' j:Nat) (r:List AV) (x:AV),rows[i']?=some r->r[j]?=some x->∃u,vs[i' * sz+j]?=some u/\DRel c.D x u)
 | .oarr e sz rows=>∃v vs,c.sl i rows.length=some v/\v.oneCell'=true/\(∀m,rows.length<m->c.sl i m=Option.none)/\w.ownsRow 0 e sz v rows.length vs/\rows.length<=68719476736/\(∀r,r∈rows->r.length=sz) /\
   (∀(i' j:Nat) (r:List AV) (x:AV),rows[i']?=some r->r[j]?=some x->∃u,vs[i' * sz+j]?=some u/\Rel c x u/\u.oneCell'=true)
structure HSim(c:Ctx)(h:g9)(w:World):Prop where
 data:∀b j v,c.D b j=some v->w.cell? ⟨b,j,none⟩=some v
 dom:∀i,h.length<=i->c.blk i=none/\∀m,c.sl i m=none
 obj:∀i o,h[i]?=some o->ObjR c w i o
 apart:∀i j o o' b,h[i]?=some o->h[j]?=some o'->je c i o=some b->je c j o'=some b->i=j
 sep:∀i o b j v,h[i]?=some o->je c i o=some b->c.D b j=some v->o.shares j
structure Ent where
 N:Nat
 c:Ctx
 h:g9
 w:World
structure Ent.ok(E:Ent)(c:Ctx)(h:g9)(w:World):Prop where
 edom:∀i,E.h.length<=i->E.c.blk i=none/\∀m,E.c.sl i m=none
 ext:E.c.le c
 blk0:∀n,n<E.h.length->c.blk n=E.c.blk n
 len:E.h.length<=h.length
 os:w.os=E.w.os
 tape:w.tape=E.w.tape
 output:w.output=E.w.output
 size:E.w.heap.size<=w.heap.size
 frame:∀b,b<E.w.heap.size->(∀i o,E.h[i]?=some o->je E.c i o≠some b)->w.heap[b]?=E.w.heap[b]?
 newobj:∀i o b,h[i]?=some o->je c i o=some b->(∃i0 o0,E.h[i0]?=some o0/\je E.c i0 o0=some b)\/E.w.heap.size<=b
 dold:∀b j v,c.D b j=some v->E.c.D b j=some v\/E.w.heap.size<=b\/∃i o,E.h[i]?=some o/\je E.c i o=some b
theorem Ent.ok.refl{c:Ctx}{h:g9}{w:World}(N:Nat)(hs:HSim c h w):(⟨N,c,h,w⟩:Ent).ok c h w :=
 ⟨hs.dom,.refl c,λ_ _=>rfl,cn _,rfl,rfl,rfl,cn _,λ_ _ _=>rfl,λ_ o _ ho hb=>.inl ⟨_,o,ho,hb⟩,λ_ _ _ h=>.inl h⟩
theorem Ent.ok.trans{E:Ent}{c c':Ctx}{h h':g9}{w w':World}{N:Nat}(k:E.ok c h w)(k':(⟨N,c,h,w⟩:Ent).ok c' h' w'):E.ok c' h' w' where
 edom:=k.edom
 ext:=k.ext.trans k'.ext
 blk0:=λn hn=>(k'.blk0 n (qi4 hn k.len)).trans (k.blk0 n hn)
 len:=dv k.len k'.len
 os:=k'.os.trans k.os
 tape:=k'.tape.trans k.tape
 output:=k'.output.trans k.output
 size:=dv k.size k'.size
 frame:=λb hb kf=>(k'.frame b (qi4 hb k.size) λi o ho hbk=>by
   rcases k.newobj i o b ho hbk with⟨i0,o0,h0,h1⟩|h2
   .grind
   .omega).trans (k.frame b hb kf)
 newobj:=λi o b ho hb=>by
  rcases k'.newobj i o b ho hb with⟨i0,o0,h0,h1⟩|h2
  .rcases k.newobj i0 o0 b h0 h1 with h3|h3
   .grind
   .omega
  .exact .inr (dv k.size h2)
 dold:=λb j v hD=>by
  rcases k'.dold b j v hD with h|h|⟨i,o,h1,h2⟩
  .exact k.dold b j v h
  .exact .inr (.inl (dv k.size h))
  .rcases k.newobj i o b h1 h2 with⟨i0,o0,g0,g1⟩|g
   .grind
   .omega
inductive AEnd where
 |ret (v:AV)
 |panic (v:AV)
def EndR(c:Ctx):AEnd->Ending->Prop
 | .ret x,.returned v=>Rel c x v
 | .panic x,.panicked [⟨v,false,false⟩]=>Rel c x v
 |_,_=>False
def RelL(c:Ctx)(xs:List AV)(vs:Array Value):Prop:=vs.size=xs.length/\∀(j:Nat) (x:AV) (v:Value),xs[j]?=some x->vs[j]?=some v->Rel c x v
def qtr(P:Program)(f:FuncId):Prop:=∃fn,P.funcs[f]?=some fn/\fn.body.isSome=true/\(fn.name == "runtime.NumGoroutine")=false
def ACalls(P:Program)(f:FuncId)(args:List AV)(h:g9)(R:AEnd->g9->Prop):Prop :=
 qtr P f/\∀(c:Ctx) (w:World) (vs:Array Value),HSim c h w->RelL c args vs ->
  Calls P f vs w λe w'=>∃r h' c',R r h'/\EndR c' r e/\HSim c' h' w'/\(⟨0,c,h,w⟩:Ent).ok c' h' w'
def APure(P:Program)(f:FuncId)(args:List AV)(r:AV):Prop:=∀h,ACalls P f args h λe h'=>e=.ret r/\h'=h
theorem ACalls.mono{P:Program}{f:FuncId}{args:List AV}{h:g9}{R R':AEnd->g9->Prop}(k:ACalls P f args h R)(hr:∀r h',R r h'->R' r h'):ACalls P f args h R' :=
 ⟨k.1,λc w vs hs ha=>(k.2 c w vs hs ha).mono λ_ _ ⟨r,h',c',a,b⟩=>⟨r,h',c',hr _ _ a,b⟩⟩
structure Env where
 t:List (Nat×AV)
 h:g9
def ji:List (Nat×AV)->Nat->AV
 | [],_=>.top
 |(j,x)::l,i=>bif j == i then x else ji l i
def ul:Value->AV
 | .slice none 0 0=>.nils
 | .string s=>if s.size<=68719476736 then .val (.string s)else .top
 |v=>.val v
theorem xb8(c:Ctx)(v:Value):Rel c (ul v) v:=by
 unfold ul;split
 .exact .nils
 .split
  .rename_i h;exact .val _ (by simp[qkt,h])
  .exact .top _
 .rename_i h1 h2;refine .val _ ?_;unfold qkt;split
  .grind
  .rfl
def xe8(l:List Value):Bool:=l.all (·.oneCell')
def qm2:Value->AV
 | .agg ⟨vs⟩=>match xe8 vs with
  |true=>.agg (vs.map ul)
  |false=>.val (.agg ⟨vs⟩)
 |v=>ul v
theorem xg7(c:Ctx)(v:Value):Rel c (qm2 v) v:=by
 unfold qm2;split
 .rename_i vs;split
  .rename_i h;simp only[xe8,dr]at h;refine .agg _ _ ac (λj v hv=>h v (cv qh2)) λj x v hx hv=>?_;simp only[di,db]at hx;obtain⟨u,hu,rfl⟩:=hx;have:vs[j]?=some v:=af;rw[hu]at this;cases this;exact xb8 c _
  .exact .val _
 .exact xb8 c _
def Env.get(e:Env):Operand->AV
 | .tmp i=>ji e.t i
 | .const v=>qm2 v
 | .global _=>.top
 | .func f=>.fn (.func f) [] []
def Env.put(e:Env):Option Tmp->AV->Env
 |some d,x=>{ e with t:=(d,x)::e.t }
 |none,_=>e
structure Sim(N:Nat)(c:Ctx)(e:Env)(a:Act)(w:World):Prop where
 defers:a.defers=[]
 size:a.tmps.size=N
 tmps:∀i,Rel c (ji e.t i) (a.tmps.getD i undef)
 hs:HSim c e.h w
theorem Sim.eval{N:Nat}{c:Ctx}{e:Env}{a:Act}{w:World}(s:Sim N c e a w)(x:Operand):Rel c (e.get x) (a.eval x):=by
 cases x with
 |tmp i=>exact s.tmps i
 |const v=>exact xg7 c v
 |global g=>exact .top _
 |func f=>exact .fn _ [] [] #[] #[] rfl rfl ac ac
theorem Sim.put{N:Nat}{c c':Ctx}{e:Env}{h':g9}{a:Act}{w w':World}(s:Sim N c e a w)(hc:c.le c')(hs:HSim c' h' w'){d:Option Tmp}(hd:∀i,d=some i->i<N){x:AV}{v:Value}
  (hx:Rel c' x v):Sim N c' (({ e with h:=h' }:Env).put d x) (a.put d v) w':=by
 cases d with
 |none=>exact⟨s.defers,s.size,λi=>(s.tmps i).mono hc,hs⟩
 |some d =>
  refine⟨s.defers,by simp[Act.put,s.size],λi=>?_,hs⟩;have sn:=hd d rfl;have il:d<a.tmps.size:=by rw[s.size];exact sn
  by_cases hi:d=i
  .subst hi;simp[Env.put,ji,Act.put,il,hx]
  .have h1:(d == i)=false:=qg7;simp only[Env.put,ji,h1,cond_false,Act.put];have:=(s.tmps i).mono hc;simpa[dz,gg hi]using this
inductive AExit where
 |normal
 |exit (id:Nat)
 |ret
 |panic (v:AV)
def XR(c:Ctx):AExit->Exit->Prop
 | .normal,.normal=>True
 | .exit i,.exit j=>i=j
 | .ret,.ret=>True
 | .panic x,.panic [⟨v,false,false⟩]=>Rel c x v
 |_,_=>False
def qle(E:Ent)(Q:AExit->Env->Prop):Exit->Act->World->Prop :=
 λx a w=>∃x' e c,Q x' e/\XR c x' x/\Sim E.N c e a w/\E.ok c e.h w
def AWp(P:Program)(E:Ent)(code:Code)(Q:AExit->Env->Prop)(e:Env):Prop :=
 ∀c a w,Sim E.N c e a w->E.ok c e.h w->code.wp P (qle E Q) a w
def qsb(P:Program)(E:Ent)(ops:Array Oper)(l:List Oper)(Q:AExit->Env->Prop)(e:Env):Prop :=
 ∀c a w,Sim E.N c e a w->E.ok c e.h w->wpList P ops (qle E Q) l a w
section
def AV.Wk(x y:AV):Prop:=∀c v,Rel c x v->Rel c y v
theorem AV.Wk.refl(x:AV):x.Wk x:=λ_ _ h=>h
theorem AV.Wk.trans{x y z:AV}(h:x.Wk y)(k:y.Wk z):x.Wk z:=λc v r=>k c v (h c v r)
theorem AV.Wk.top(x:AV):x.Wk .top:=λ_ v _=>.top v
theorem AV.Wk.nils:AV.nils.Wk (.slice []):=λ_ _ h=>by
 cases h with
 |data h=>cases h
 |nils=>exact .data .nil
theorem AV.Wk.opt(x:AV):(AV.opt true x).Wk x:=λ_ _ h=>by
 cases h with
 |data h=>cases h
 |opt g x v h hn=>exact h rfl
def wkL:List AV->List AV->Prop
 | [],[]=>True
 |x::xs,y::ys=>x.Wk y/\wkL xs ys
 |_,_=>False
theorem wkL.refl:∀xs,wkL xs xs
 | []=>trivial
 |x::xs=>⟨.refl x,wkL.refl xs⟩
theorem wkL.length:∀{xs ys:List AV},wkL xs ys->xs.length=ys.length
 | [],[],_=>rfl
 |_::_,_::_,h=>by simp[wkL.length h.2]
theorem wkL.get:∀{xs ys:List AV},wkL xs ys->∀(j:Nat) (y:AV),ys[j]?=some y->∃x,xs[j]?=some x/\x.Wk y
 | [],[],_,j,y,h=>by simp at h
 |x::xs,z::ys,h,0,y,hj=>by simp at hj;subst hj;exact⟨x,ac,h.1⟩
 |x::xs,z::ys,h,j+1,y,hj=>by
  obtain⟨x',h1,h2⟩:=h.2.get j y af;exact⟨x',bw,h2⟩
theorem AV.Wk.agg{xs ys:List AV}(h:wkL xs ys):(AV.agg xs).Wk (.agg ys):=λc v r=>by
 cases r with
 |data h=>cases h
 |agg xs vs hl ho hr =>
  refine .agg ys vs (by rw[hl,h.length]) ho λj y v hy hv=>?_;obtain⟨x,hx,hw⟩:=h.get j y hy;exact hw c v (hr j x v hx hv)
theorem AV.Wk.tuple{xs ys:List AV}(h:wkL xs ys):(AV.tuple xs).Wk (.tuple ys):=λc v r=>by
 cases r with
 |data h=>cases h
 |tuple xs vs hl hr =>
  refine .tuple ys vs (by rw[hl,h.length]) λj y v hy hv=>?_;obtain⟨x,hx,hw⟩:=h.get j y hy;exact hw c v (hr j x v hx hv)
theorem AV.Wk.iface{x y:AV}(t:TypeId)(h:x.Wk y):(AV.iface t x).Wk (.iface t y):=λc v r=>by
 cases r with
 |data h=>cases h
 |iface t x v hr=>exact .iface t y v (h c v hr)
def ObjWk:AObj->AObj->Prop
 | .cells xs,.cells ys=>wkL xs ys
 |_,.none=>True
 |o,o'=>o=o'
theorem ObjWk.refl(o:AObj):ObjWk o o:=by
 cases o<;>simp[ObjWk];exact wkL.refl _
def hwk:g9->g9->Prop
 |_,[]=>True
 |o::l,o'::l'=>ObjWk o o'/\hwk l l'
 | [],_::_=>False
theorem hwk.refl:∀h,hwk h h
 | []=>trivial
 |o::l=>⟨.refl o,hwk.refl l⟩
theorem hwk.app{l l':g9}(k:hwk l l'):∀h,hwk (h++l) (h++l')
 | []=>k
 |o::h=>⟨.refl o,hwk.app k h⟩
theorem hwk.app0{l:g9}:∀h,hwk (h++l) h
 | []=>by cases l<;>trivial
 |o::h=>⟨.refl o,hwk.app0 h⟩
theorem hwk.get:∀{h h':g9},hwk h h'->∀(i:Nat) (o':AObj),h'[i]?=some o'->∃o,h[i]?=some o/\ObjWk o o'
 |h,[],_,i,o',hi=>by simp at hi
 | [],_::_,k,_,_,_=>k.elim
 |o::l,p::l',k,0,o',hi=>by simp at hi;subst hi;exact⟨o,ac,k.1⟩
 |o::l,p::l',k,i+1,o',hi=>by
  obtain⟨q,h1,h2⟩:=k.2.get i o' af;exact⟨q,bw,h2⟩
def AObj.under(n:Nat):AObj->Bool
 | .cells xs=>lj n xs
 | .map es=>es.all λp=>p.1.under n&&p.2.under n
 | .raw _ _ xs=>lj n xs
 | .oarr _ _ rows=>rows.all λr=>lj n r
 |_=>true
def hUnder(n:Nat):g9->Bool
 | []=>true
 |o::l=>o.under n&&hUnder n l
theorem qb1{n:Nat}:∀{h:g9},hUnder n h=true↔∀o,o∈h->o.under n=true
 | []=>by simp[hUnder]
 |o::l=>by simp[hUnder,qb1 (h:=l)]
theorem qx{n:Nat}:∀{h l:g9},hUnder n (h++l)=(hUnder n h&&hUnder n l)
 | [],l=>by simp[hUnder]
 |o::h,l=>by simp[hUnder,qx (h:=h),gh]
mutual
theorem AV.under_mono{n m:Nat}(hm:n<=m):∀(x:AV),x.under n=true->x.under m=true
 | .top,_| .val _,_| .nils,_| .slice _,_| .eptr _,_| .cap _,_=>rfl
 | .agg xs,h| .tuple xs,h| .lit xs,h=>by simp only[AV.under]at h|-;exact qbz hm xs h
 | .fn _ ys xs,h=>by simp only[AV.under,cw]at h|-;exact⟨qbz hm ys h.1,qbz hm xs h.2⟩
 | .ptr i _,h| .mapr i,h| .own i _,h| .optr i _ _ _ _,h=>by simp only[AV.under,decide_eq_true_eq]at h|-;omega
 | .iface _ v,h=>by simp only[AV.under]at h|-;exact AV.under_mono hm v h
 | .opt g v,h=>by
  cases g with
  |false=>rfl
  |true=>simp only[AV.under,Bool.not_true,qi0]at h|-;exact AV.under_mono hm v h
theorem qbz{n m:Nat}(hm:n<=m):∀(xs:List AV),lj n xs=true->lj m xs=true
 | [],_=>rfl
 |x::xs,h=>by
  simp only[lj,cw]at h|-;exact⟨AV.under_mono hm x h.1,qbz hm xs h.2⟩
end
theorem uk{n m:Nat}(hm:n<=m){h:g9}(k:hUnder n h=true):hUnder m h=true:=by
 rw[qb1]at k|-;intro o ho;have:=k o ho;cases o with
 |none=>rfl
 |cells xs=>exact qbz hm xs this
 |map es =>
  simp only[AObj.under,dr,cw]at this|-;exact λp hp=>⟨AV.under_mono hm _ (this p hp).1,AV.under_mono hm _ (this p hp).2⟩
 |arr e sz rows=>rfl
 |uarr e sz rows=>rfl
 |oarr e sz rows =>
  simp only[AObj.under,dr]at this|-;exact λr hr=>qbz hm r (this r hr)
 |iter s pos=>rfl
 |raw g f xs=>exact qbz hm xs this
theorem HSim.hUnder{c:Ctx}{h:g9}{w:World}(s:HSim c h w):Abs.hUnder h.length h=true:=by
 rw[qb1];intro o ho;obtain⟨i,hi⟩:=da ho;have k:=s.obj i o hi;cases o with
 |none=>rfl
 |arr=>rfl
 |uarr=>rfl
 |iter=>rfl
 |oarr e sz rows =>
  obtain⟨v,vs,h1,xx,hm,h2,h3,h4,h5⟩:=k;simp only[AObj.under,dr,qb0];intro r hr x hx;obtain⟨i',ke⟩:=da hr;obtain⟨j,hj⟩:=da hx;obtain⟨u,_,hu,_⟩:=h5 i' j r x ke hj;exact hu.under s.dom
 |raw g f xs =>
  obtain⟨h1,vs,h2,h3,h4⟩:=k;simp only[AObj.under,qb0];intro x hx;obtain⟨j,hj⟩:=da hx;have il:j<vs.size:=af;exact(h4 j x vs[j] hj bc).under s.dom
 |cells xs =>
  obtain⟨b,vs,T,h1,h2,h3,h4⟩:=k;simp only[AObj.under,qb0];intro x hx;obtain⟨j,hj⟩:=da hx;have il:j<vs.size:=af;exact(h4 j x vs[j] hj bc).1.under s.dom
 |map es =>
  obtain⟨b,kj,clock,h1,h2,h3,h4,h5⟩:=k;simp only[AObj.under,dr,cw];intro p hp;obtain⟨j,hj⟩:=da hp;have il:j<kj.size:=af;have:=h4 j p.1 p.2 kj[j] hj bc;exact⟨this.1.under s.dom,this.2.under s.dom⟩
theorem xed{c:Ctx}{n i:Nat}(hi:i<n)(o:AObj):je (c.trunc n) i o=je c i o:=by simp_all[je,Ctx.trunc]
theorem xe2{c:Ctx}{i:Nat}{o o':AObj}(k:ObjWk o o'){b:Nat}(h:je c i o'=some b):je c i o=some b:=by
 cases o<;>cases o'<;>simp_all[ObjWk,je]
theorem ObjWk.shares{o o':AObj}(k:ObjWk o o'){c:Ctx}{i b:Nat}(hb:je c i o'=some b)(j:Nat)(h:o.shares j):o'.shares j:=by
 cases o<;>cases o'<;>simp_all[ObjWk,AObj.shares,je]
def Wk(E:Ent)(e e1:Env):Prop:=∀c a w,Sim E.N c e a w->E.ok c e.h w->∃c1,Sim E.N c1 e1 a w/\E.ok c1 e1.h w
theorem Wk.refl(E:Ent)(e:Env):Wk E e e:=λc _ _ h k=>⟨c,h,k⟩
theorem Wk.trans{E:Ent}{e e1 e2:Env}(h:Wk E e e1)(k:Wk E e1 e2):Wk E e e2:=λc a w s o =>
 let ⟨c1,s1,o1⟩:=h c a w s o
 k c1 a w s1 o1
def wkT(n:Nat)(t:List (Nat×AV)):List (Nat×AV)->Prop
 | []=>True
 |(i,x)::l=>(ji t i).Wk x/\x.under n=true/\wkT n t l
theorem wkT.look{n:Nat}{t:List (Nat×AV)}:∀{l:List (Nat×AV)},wkT n t l->∀i,(ji t i).Wk (ji l i)/\(ji l i).under n=true
 | [],_,i=>⟨.top _,rfl⟩
 |(j,x)::l,h,i=>by
  by_cases hj:j=i
  .subst hj;simp only[ji,beq_self_eq_true,cond_true];exact⟨h.1,h.2.1⟩
  .have:(j == i)=false:=qfs;simp only[ji,this,cond_false];exact wkT.look h.2.2 i
theorem Wk.mk{E:Ent}{e e1:Env}(hn:E.h.length<=e1.h.length)(hh:hwk e.h e1.h)(hu:hUnder e1.h.length e1.h=true)(ht:wkT e1.h.length e.t e1.t):Wk E e e1:=by
 intro c a w s o;have qxb:∀(i:Nat) (o':AObj),e1.h[i]?=some o'->i<e1.h.length:=λi o' hi=>(cm.1 hi).1;refine⟨c.trunc e1.h.length,⟨s.defers,s.size,λi=>?_,?_⟩,?_⟩
 .have:=ht.look i;exact(this.1 c _ (s.tmps i)).trunc this.2
 .refine⟨s.hs.data,λi hi=>⟨by simp[Ctx.trunc,Nat.not_lt.2 hi],λm=>by simp[Ctx.trunc,Nat.not_lt.2 hi]⟩,λi o' hi=>?_,λi j o' p b hi hj hb iq=>?_,λi o' b j v hi hb hD=>?_⟩
  .have il:=qxb i o' hi;obtain⟨p,hp,hw⟩:=hh.get i o' hi;have k:=s.hs.obj i p hp;have zh:o'.under e1.h.length=true:=qb1.1 hu o' (cv hi);cases o' with
   |none=>trivial
   |cells ys =>
    cases p with
    |cells xs =>
     obtain⟨b,vs,T,h1,h2,h3,h4⟩:=k;simp only[ObjWk]at hw;simp only[AObj.under,qb0]at zh;refine⟨b,vs,T,qe9,h2,by rw[h3,hw.length],λj y v hy hv=>?_⟩;obtain⟨x,hx,hwk⟩:=hw.get j y hy;have:=h4 j x v hx hv;exact⟨(hwk c v this.1).trunc (zh y (cv hy)),this.2⟩
    |_=>simp[ObjWk]at hw
   |map es =>
    have:p=.map es:=qgs;subst this;obtain⟨b,kj,clock,h1,h2,h3,h4,h5⟩:=k;simp only[AObj.under,dr,cw]at zh;refine⟨b,kj,clock,qe9,h2,h3,λj kk x ce hy hv=>?_,h5⟩;have:=h4 j kk x ce hy hv;have hm:=zh _ (cv hy);exact⟨this.1.trunc hm.1,this.2.trunc hm.2⟩
   |iter s pos =>
    have:p=.iter s pos:=qgs;subst this;obtain⟨b,h1,h2⟩:=k;exact⟨b,qe9,h2⟩
   |raw g f xs =>
    have:p=.raw g f xs:=qgs;subst this;obtain⟨h1,vs,h2,h3,h4⟩:=k;simp only[AObj.under,qb0]at zh;exact⟨qe9,vs,h2,h3,λj x v hx hv=>(h4 j x v hx hv).trunc (zh x (cv hx))⟩
   |arr t sz rows =>
    have:p=.arr t sz rows:=qgs;subst this;obtain⟨v,vs,h1,ho,hm,h2⟩:=k;exact⟨v,vs,qe9,ho,λm og=>by simp[Ctx.trunc,il,hm m og],h2⟩
   |uarr t sz rows =>
    have:p=.uarr t sz rows:=qgs;subst this;obtain⟨v,vs,h1,ho,hm,h2⟩:=k;exact⟨v,vs,qe9,ho,λm og=>by simp[Ctx.trunc,il,hm m og],h2⟩
   |oarr t sz rows =>
    have:p=.oarr t sz rows:=qgs;subst this;obtain⟨v,vs,h1,ho,hm,h2,h3,h4,h5⟩:=k;simp only[AObj.under,dr,qb0]at zh;refine⟨v,vs,qe9,ho,λm og=>by simp[Ctx.trunc,il,hm m og],h2,h3,h4,λi' j r x hr hx=>?_⟩;obtain⟨u,g1,g2,g3⟩:=h5 i' j r x hr hx;exact⟨u,g1,g2.trunc (zh r (cv hr) x (cv hx)),g3⟩
  .obtain⟨o1,h1,w1⟩:=hh.get i o' hi;obtain⟨o2,h2,w2⟩:=hh.get j p hj;rw[xed (qxb i o' hi)]at hb;rw[xed (qxb j p hj)]at iq;exact s.hs.apart i j o1 o2 b h1 h2 (xe2 w1 hb) (xe2 w2 iq)
  .obtain⟨o1,h1,w1⟩:=hh.get i o' hi;rw[xed (qxb i o' hi)]at hb;exact w1.shares hb j (s.hs.sep i o1 b j v h1 (xe2 w1 hb) hD)
 .refine⟨o.edom,⟨o.ext.D,λi b hb=>?_,λi n v hv=>?_⟩,λn il=>by simp only[Ctx.trunc];rw[if_pos aa];exact o.blk0 n il,hn,o.os,o.tape,o.output,o.size,o.frame,λi o' b hi hb=>?_,o.dold⟩
  .have hi:i<e1.h.length:=by
    rcases ei i e1.h.length with h|h
    .exact h
    .rw[(o.edom i (dv hn h)).1]at hb;cases hb
   simp[Ctx.trunc,hi,o.ext.blk i b hb]
  .have hi:i<e1.h.length:=by
    rcases ei i e1.h.length with h|h
    .exact h
    .rw[(o.edom i (dv hn h)).2]at hv;cases hv
   simp[Ctx.trunc,hi,o.ext.sl i n v hv]
  .obtain⟨o1,h1,w1⟩:=hh.get i o' hi;rw[xed (qxb i o' hi)]at hb;exact o.newobj i o1 b h1 (xe2 w1 hb)
section rules
variable {P:Program} {E:Ent} {Q:AExit->Env->Prop} {e:Env}
def AExit.then(K:Env->Prop)(Q:AExit->Env->Prop):AExit->Env->Prop
 | .normal,e=>K e
 |x,e=>Q x e
def AExit.inBlock(id:Nat)(Q:AExit->Env->Prop):AExit->Env->Prop
 | .exit i,e=>if i=id then Q .normal e else Q (.exit i) e
 |x,e=>Q x e
theorem AWp.mono{c:Code}{Q':AExit->Env->Prop}(h:AWp P E c Q e)(hq:∀x e,Q x e->Q' x e):AWp P E c Q' e :=
 λk a w s o=>wp_mono (h k a w s o) λ_ _ _ ⟨x',e',c',q,r⟩=>⟨x',e',c',hq _ _ q,r⟩
theorem AWp.wk{c:Code}{e1:Env}(hw:Wk E e e1)(h:AWp P E c Q e1):AWp P E c Q e :=
 λk a w s o=>let ⟨c1,s1,o1⟩:=hw k a w s o;h c1 a w s1 o1
theorem xcp(h:Q .normal e):AWp P E .skip Q e:=λc _ _ s o=>wp_skip ⟨.normal,e,c,h,trivial,s,o⟩
theorem xir(h:Q .ret e):AWp P E .ret Q e:=λc _ _ s o=>wp_ret ⟨.ret,e,c,h,trivial,s,o⟩
theorem jjn{id:Nat}(h:Q (.exit id) e):AWp P E (.exit id) Q e:=λc _ _ s o=>wp_exit ⟨.exit id,e,c,h,rfl,s,o⟩
theorem tg{x y:Code}(h:AWp P E x (AExit.then (AWp P E y Q) Q) e):AWp P E (.seq x y) Q e:=λc a w s o=>by
 refine wp_seq (wp_mono (h c a w s o) ?_);rintro ex a' w' ⟨x',e',c',hq,hx,jg,ok'⟩;cases x' with
 |normal=>cases ex<;>simp only[XR]at hx;exact hq c' a' w' jg ok'
 |exit i=>cases ex<;>simp only[XR]at hx;exact⟨.exit i,e',c',hq,hx,jg,ok'⟩
 |ret=>cases ex<;>simp only[XR]at hx;exact⟨.ret,e',c',hq,trivial,jg,ok'⟩
 |panic v =>
  cases ex with
  |panic ch=>exact⟨.panic v,e',c',hq,hx,jg,ok'⟩
  |_=>simp only[XR]at hx
theorem jbe{id:Nat}{b:Code}(h:AWp P E b (AExit.inBlock id Q) e):AWp P E (.block id b) Q e:=λc a w s o=>by
 refine wp_block (wp_mono (h c a w s o) ?_);rintro ex a' w' ⟨x',e',c',hq,hx,jg,ok'⟩;cases x' with
 |normal=>cases ex<;>simp only[XR]at hx;exact⟨.normal,e',c',hq,trivial,jg,ok'⟩
 |exit i =>
  cases ex with
  |exit j =>
   simp only[XR]at hx;subst hx;simp only[Exit.inBlock];simp only[AExit.inBlock]at hq;split
   .rename_i hi;rw[if_pos hi]at hq;exact⟨.normal,e',c',hq,trivial,jg,ok'⟩
   .rename_i hi;rw[if_neg hi]at hq;exact⟨.exit i,e',c',hq,rfl,jg,ok'⟩
  |_=>simp only[XR]at hx
 |ret=>cases ex<;>simp only[XR]at hx;exact⟨.ret,e',c',hq,trivial,jg,ok'⟩
 |panic v =>
  cases ex with
  |panic ch=>exact⟨.panic v,e',c',hq,hx,jg,ok'⟩
  |_=>simp only[XR]at hx
theorem Rel.bool{c:Ctx}{b:Bool}{v:Value}(h:Rel c (.val (.bool b)) v):v=.bool b:=by
 cases h with
 |data h=>cases h;rfl
 |val=>rfl
theorem qy1{x:Operand}{t f:Code}{b:Bool}(hb:e.get x=.val (.bool b))(ht:b=true->AWp P E t Q e)(hf:b=false->AWp P E f Q e):AWp P E (.cond x t f) Q e :=
 λc a w s o=>wp_cond_split (Rel.bool (hb▸s.eval x)) (λh=>ht h c a w s o) (λh=>hf h c a w s o)
theorem jkj{ι:Type}{c:Code}{Q:Exit->Act->World->Prop}{a:Act}{w:World}(I:ι->Act->World->Prop)(μ:ι->Nat)(i0:ι)(h₀:I i0 a w)
  (round:∀i a w,I i a w->c.wp P (Exit.then (λa' w'=>∃j,I j a' w'/\μ j<μ i) Q) a w):(Code.loop c).wp P Q a w:=by
 intro b k cs;have key:∀n i a w,μ i=n->I i a w->∃e a' w',Q e a' w'/\Arrives P (lone (b.at a (.code c::.inLoop c::k)) cs w) b k cs e a' w':=by
  intro n
  induction n using Nat.strongRecOn with
  |_ n ih =>
   intro i a w hn hI;obtain⟨e,a₁,w₁,hq,qk3⟩:=round i a w hI b (.inLoop c::k) cs;cases e with
   |normal =>
    obtain⟨j,hI₁,il⟩:=hq;obtain⟨e₂,a₂,w₂,hq₂,harr₂⟩:=ih (μ j) (hn▸il) j a₁ w₁ rfl hI₁;exact⟨e₂,a₂,w₂,hq₂,.of_steps (Steps.trans qk3 (.one step_inLoop)) harr₂⟩
   |exit id=>exact⟨_,a₁,w₁,hq,.pass (x:=.inLoop c) rfl (λ_ _=>.inl ac) qk3⟩
   |goto l=>exact⟨_,a₁,w₁,hq,.pass (x:=.inLoop c) rfl (λ_ _=>.inl ac) qk3⟩
   |ret=>exact⟨_,a₁,w₁,hq,.pass (x:=.inLoop c) rfl (λ_ _=>.inl ac) qk3⟩
   |panic ch=>exact⟨_,a₁,w₁,hq,.pass (x:=.inLoop c) rfl (λ_ _=>.inl ac) qk3⟩
   |outgrown=>exact⟨_,a₁,w₁,hq,.pass (x:=.inLoop c) rfl (λ_ _=>.inl ac) qk3⟩
 obtain⟨e,a',w',hq,qk3⟩:=key _ i0 a w rfl h₀;exact⟨e,a',w',hq,.of_steps (.one step_loop) qk3⟩
theorem xhg{ι:Type}{b:Code}(I:ι->Prop)(S:ι->Env)(μ:ι->Nat)(i0:ι)(h0:I i0)(hw:Wk E e (S i0))
  (round:∀i,I i->AWp P E b (AExit.then (λe'=>∃j,I j/\μ j<μ i/\Wk E e' (S j)) Q) (S i)):AWp P E (.loop b) Q e:=λc a w s o=>by
 refine jkj (ι:=ι) (λi a w=>I i/\∃c,Sim E.N c (S i) a w/\E.ok c (S i).h w) μ i0 ⟨h0,hw c a w s o⟩ ?_;rintro i a w ⟨hI,c,s,o⟩;refine wp_mono (round i hI c a w s o) ?_;rintro ex a' w' ⟨x',e',c',hq,hx,jg,ok'⟩;cases x' with
 |normal =>
  cases ex<;>simp only[XR]at hx;obtain⟨j,hj,il,hwk⟩:=hq;exact⟨j,⟨hj,hwk c' a' w' jg ok'⟩,il⟩
 |exit i=>cases ex<;>simp only[XR]at hx;exact⟨.exit i,e',c',hq,hx,jg,ok'⟩
 |ret=>cases ex<;>simp only[XR]at hx;exact⟨.ret,e',c',hq,trivial,jg,ok'⟩
 |panic v =>
  cases ex with
  |panic ch=>exact⟨.panic v,e',c',hq,hx,jg,ok'⟩
  |_=>simp only[XR]at hx
theorem xc1{id:Nat}{ops:Array Oper}(h:qsb P E ops ops.toList Q e):AWp P E (.region id ops false) Q e :=
 λc a w s o=>wp_region_list (h c a w s o)
theorem xtq{ops:Array Oper}(h:Q .normal e):qsb P E ops [] Q e:=λc _ _ s o=>⟨.normal,e,c,h,trivial,s,o⟩
end rules
end
end Go.Abs
