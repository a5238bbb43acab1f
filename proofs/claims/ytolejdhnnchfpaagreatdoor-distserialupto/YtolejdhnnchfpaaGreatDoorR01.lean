/- Part 1 of a proof. -/
import Derived.Calls
import Derived.Orders
import Derived.Laws.AppendOwn
import Derived.Tactics
import Derived.ChangeKeysEq
import Derived.DeepKeys
import Derived.MapKept
import Derived.KernelRfl
set_option linter.all false
set_option maxRecDepth 100000
set_option maxHeartbeats 4000000
namespace Go
theorem J{p:Prop}(h:p:=by omega):p:=h
theorem Z{p:Prop}(h:p:=by simp):p:=h
theorem W{p:Prop}(h:p:=by grind):p:=h
theorem af{p:Prop}(h:p:=by simp[go_sem]):p:=h
theorem ag{p:Prop}(h:p:=by first|exact hwk.refl _|exact hwk.app0 _|simp[hwk.refl]):p:=h
theorem ah{p:Prop}(h:p:=by kernel_rfl):p:=h
theorem ai{p:Prop}(h:p:=by first|rfl|simp[MS.q]):p:=h
theorem aj{p:Prop}(h:p:=by and_intros<;>kernel_rfl):p:=h
theorem ak{p:Prop}(h:p:=by simp[Q,go_sem]):p:=h
theorem am{p:Prop}(h:p:=by first|rfl|simp):p:=h
theorem an{p:Prop}(h:p:=by first|rfl|grind|simp[*]):p:=h
theorem aq{p:Prop}(h:p:=by simp[h'.len]):p:=h
theorem au{p:Prop}(h:p:=by simp;omega):p:=h
theorem av{p:Prop}(h:p:=by simp[hUnder,AObj.under,V.under,q9]):p:=h
theorem ax{p:Prop}(h:p:=by decide):p:=h
theorem ay{p:Prop}(h:p:=by simp[Op.operands]):p:=h
theorem az{p:Prop}(h:p:=by simp[N4.add]):p:=h
theorem ba{p:Prop}(h:p:=by simp[ni]):p:=h
theorem bb{p:Prop}(h:p:=by simp[hh]):p:=h
theorem bc{p:Prop}(h:p:=by grind[N4.add]):p:=h
theorem be{p:Prop}(h:p:=by simp[hx]):p:=h
theorem bf{p:Prop}(h:p:=by simpa[hg]using z):p:=h
theorem bh{p:Prop}(h:p:=by simp[go_sem];simpa[go_sem]using qb):p:=h
theorem bi{p:Prop}(h:p:=by simp[Ctx.addSl]):p:=h
theorem bj{p:Prop}(h:p:=by simp[wkS,go_sem]):p:=h
theorem bm{p:Prop}(h:p:=by simp[T.len]):p:=h
theorem bp{p:Prop}(h:p:=by rw[pT];exact hX.und _):p:=h
theorem br{p:Prop}(h:p:=by first|kernel_rfl|trivial):p:=h
theorem bs{p:Prop}(h:p:=by simp only[execOp,p8,iu,pj,je,iv]):p:=h
theorem bu{p:Prop}(h:p:=by simpa using k.len):p:=h
theorem bv{p:Prop}(h:p:=by rw[EN (by have:=(h.base y hy).1;omega)];exact(h.base y hy).2):p:=h
theorem bw{p:Prop}(h:p:=by simp[Op.operands,Call.operands]):p:=h
theorem bx{p:Prop}(h:p:=by simp[go_sem,pT];omega):p:=h
theorem bz{p:Prop}(h:p:=by simp[L]):p:=h
theorem ca{p:Prop}(h:p:=by simp[V.under,q9]):p:=h
theorem cf{p:Prop}(h:p:=by simp[N4.add,N4.one,N4.zero]):p:=h
theorem cg{p:Prop}(h:p:=by simp[go_sem,e2]):p:=h
theorem cj{p:Prop}(h:p:=by simp[Region.wanted,g1]):p:=h
theorem ck{p:Prop}(h:p:=by have:=k.len;simp;omega):p:=h
theorem cm{p:Prop}(h:p:=by simp[vo U,goInt]):p:=h
theorem cn{p:Prop}(h:p:=by simp[h]):p:=h
theorem co{p:Prop}(h:p:=by simp[go_sem];omega):p:=h
theorem cq{p:Prop}(h:p:=by grind[eU]):p:=h
theorem ct{p:Prop}(h:p:=by rw[jW];exact ng):p:=h
theorem cu{p:Prop}(h:p:=by simp[Q,z8 Q,go_sem]):p:=h
theorem cv{p:Prop}(h:p:=by simp only[Rows.uptoBulkAll]at hbk;omega):p:=h
theorem cw{p:Prop}(h:p:=by grind[jn]):p:=h
theorem cx{p:Prop}(h:p:=by grind[ou]):p:=h
theorem cy{p:Prop}(h:p:=by simp_all):p:=h
theorem cz{p:Prop}(h:p:=by grind[N4.add,N4.mx]):p:=h
theorem c0{p:Prop}(h:p:=by simp[hy]):p:=h
theorem c7{p:Prop}(h:p:=by simp[Ctx.trunc,ni,O]):p:=h
theorem c8{p:Prop}(h:p:=by have:=T.hc;simp[go_sem,T.len];omega):p:=h
theorem c9{p:Prop}(h:p:=by grind[pn,nj,HS]):p:=h
theorem da{p:Prop}(h:p:=by simpa using O):p:=h
theorem db{p:Prop}(h:p:=by simp[go_sem,h'.len]<;>omega):p:=h
theorem dh{p:Prop}(h:p:=by rw[p8];simp[Op.operands]):p:=h
theorem di{p:Prop}(h:p:=by cases h):p:=h
theorem qft{p:Prop}(h:p:=by simp[Instr.indexAt,asIntOf,Instr.sureAddr,vo U,pD,eO r5,cM]):p:=h
theorem dj{p:Prop}(h:p:=by simpa[hg,zk,hc,after]using z):p:=h
theorem dk{p:Prop}(h:p:=by simp[h'.und,h'.undA,h'.len,go_sem]):p:=h
theorem dm{p:Prop}(h:p:=by simp only[maxLen];omega):p:=h
theorem dn{p:Prop}(h:p:=by rw[h'.len];omega):p:=h
theorem dq{p:Prop}(h:p:=by simp[O]):p:=h
theorem dr{p:Prop}(h:p:=by simpa[zk,hc]using z):p:=h
theorem dt{p:Prop}(h:p:=by simp[Act.eval,Act.put]):p:=h
theorem qfu{p:Prop}(h:p:=by grind[qio,qi7]):p:=h
theorem qfv{p:Prop}(h:p:=by simp[zeroValue,run_typeInfo _ r5,gH]):p:=h
theorem qfw{p:Prop}(h:p:=by simp[execOp,resolve,invoke,builtin,G]):p:=h
theorem qfx{p:Prop}(h:p:=by simp only[execOp,hop1,qjj,jd,kf,hvx,iu,Du,iv,je]):p:=h
theorem du{p:Prop}(h:p:=by simp[ou,hv,Value.ownBlock]):p:=h
theorem qfy{p:Prop}(h:p:=by simp[zeroValue,run_typeInfo _ O,h3]):p:=h
theorem dv{p:Prop}(h:p:=by simp[go_sem,tq]):p:=h
theorem dw{p:Prop}(h:p:=by simp[Ctx.addBlk]):p:=h
theorem qfz{p:Prop}(h:p:=by rw[mr];exact wh Q rfl):p:=h
theorem dx{p:Prop}(h:p:=by have:=(h.base y hy).1;omega):p:=h
theorem dy{p:Prop}(h:p:=by simpa using hj):p:=h
theorem qf0{p:Prop}(h:p:=by have:=ae.lt;simp[go_sem,ae.len];omega):p:=h
theorem dz{p:Prop}(h:p:=by simp[execOp,G]):p:=h
theorem ec{p:Prop}(h:p:=by have:=ha.2;omega):p:=h
theorem qf1{p:Prop}(h:p:=by grind[qji,Nat.mul_add_mod,Nat.mod_eq_of_lt]):p:=h
theorem qf2{p:Prop}(h:p:=by have:=hZ.trans z;simpa using this):p:=h
theorem qf3{p:Prop}(h:p:=by simp only[iu,qvo Q qX,iv,binOp,Op.equal,Op.maxDepth,quu Q];simp):p:=h
theorem ed{p:Prop}(h:p:=by simp[vS]):p:=h
theorem ee{p:Prop}(h:p:=by simp[Q]):p:=h
theorem eg{p:Prop}(h:p:=by simp[qu,V.norm]):p:=h
theorem eh{p:Prop}(h:p:=by simpa[iN,hg]using z):p:=h
theorem ei{p:Prop}(h:p:=by simpa[go_sem]using G):p:=h
theorem qf4{p:Prop}(h:p:=by rw[hw g (by simp[ou,O,hv,Value.ownBlock]),hh]):p:=h
theorem qf5{p:Prop}(h:p:=by simp only[execOp,p8,Instr.alloc,newVar,newRow,iu,iH,Cv,je,iv]):p:=h
theorem qf6{p:Prop}(h:p:=by simp_all[jl]):p:=h
theorem qf7{p:Prop}(h:p:=by simp only[execOp,p8,Instr.box,newVar,newRow,iu,Cv,je,iv]):p:=h
theorem ej{p:Prop}(h:p:=by simpa using h):p:=h
theorem qf8{p:Prop}(h:p:=by simp only[Instr.loadAt,Instr.sureAddr,iu,je,iv];exact fB):p:=h
theorem ep{p:Prop}(h:p:=by simp[n0]):p:=h
theorem ew{p:Prop}(h:p:=by simp[go_sem,hv]):p:=h
theorem ez{p:Prop}(h:p:=by have:=hi.1;omega):p:=h
theorem qf9{p:Prop}(h:p:=by simp only[eqGuard,binOp,iu,Op.equal,Op.maxDepth,qu2 Q];simp[eqGuard]):p:=h
theorem qga{p:Prop}(h:p:=by rw[<-jf];exact hwk.app0 _):p:=h
theorem e6{p:Prop}(h:p:=by simp[ul]):p:=h
theorem e8{p:Prop}(h:p:=by simp[hHd]):p:=h
theorem e9{p:Prop}(h:p:=by simp[hh,h'.len]):p:=h
theorem fa{p:Prop}(h:p:=by simp[hh,T.len]):p:=h
theorem qgb{p:Prop}(h:p:=by simp[go_sem,h'.len,han,rM]):p:=h
theorem qgc{p:Prop}(h:p:=by rw[inv.size];rw[dU]at hdok;exact hdok):p:=h
theorem qgd{p:Prop}(h:p:=by rw[h4,show k+1+i=k+(i+1)from by omega]):p:=h
theorem fb{p:Prop}(h:p:=by simp[G]):p:=h
theorem fc{p:Prop}(h:p:=by rw[N.ls];exact ht):p:=h
theorem fe{p:Prop}(h:p:=by rw[N.le];exact ht):p:=h
theorem ff{p:Prop}(h:p:=by grind[wy]):p:=h
theorem fg{p:Prop}(h:p:=by grind[uv]):p:=h
theorem qge{p:Prop}(h:p:=by simp only[it,kc,qiw,hkl,jD];omega):p:=h
theorem qgf{p:Prop}(h:p:=by simp only[N4.add];omega):p:=h
theorem qgg{p:Prop}(h:p:=by rw[hcan];simpa using hg):p:=h
theorem qgh{p:Prop}(h:p:=by rw[h'.len];exact h'.und _):p:=h
theorem fh{p:Prop}(h:p:=by simp[AObj.under]):p:=h
theorem fi{p:Prop}(h:p:=by grind[ObjWk]):p:=h
theorem qgi{p:Prop}(h:p:=by cases o.dst<;>simp[Act.put,inv.size]):p:=h
theorem qgj{p:Prop}(h:p:=by simp only[execOp,p8,lE,iu,pj,je,iv]):p:=h
theorem qgk{p:Prop}(h:p:=by simp[ww,List.zipIdx]):p:=h
theorem fj{p:Prop}(h:p:=by simp[zk]):p:=h
theorem qgl{p:Prop}(h:p:=by simp[World.frozen?,hk]):p:=h
theorem qgm{p:Prop}(h:p:=by rw[hsize];exact k.size):p:=h
theorem qgn{p:Prop}(h:p:=by simp[ou,Ctx.addSl,Value.ownBlock]):p:=h
theorem qgo{p:Prop}(h:p:=by simp[AObj.under,q9,V.under,qj]):p:=h
theorem qgp{p:Prop}(h:p:=by rw[<-kz];congr 1;omega):p:=h
theorem qgq{p:Prop}(h:p:=by simpa[go_sem]using quk h nw (decide (tw=1)) b[k] [] (by omega)):p:=h
theorem qgr{p:Prop}(h:p:=by simpa[go_sem]using quk h nw (decide (tw=1)) a[i] [] (by omega)):p:=h
theorem fk{p:Prop}(h:p:=by simp[hq]):p:=h
theorem fl{p:Prop}(h:p:=by simp[hl]):p:=h
theorem qgs{p:Prop}(h:p:=by simp only[iu,g1,iv,binOp,g2,je]):p:=h
theorem qgt{p:Prop}(h:p:=by rw[hw b' (by simp[ou,O]),U]):p:=h
theorem fm{p:Prop}(h:p:=by rw[ht];rfl):p:=h
theorem fo{p:Prop}(h:p:=by grind[cR]):p:=h
theorem fp{p:Prop}(h:p:=by grind[bW]):p:=h
theorem qgu{p:Prop}(h:p:=by rw[tG.2 c1,c2];rfl):p:=h
theorem qgv{p:Prop}(h:p:=by simp[ou,O,hv,Value.ownBlock]):p:=h
theorem qgw{p:Prop}(h:p:=by simp[execOp,hb,que hf]):p:=h
theorem qgx{p:Prop}(h:p:=by unfold maxLen;omega):p:=h
theorem qgy{p:Prop}(h:p:=by simp[q9,V.under]):p:=h
theorem qgz{p:Prop}(h:p:=by simp[go_sem,T.len]):p:=h
theorem qg0{p:Prop}(h:p:=by grind[Az,yy]):p:=h
theorem qg1{p:Prop}(h:p:=by cases o.dst<;>exact inv.defers):p:=h
theorem qg2{p:Prop}(h:p:=by rw[<-hXs];exact hwk.refl _):p:=h
theorem qg3{p:Prop}(h:p:=by rw[G];simp[si]):p:=h
theorem qg4{p:Prop}(h:p:=by have:=hb64.2;omega):p:=h
theorem qg5{p:Prop}(h:p:=by obtain⟨_,_,_,_,_,_,h3,_⟩:=hs.obj i _ hi;simpa using h3):p:=h
theorem qg6{p:Prop}(h:p:=by simpa[go_sem]using XM h cJ nw b[k] [] (by omega)):p:=h
theorem qg7{p:Prop}(h:p:=by simp[xW,bR]):p:=h
theorem fq{p:Prop}(h:p:=by simp[hk]):p:=h
theorem fu{p:Prop}(h:p:=by simp[hi]):p:=h
theorem qg8{p:Prop}(h:p:=by simp[go_sem,pT,hwm];omega):p:=h
theorem qg9{p:Prop}(h:p:=by grind[Ctx.trunc]):p:=h
theorem qha{p:Prop}(h:p:=by have:=Sf hj;rw[<-hE.1]at this;simpa using this):p:=h
theorem qhb{p:Prop}(h:p:=by have:=h'.hm;simp[ww,List.zipIdx];exact .inl (by omega)):p:=h
theorem qhc{p:Prop}(h:p:=by rw[ae.len];omega):p:=h
theorem qhd{p:Prop}(h:p:=by rw[hN.len];omega):p:=h
theorem qhe{p:Prop}(h:p:=by simpa[go_sem]using qsr h nw a[i] [] (by omega)):p:=h
theorem qhf{p:Prop}(h:p:=by simp[Instr.indexAt,asIntOf,vo U,pD,eO r5,cM]):p:=h
theorem fv{p:Prop}(h:p:=by rw[hb];rfl):p:=h
theorem fw{p:Prop}(h:p:=by grind[sf]):p:=h
theorem qhg{p:Prop}(h:p:=by first|(simp[lX,g3];done)|(simp[lX,g3];omega)):p:=h
theorem qhh{p:Prop}(h:p:=by simp[iJ,B]):p:=h
theorem qhi{p:Prop}(h:p:=by grind[Gl]):p:=h
theorem qhj{p:Prop}(h:p:=by simpa[hg,qa]using z):p:=h
theorem qhk{p:Prop}(h:p:=by simp[Region.wanted,hg]):p:=h
theorem qhl{p:Prop}(h:p:=by simp[Region.wanted,g2]):p:=h
theorem qhm{p:Prop}(h:p:=by grind[cC,NU]):p:=h
theorem qhn{p:Prop}(h:p:=by simpa using hv):p:=h
theorem qho{p:Prop}(h:p:=by simpa using hi):p:=h
theorem qhp{p:Prop}(h:p:=by simpa using z):p:=h
theorem qhq{p:Prop}(h:p:=by simp only[qix,ud,hk];exact h3):p:=h
theorem qhr{p:Prop}(h:p:=by rw[<-hH];simp;omega):p:=h
theorem qhs{p:Prop}(h:p:=by rw[s.size];exact hlt1):p:=h
theorem qht{p:Prop}(h:p:=by rw[bS];exact k.size):p:=h
theorem qhu{p:Prop}(h:p:=by rw[hS.st];exact hS.ne):p:=h
theorem qhv{p:Prop}(h:p:=by have:=inv.ok.len;rwa [DH d.quiet]at this):p:=h
theorem qhw{p:Prop}(h:p:=by have:=h.len;simp;omega):p:=h
theorem qhx{p:Prop}(h:p:=by simp[ou,O]):p:=h
theorem fx{p:Prop}(h:p:=by simp[he]):p:=h
theorem fy{p:Prop}(h:p:=by simp[U]):p:=h
theorem qhy{p:Prop}(h:p:=by simp[eqGuard,binOp,Op.shift,Int.not_lt.2 hs]):p:=h
theorem qhz{p:Prop}(h:p:=by simp[Op.operands,hy]):p:=h
theorem qh0{p:Prop}(h:p:=by simp[N4.add,N4.zero]):p:=h
theorem qh1{p:Prop}(h:p:=by grind[slots]):p:=h
theorem qh2{p:Prop}(h:p:=by rintro _ _ ⟨rfl,rfl⟩;exact⟨rfl,rfl⟩):p:=h
theorem qh3{p:Prop}(h:p:=by simp[z8 Q,go_sem]):p:=h
theorem qh4{p:Prop}(h:p:=by simp[N4.add,N4.one]):p:=h
theorem qh5{p:Prop}(h:p:=by simp[qq]):p:=h
theorem qh6{p:Prop}(h:p:=by simp[ou,Ctx.addSl,kL,hn,Value.ownBlock]):p:=h
theorem qh7{p:Prop}(h:p:=by simp[ae.len]):p:=h
theorem qh8{p:Prop}(h:p:=by rw[kL];rfl):p:=h
theorem qh9{p:Prop}(h:p:=by rw[hT,jf];exact hwk.app0 _):p:=h
theorem qia{p:Prop}(h:p:=by grind[yU]):p:=h
theorem qib{p:Prop}(h:p:=by grind[eK]):p:=h
theorem qic{p:Prop}(h:p:=by simpa using dF _ _):p:=h
theorem qid{p:Prop}(h:p:=by rw[qvt];rfl):p:=h
theorem gd{p:Prop}(h:p:=by cases hm):p:=h
theorem qie{p:Prop}(h:p:=by rw[im,qjl];exact Q):p:=h
theorem qif{p:Prop}(h:p:=by rw[hl6];exact hu6):p:=h
theorem qig{p:Prop}(h:p:=by rw[hkl];exact ni):p:=h
theorem qih{p:Prop}(h:p:=by rw[hK];rfl):p:=h
theorem qii{p:Prop}(h:p:=by rw[hF];rfl):p:=h
theorem qij{p:Prop}(h:p:=by rintro _ ⟨e,rfl,_⟩;rw[Ex.c_eq];rfl):p:=h
theorem gg:type_of% @if_neg:=@if_neg
theorem gh:type_of% @if_pos:=@if_pos
theorem gj:type_of% @Nat.le_refl:=@Nat.le_refl
theorem gn:type_of% @List.getElem?_eq_some_iff:=@List.getElem?_eq_some_iff
theorem gq:type_of% @List.drop_eq_nil_of_le:=@List.drop_eq_nil_of_le
theorem gu:type_of% @List.getElem?_append_left:=@List.getElem?_append_left
theorem gv:type_of% @List.getElem?_set_ne:=@List.getElem?_set_ne
theorem gw:type_of% @List.mem_of_getElem?:=@List.mem_of_getElem?
theorem gy:type_of% @Bool.and_eq_true:=@Bool.and_eq_true
theorem gz:type_of% @List.getElem?_append_right:=@List.getElem?_append_right
theorem ig:type_of% @List.mem_map:=@List.mem_map
theorem ii:type_of% @List.getElem?_eq_getElem:=@List.getElem?_eq_getElem
theorem ij:type_of% @List.getElem_mem:=@List.getElem_mem
theorem il:type_of% @Nat.zero_le:=@Nat.zero_le
theorem im:type_of% @Nat.zero_add:=@Nat.zero_add
theorem iq:type_of% @List.mem_cons:=@List.mem_cons
theorem it:type_of% @List.length_append:=@List.length_append
theorem iu:type_of% @Sem.run_bind:=@Sem.run_bind
theorem iv:type_of% @Result.andThen_ok:=@Result.andThen_ok
theorem iw:type_of% @List.getElem?_of_mem:=@List.getElem?_of_mem
theorem iy:type_of% @Option.map_eq_some_iff:=@Option.map_eq_some_iff
theorem iz:type_of% @if_true:=@if_true
theorem ja:type_of% @List.getElem?_map:=@List.getElem?_map
theorem jb:type_of% @Bool.true_and:=@Bool.true_and
theorem jd:type_of% @List.map_cons:=@List.map_cons
theorem je:type_of% @Sem.run_pure:=@Sem.run_pure
theorem jf:type_of% @List.append_assoc:=@List.append_assoc
theorem jg:type_of% @if_false:=@if_false
theorem jh:type_of% @Nat.le_trans:=@Nat.le_trans
theorem ji:type_of% @List.getElem?_set_self:=@List.getElem?_set_self
theorem jj:type_of% @List.mem_append:=@List.mem_append
theorem jk:type_of% @List.all_eq_true:=@List.all_eq_true
theorem jl:type_of% @Nat.mul_le_mul_right:=@Nat.mul_le_mul_right
theorem jm:type_of% @decide_eq_true_eq:=@decide_eq_true_eq
theorem jn:type_of% @List.take_succ_eq_append_getElem:=@List.take_succ_eq_append_getElem
theorem jo:type_of% @List.getElem?_take:=@List.getElem?_take
theorem jp:type_of% @List.length_cons:=@List.length_cons
theorem jq:type_of% @Array.getD_eq_getD_getElem?:=@Array.getD_eq_getD_getElem?
theorem jr:type_of% @List.map_append:=@List.map_append
theorem js:type_of% @Option.some.injEq:=@Option.some.injEq
theorem jt:type_of% @Nat.add_zero:=@Nat.add_zero
theorem ju:type_of% @List.length_nil:=@List.length_nil
theorem jv:type_of% @List.append_nil:=@List.append_nil
theorem jw:type_of% @List.set_append_left:=@List.set_append_left
theorem jx:type_of% @List.mem_singleton:=@List.mem_singleton
theorem jy:type_of% @List.pairwise_cons:=@List.pairwise_cons
theorem jz:type_of% @Nat.lt_or_ge:=@Nat.lt_or_ge
theorem ka:type_of% @List.length_map:=@List.length_map
theorem kb:type_of% @Nat.le_of_lt:=@Nat.le_of_lt
theorem kc:type_of% @List.length_take:=@List.length_take
theorem ke:type_of% @List.nil_append:=@List.nil_append
theorem kf:type_of% @List.map_nil:=@List.map_nil
theorem kg:type_of% @Bool.and_true:=@Bool.and_true
theorem kh:type_of% @Nat.sub_self:=@Nat.sub_self
theorem ki:type_of% @decide_eq_true:=@decide_eq_true
theorem kj:type_of% @List.getElem?_drop:=@List.getElem?_drop
theorem kl:type_of% @List.mem_filter:=@List.mem_filter
theorem km:type_of% @List.sizeOf_lt_of_mem:=@List.sizeOf_lt_of_mem
theorem kn:type_of% @Option.map_some:=@Option.map_some
theorem ko:type_of% @List.eq_nil_of_length_eq_zero:=@List.eq_nil_of_length_eq_zero
theorem kp:type_of% @List.ext_getElem?:=@List.ext_getElem?
theorem kq:type_of% @Array.getElem?_toList:=@Array.getElem?_toList
theorem kr:type_of% @List.foldl_cons:=@List.foldl_cons
theorem ku:type_of% @List.set_append_right:=@List.set_append_right
theorem kx:type_of% @run_underlying:=@run_underlying
theorem ky:type_of% @Array.getElem?_eq_getElem:=@Array.getElem?_eq_getElem
theorem kz:type_of% @Nat.add_mul:=@Nat.add_mul
theorem lf:type_of% @List.getElem?_eq_none:=@List.getElem?_eq_none
theorem lh:type_of% @cond_false:=@cond_false
theorem li:type_of% @heap_alloc_new:=@heap_alloc_new
theorem lj:type_of% @List.length_singleton:=@List.length_singleton
theorem ll:type_of% @List.take_of_length_le:=@List.take_of_length_le
theorem ln:type_of% @List.map_take:=@List.map_take
theorem lu:type_of% @cond_true:=@cond_true
theorem lw:type_of% @Option.bind_some:=@Option.bind_some
theorem lx:type_of% @Nat.min_eq_left:=@Nat.min_eq_left
theorem ly:type_of% @Bool.false_and:=@Bool.false_and
theorem lz:type_of% @List.map_drop:=@List.map_drop
theorem l6:type_of% @Option.getD_some:=@Option.getD_some
theorem l7:type_of% @List.nodup_cons:=@List.nodup_cons
theorem l8:type_of% @Bool.eq_false_iff:=@Bool.eq_false_iff
theorem l9:type_of% @of_decide_eq_true:=@of_decide_eq_true
theorem ma:type_of% @Bool.and_assoc:=@Bool.and_assoc
theorem mb:type_of% @List.cons_append:=@List.cons_append
theorem mc:type_of% @Array.ext':=@Array.ext'
theorem me:type_of% @List.take_append_drop:=@List.take_append_drop
theorem mg:type_of% @Array.getElem?_map:=@Array.getElem?_map
theorem mh:type_of% @Bool.not_eq_true':=@Bool.not_eq_true'
theorem mj:type_of% @List.take_length:=@List.take_length
theorem mq:type_of% @List.set_set:=@List.set_set
theorem mr:type_of% @List.length_set:=@List.length_set
theorem qik:type_of% @Nat.mod_lt:=@Nat.mod_lt
theorem qil:type_of% @List.mem_range:=@List.mem_range
theorem qim:type_of% @Array.getElem?_setIfInBounds_ne:=@Array.getElem?_setIfInBounds_ne
theorem qin:type_of% @List.all_cons:=@List.all_cons
theorem qio:type_of% @List.map_map:=@List.map_map
theorem qip:type_of% @List.any_eq_true:=@List.any_eq_true
theorem qiq:type_of% @List.map_set:=@List.map_set
theorem qir:type_of% @Bool.false_or:=@Bool.false_or
theorem qis:type_of% @Bool.or_eq_true:=@Bool.or_eq_true
theorem qit:type_of% @List.any_cons:=@List.any_cons
theorem qiu:type_of% @Nat.lt_of_lt_of_le:=@Nat.lt_of_lt_of_le
theorem qiv:type_of% @List.drop_eq_getElem_cons:=@List.drop_eq_getElem_cons
theorem qiw:type_of% @List.length_drop:=@List.length_drop
theorem qix:type_of% @List.take_succ_cons:=@List.take_succ_cons
theorem qiy:type_of% @Option.some.inj:=@Option.some.inj
theorem qiz:type_of% @List.nodup_nil:=@List.nodup_nil
theorem qi0:type_of% @List.not_mem_nil:=@List.not_mem_nil
theorem qi1:type_of% @setRow_heap:=@setRow_heap
theorem qi2:type_of% @List.mem_of_mem_take:=@List.mem_of_mem_take
theorem qi3:type_of% @List.size_toArray:=@List.size_toArray
theorem qi4:type_of% @Nat.mul_le_mul:=@Nat.mul_le_mul
theorem qi5:type_of% @Nat.one_mul:=@Nat.one_mul
theorem qi6:type_of% @List.take_zero:=@List.take_zero
theorem qi7:type_of% @List.map_congr_left:=@List.map_congr_left
theorem qi8:type_of% @List.mem_map_of_mem:=@List.mem_map_of_mem
theorem qi9:type_of% @Option.bind_eq_some_iff:=@Option.bind_eq_some_iff
theorem qja:type_of% @List.getElem_of_mem:=@List.getElem_of_mem
theorem qjb:type_of% @List.nodup_append:=@List.nodup_append
theorem qjc:type_of% @List.all_nil:=@List.all_nil
theorem qjd:type_of% @beq_self_eq_true:=@beq_self_eq_true
theorem qje:type_of% @setRow_other:=@setRow_other
theorem qjf:type_of% @Bool.false_eq_true:=@Bool.false_eq_true
theorem qjg:type_of% @Array.getElem?_eq_some_iff:=@Array.getElem?_eq_some_iff
theorem qjh:type_of% @List.mem_of_mem_drop:=@List.mem_of_mem_drop
theorem qji:type_of% @Nat.mul_comm:=@Nat.mul_comm
theorem qjj:type_of% @List.map_toArray:=@List.map_toArray
theorem qjk:type_of% @List.getElem?_cons_succ:=@List.getElem?_cons_succ
theorem qjl:type_of% @Nat.add_assoc:=@Nat.add_assoc
theorem qjm:type_of% @List.mem_flatMap:=@List.mem_flatMap
theorem qjn:type_of% @List.any_nil:=@List.any_nil
theorem qjo:type_of% @getElem!_pos:=@getElem!_pos
theorem qjp:type_of% @run_storeCells_at:=@run_storeCells_at
theorem qjq:type_of% @Array.empty_append:=@Array.empty_append
theorem qjr:type_of% @Array.getElem?_append_left:=@Array.getElem?_append_left
theorem qjs:type_of% @Nat.lt_trichotomy:=@Nat.lt_trichotomy
theorem qjt:type_of% @Array.getElem?_replicate:=@Array.getElem?_replicate
theorem qju:type_of% @List.pairwise_iff_getElem:=@List.pairwise_iff_getElem
theorem qjv:type_of% @Bool.eq_false_or_eq_true:=@Bool.eq_false_or_eq_true
theorem qjw:type_of% @List.filter_congr:=@List.filter_congr
theorem qjx:type_of% @List.length_filter_le:=@List.length_filter_le
theorem qjy:type_of% @Bool.not_false:=@Bool.not_false
theorem qjz:type_of% @not_true_eq_false:=@not_true_eq_false
theorem qj0:type_of% @List.length_eq_zero_iff:=@List.length_eq_zero_iff
theorem qj1:type_of% @ByteArray.size_append:=@ByteArray.size_append
theorem qj2:type_of% @Array.all_eq_true':=@Array.all_eq_true'
theorem qj3:type_of% @List.drop_sublist:=@List.drop_sublist
theorem qj4:type_of% @Array.append_empty:=@Array.append_empty
theorem qj5:type_of% @Int.toNat_natCast:=@Int.toNat_natCast
theorem qj6:type_of% @List.getElem?_replicate:=@List.getElem?_replicate
theorem qj7:type_of% @List.getD_eq_getElem?_getD:=@List.getD_eq_getElem?_getD
theorem qj8:type_of% @List.length_range:=@List.length_range
theorem qj9:type_of% @List.foldl_append:=@List.foldl_append
theorem qka:type_of% @Bool.or_eq_false_iff:=@Bool.or_eq_false_iff
theorem qkb:type_of% @List.filter_filter:=@List.filter_filter
theorem qkc:type_of% @List.mem_or_eq_of_mem_set:=@List.mem_or_eq_of_mem_set
theorem qkd:type_of% @List.take_append_of_le_length:=@List.take_append_of_le_length
theorem M{a b:Prop}(h:b)(e:b->a:=by intro hI;simp-dsimp[go_sem,B];exact hI):a:=e h
theorem Qaa{a b:Prop}(h:b)(e:b->a:=by intro hI;simp-dsimp[go_sem,B,hw];exact hI):a:=e h
theorem Qab{a b:Prop}(h:b)(e:b->a:=by intro hI;simp-dsimp[go_sem,B,hc];exact hI):a:=e h
theorem Qac{a b:Prop}(h:b)(e:b->a:=by intro hI;simp-dsimp[go_sem,B,ux];exact hI):a:=e h
theorem Qad{a b:Prop}(h:b)(e:b->a:=by intro hI;simp-dsimp[go_sem,B,uy];exact hI):a:=e h
theorem Qae{a b:Prop}(h:b)(e:b->a:=by intro hI;simp-dsimp[go_sem,B,a6,a7,tg,yw];exact hI):a:=e h
theorem Qaf{a b:Prop}(h:b)(e:b->a:=by intro hI;simp-dsimp[go_sem,B,uv];exact hI):a:=e h
theorem Qag{a b:Prop}(h:b)(e:b->a:=by intro hI;simp-dsimp[go_sem,B,u5];exact hI):a:=e h
theorem Qah{a b:Prop}(h:b)(e:b->a:=by intro hI;simp-dsimp[go_sem,B,cE,vk];exact hI):a:=e h
theorem Qai{a b:Prop}(h:b)(e:b->a:=by intro hI;simp-dsimp[go_sem,B,hc,xn];exact hI):a:=e h
theorem Qaj{α:Sort _}(a:α):∃x,a=x:=⟨a,rfl⟩
theorem Qak{p:Prop}(h:p:=by intro x hx;obtain⟨j,hj⟩:=iw hx;have ni:j<vs.size:=W;exact ih j x vs[j] hj ba):p:=h
theorem Qal{p:Prop}(h:p:=by obtain⟨x,hx,hw⟩:=h.get j y hy;exact hw c v (G j x v hx hv)):p:=h
theorem Qam{p:Prop}(h:p:=by obtain⟨v,vs,O,_,_,U,_⟩:=k;simp only[ou,O,lw]at hb;exact(U.lt b hb).2):p:=h
theorem Qan{p:Prop}(h:p:=by exact .inr ⟨g,cap,nu,hv,hg,qf4,rest⟩):p:=h
theorem Qao{p:Prop}(h:p:=by obtain⟨u,Q,hd⟩:=h5 i' j r x G hx;exact⟨u,Q,hd.mono hc.D⟩):p:=h
theorem Qap{p:Prop}(h:p:=by subst e;exact s.sep i _ g j v hi y8 hD):p:=h
theorem Qaq{p:Prop}(h:p:=by rw[World.cell?_of_block (w:=w) (vh g hg)];exact s.data g j v hD):p:=h
theorem Qar{p:Prop}(h:p:=by refine(s.obj j o O).keep (.refl c) (λ_=>rfl) λb' nl=>vh b' λe=>nv ?_;subst e;exact s.apart j i o _ b' O hi nl y8):p:=h
theorem Qas{p:Prop}(h:p:=by obtain⟨o1,O,s7⟩:=vn j o b' hj qd;obtain⟨o2,U,cY⟩:=vn j' o' b' uq rh;exact s.apart j j' o1 o2 b' O U s7 cY):p:=h
theorem Qat{p:Prop}(h:p:=by rw[vh g nv];exact k.frame g hg qz):p:=h
theorem Qau{p:Prop}(h:p:=by obtain⟨o1,O,s7⟩:=vn j o b' hj qd;exact k.newobj j o1 b' O s7):p:=h
theorem Qav{p:Prop}(h:p:=by simp only[ja,iy]at hx;obtain⟨y,hy,rfl⟩:=hx;exact ih j y v hy hv):p:=h
theorem Qaw{p:Prop}(h:p:=by cases d<;>simp only[u9]at h<;>first|rfl|(split at h<;>cases h)|cases h):p:=h
theorem Qax{p:Prop}(h:p:=by refine⟨.pointer (some ⟨g,0+n.toNat * ie.size,none⟩),qhf,?_⟩;exact .optr o m ie.size n.toNat 0 g 0 m cap hv):p:=h
theorem Qay{p:Prop}(h:p:=by have:=pj 0 (gj _);simp only[ju]at this;simp[Instr.sliceAt,Instr.slice,vo U,this,eO r5]):p:=h
theorem Qaz{p:Prop}(h:p:=by have:=FD (P:=P) (w:=w) (isS:=true) (len:=0) (cap:=0) e1 e2 J J J (gj _);simp[Instr.sliceAt,Instr.slice,vo U,this,eO r5]):p:=h
theorem Qba{p:Prop}(h:p:=by cases d<;>first|(exact(hd _ rfl).elim)|simp[Instr.typeAssert,vo U,he]):p:=h
theorem Qbb{p:Prop}(h:p:=by exact⟨r,dz,pq⟩):p:=h
theorem Qbc{p:Prop}(h:p:=by rw[hl,Nat.sub_mul];have:S.length * sz<=i * sz:=jl _ J;omega):p:=h
theorem Qbd{p:Prop}(h:p:=by simp only[it,jp,ju]at hi;have:=s.dom i J;refine⟨this.1,λm=>?_⟩;simp only[Ctx.addSl];grind):p:=h
theorem Qbe{p:Prop}(h:p:=by exact(s.obj i o O).keep nh (tj i (ni O)) λ_ _=>rfl):p:=h
theorem Qbf{p:Prop}(h:p:=by simp only[Ctx.addSl];rw[gg J];exact(s.dom _ (gj _)).2 m):p:=h
theorem Qbg{p:Prop}(h:p:=by rw[(s.obj i o O).blk nh]at hb;rw[(s.obj j o' U).blk nh]at nl;exact s.apart i j o o' b O U hb nl):p:=h
theorem Qbh{p:Prop}(h:p:=by rw[(s.obj i o O).blk nh]at hb;exact s.sep i o b j v O hb hD):p:=h
theorem Qbi{p:Prop}(h:p:=by rw[(s.obj i o O).blk nh]at hb;exact k.newobj i o b O hb):p:=h
theorem Qbj{p:Prop}(h:p:=by refine hk b λe=>hj ?_;subst e;exact s.apart j i o _ b rz hi hb W):p:=h
theorem Qbk{p:Prop}(h:p:=by rw[pa]at fB;cases fB;exact hj (s.apart j i o _ _ rz hi hb W)):p:=h
theorem Qbl{p:Prop}(h:p:=by rw[pa]at fB;cases fB;have:=(s.obj j o rz).lt hb;omega):p:=h
theorem Qbm{p:Prop}(h:p:=by rw[pa]at hb;cases hb;exact .inr k.size):p:=h
theorem Qbn{p:Prop}(h:p:=by have hb:b<w.heap.size:=World.block_lt_of_cell? w ⟨b,j,none⟩ s6;rw[World.cell?_of_block (w:=w) (hk b hb)];exact s6):p:=h
theorem Qbo{p:Prop}(h:p:=by exact(s.obj j o rz).keep nh (tj j nv) λb hb=>vh j o b nv rz hb):p:=h
theorem Qbp{p:Prop}(h:p:=by rw[sA]at hb;rw[(s.obj j' o' hjo').blk nh]at nl;grind):p:=h
theorem Qbq{p:Prop}(h:p:=by rw[(s.obj j o rz).blk nh]at hb;rw[(s.obj j' o' hjo').blk nh]at nl;exact s.apart j j' o o' b rz hjo' hb nl):p:=h
theorem Qbr{p:Prop}(h:p:=by rw[hk b (nv g hg)];exact k.frame b hb qz):p:=h
theorem Qbs{p:Prop}(h:p:=by rw[hk b (qiu hb k.size)];exact k.frame b hb qz):p:=h
theorem Qbt{p:Prop}(h:p:=by rw[(s.obj j o rz).blk nh]at hb;exact k.newobj j o b rz hb):p:=h
theorem Qbu{p:Prop}(h:p:=by refine⟨.slice none 0 0,[],bi,rfl,λm hm=>?_,World.ownsRow_nil w 0 e sz,Z,Z,Z⟩;simp only[Ctx.addSl];rw[gg J];exact(s.dom _ (gj _)).2 m):p:=h
theorem Qbv{p:Prop}(h:p:=by rw[World.cell?_of_block (w:=w) (hk b (λe=>B0 b (by rw[pa,e]) j u v7))];exact s6):p:=h
theorem Qbw{p:Prop}(h:p:=by subst h6;subst h7;rw[sA]at nl;rw[(s.obj j o rz).blk nh]at hb;grind):p:=h
theorem Qbx{p:Prop}(h:p:=by rw[(s.obj j o rz).blk nh]at hb;exact s.sep j o b n u rz hb v7):p:=h
theorem Qby{p:Prop}(h:p:=by simp only[execOp,p8,Instr.storeAt,lE,im,Instr.sureAddr,storeVar,iu,je,iv,eO t1,hsize,ne_eq,qjz,jg,pj]):p:=h
theorem Qbz{p:Prop}(h:p:=by subst e2;exact hs.sep i _ g j v hi y8 hD):p:=h
theorem Qca{p:Prop}(h:p:=by rw[World.cell?_of_block (w:=w) (vh g pa)];exact hs.data g j v hD):p:=h
theorem Qcb{p:Prop}(h:p:=by refine(hs.obj j ob h6).keep (.refl c) (λ_=>rfl) λb' nl=>vh b' λe2=>nv ?_;subst e2;exact hs.apart j i ob _ b' h6 hi nl y8):p:=h
theorem Qcc{p:Prop}(h:p:=by obtain⟨o3,g1,cZ⟩:=vn j ob b' hj qd;obtain⟨o4,g2,g2'⟩:=vn j' o2 b' uq rh;exact hs.apart j j' o3 o4 b' g1 g2 cZ g2'):p:=h
theorem Qcd{p:Prop}(h:p:=by have hb1':ou c j (.uarr e sz qq)=some b':=qd;rw[Bu]at hb1';have h9:(AObj.uarr e sz S).shares m:=hs.sep j (.uarr e sz S) b' m v hi W hD;exact h9):p:=h
theorem Qce{p:Prop}(h:p:=by exact hs.sep j ob b' m v h6 qd hD):p:=h
theorem Qcf{p:Prop}(h:p:=by obtain⟨o3,g1,cZ⟩:=vn j ob b' hj qd;exact k.newobj j o3 b' g1 cZ):p:=h
theorem Qcg{p:Prop}(h:p:=by simp only[execOp,p8,Instr.storeAt,lE,Instr.sureAddr,storeVar,iu,je,iv,eO t1,hsize,ne_eq,qjz,jg,pj]):p:=h
theorem Qch{p:Prop}(h:p:=by exact D8 r7 (fQ _ _ _ _ _ hK (.refl c) s' k' (.top _))):p:=h
theorem Qci{p:Prop}(h:p:=by rw[hk]at h;obtain⟨i,r,xs,O,U,h3,h4⟩:=xE R (k+1) j o h;exact⟨i+1,r,xs,da,U,qhq,qgd⟩):p:=h
theorem Qcj{p:Prop}(h:p:=by grind[Nat.min_eq_right,Nat.max_eq_left,kW]):p:=h
theorem Qck{p:Prop}(h:p:=by rw[gg W];have:=(inv.tmps t).mono nh;simpa[Act.put,jq,qim hdt]using this):p:=h
theorem Qcl{p:Prop}(h:p:=by obtain⟨i,O,U,_⟩:=Aw nz;grind[E5]):p:=h
theorem Qcm{p:Prop}(h:p:=by have:=En t.after hL (i:=i0) J g2 g3;grind):p:=h
theorem Qcn{p:Prop}(h:p:=by have:=kW qn i i0 o O h3 (t.ord i i0 h4 J J);grind):p:=h
theorem Qco{p:Prop}(h:p:=by have hjm:j<m:=W;rw[jo,gh hjm]at qi;exact qn j o' hj qi e he hb):p:=h
theorem Qcp{p:Prop}(h:p:=by have hf:=congrFun (uQ ni) j;rw[<-hf,gg J];grind):p:=h
theorem Qcq{p:Prop}(h:p:=by funext j;simp[jq,qjt];split<;>rfl):p:=h
theorem Qcr{p:Prop}(h:p:=by intro j o hj;rw[<-cK]at hj;cases hj):p:=h
theorem Qcs{p:Prop}(h:p:=by rw[<-cK];exact Fz ⟨s.defers,s.size,s.tmps,o9⟩ qh):p:=h
theorem Qct{p:Prop}(h:p:=by rw[hj]at hx;cases hx;have:=BQ G;subst this;exact .own _ _ _ bi rfl):p:=h
theorem Qcu{p:Prop}(h:p:=by exact⟨_,⟨s.defers,s.size,λi=>(s.tmps i).mono nh,s2⟩,k2⟩):p:=h
theorem Qcv{p:Prop}(h:p:=by refine⟨h5,?_⟩;rw[A5];intro r G;rw[AP];intro x hx;obtain⟨i',qj⟩:=iw G;obtain⟨j,hj⟩:=iw hx;obtain⟨u,_,hd⟩:=h7 i' j r x qj hj;exact hd.bd):p:=h
theorem Qcw{p:Prop}(h:p:=by subst hj;simp only[qjd,lu];have:=s.tmps i;rw[hi]at this;rw[BQ this];exact .own _ _ _ bi rfl):p:=h
theorem Qcx{p:Prop}(h:p:=by have:(i == j)=false:=dy;simp only[this,lh];exact(s.tmps j).mono nh):p:=h
theorem Qcy{p:Prop}(h:p:=by rw[Bz k O]at G;have hlt':k<(l.take m).length:=J;obtain⟨_,r'',k1,k2,_⟩:=AU (aA k _ O (ii hlt'));grind):p:=h
theorem Qcz{p:Prop}(h:p:=by have:=(hp U g1).2 k o O (by rwa [im]) ho;rw[zL k J,Bz k O,(yE (R:=R1.take k) (λr' G=>hq1 r' W) e U).1];exact this):p:=h
theorem Qda{p:Prop}(h:p:=by rw[BC]at qE;refine aY c2 _ w' ?_ k3;have:=s2.put (x:=.own i (n+1)) (d:=o2.dst) nH s3 (Cx pG) qE;rw[hd1]at this|-;exact this):p:=h
theorem Qdb{p:Prop}(h:p:=by have s6:=s.data b j v hD;have hb:b<w.heap.size:=World.block_lt_of_cell? w ⟨b,j,none⟩ s6;rw[World.cell?_of_block (w:=w) (cG b hb)];exact s6):p:=h
theorem Qdc{p:Prop}(h:p:=by exact(s.obj i o O).keep nh (tj i (ni O)) λb hb=>cG b ((s.obj i o O).lt hb)):p:=h
theorem Qdd{p:Prop}(h:p:=by rw[bF]at nl;rw[(s.obj i o O).blk nh]at hb;cases nl;have:=(s.obj i o O).lt hb;omega):p:=h
theorem Qde{p:Prop}(h:p:=by rw[bF]at hb;rw[(s.obj j o' U).blk nh]at nl;cases hb;have:=(s.obj j o' U).lt nl;omega):p:=h
theorem Qdf{p:Prop}(h:p:=by rw[(s.obj i o O).blk nh]at hb;exact s.sep i o b j v O hb v7):p:=h
theorem Qdg{p:Prop}(h:p:=by refine aY _ _ _ ?_ k1;exact s.put nh s1 (λj hj=>by rw[hd1]at hj;cases hj;exact hlt1) (.own _ _ _ bi rfl)):p:=h
theorem Qdh{p:Prop}(h:p:=by intro e h;show(oj (r.next e) R).h=e.h;rw[ih _ λr G=>h r fb,Jg (h r Z)];cases r.dst<;>rfl):p:=h
theorem Qdi{p:Prop}(h:p:=by exact(y6 i o b O hb).imp id λ⟨k2,o2,m2,O,U⟩=>⟨k2,o2,m2,J,U⟩):p:=h
theorem Qdj{p:Prop}(h:p:=by intro k y hy hk;subst hk;rw[qi9]at hy;obtain⟨cs,su,_⟩:=hy;obtain⟨c1,c2⟩:=GR su;have ni:0<cs.length:=J;have:=RL (c2 0 cs[0] Z);simpa[Addr.add]using this):p:=h
theorem Qdk{p:Prop}(h:p:=by have Y:p<s.data.size:=h;simp[ByteArray.get!,w9,bl,qj7,Array.getElem!_eq_getD,Array.getD];rw[dif_pos h,ky Y,l6]):p:=h
theorem Qdl{p:Prop}(h:p:=by have:=km x.2;simp only[St.mk.sizeOf_spec];omega):p:=h
theorem Qdm{p:Prop}(h:p:=by simp only[IntKind.wrap,IntKind.bits,IntKind.signed];simp;omega):p:=h
theorem Qdn{p:Prop}(h:p:=by rw[hx]at h hE;rw[hE h]):p:=h
theorem Qdo{p:Prop}(h:p:=by rename_i hc;have L:=mw.mono (mw.K.refl _) h;rw[hE (mw.mono hK L)];simp only;rw[tu L];grind):p:=h
theorem Qdp{p:Prop}(h:p:=by cases h;exact .inl ⟨_,rfl⟩):p:=h
theorem Qdq{p:Prop}(h:p:=by split at h<;>cases h;exact .inl ⟨_,rfl⟩):p:=h
theorem Qdr{p:Prop}(h:p:=by exact Dl.refl _ _):p:=h
theorem Qds{p:Prop}(h:p:=by rename_i hm;rw[hm]at hE;exact hE.mono Z bc Z Z):p:=h
theorem Qdt{p:Prop}(h:p:=by exact(hE.trans tu).mono az bc az az):p:=h
theorem Qdu{p:Prop}(h:p:=by rw[hg];intro e;have:=(((zz _).1 ha).1 q hq).2;rw[e]at this;exact this rfl):p:=h
theorem Qdv{p:Prop}(h:p:=by simp only[we,ii hi];rfl):p:=h
theorem Qdw{p:Prop}(h:p:=by obtain⟨x0,vl,e1,e2,_,_⟩:=sC x hx;exact(h'.mi x0 vl m W).mono yX):p:=h
theorem Qdx{p:Prop}(h:p:=by unfold bP;refine Fy ht qgu λu=>?_;show(wn (sh p (pc A u)) σ.nds[i].node&&!(σ.nds[i].sent.set t true).getD u false)=_;rw[HK fc,ma]):p:=h
theorem Qdy{p:Prop}(h:p:=by unfold fJ;refine Fy ht qgu λu=>?_;show(wn (sj p (pc A u)) σ.nds[i].node&&!(σ.nds[i].exd.set t true).getD u false)=_;rw[HK fe,ma]):p:=h
theorem Qdz{p:Prop}(h:p:=by simp only[jj,not_or]at hk;exact(s2.lp k hk.2).trans (s1.lp k hk.1)):p:=h
theorem Qea{p:Prop}(h:p:=by unfold p9;simp only[IntKind.wrap,IntKind.bits,IntKind.signed];simp;omega):p:=h
theorem Qeb{p:Prop}(h:p:=by grind[RM.ab]):p:=h
theorem Qec{p:Prop}(h:p:=by refine Qaa ?_;exact⟨hc,eh,ng⟩):p:=h
theorem Qed{p:Prop}(h:p:=by rw[vA J,ue]at z;simp-dsimp[go_sem,B,tv,<-z]):p:=h
theorem Qee{p:Prop}(h:p:=by refine M ?_;grind):p:=h
theorem Qef{p:Prop}(h:p:=by refine Qaa ?_;exact⟨hc,bf,ng⟩):p:=h
theorem Qeg{p:Prop}(h:p:=by refine Qaa ?_;exact⟨hc,dj,ng⟩):p:=h
theorem Qeh{p:Prop}(h:p:=by refine M ?_;grind[zk,after]):p:=h
theorem Qei{p:Prop}(h:p:=by refine Qaa ?_;simp[hg,zk,hm,after]at z;exact⟨hc,dr,ng⟩):p:=h
theorem Qej{p:Prop}(h:p:=by rw[gq J,cX]at z;simp-dsimp[go_sem,B,<-z]):p:=h
theorem Qek{p:Prop}(h:p:=by simp-dsimp[go_sem,B]):p:=h
theorem Qel{p:Prop}(h:p:=by rw[gq J,vy]at z;simp-dsimp[go_sem,B,<-z]):p:=h
theorem Qem{p:Prop}(h:p:=by simp-dsimp[go_sem,B,<-z]):p:=h
theorem Qen{p:Prop}(h:p:=by refine Qaa ?_;have:yU (w9 s n)=true:=qia;rw[this,jb]at z;exact⟨hc,z,ng⟩):p:=h
theorem Qeo{p:Prop}(h:p:=by simp-dsimp[go_sem,B,a1,Q];exact⟨_,.refl _,h,af,af,Z,ak,rfl,rfl⟩):p:=h
theorem Qep{p:Prop}(h:p:=by refine M ?_;rw[gh hg]at z;rw[z];exact⟨_,.refl _,Y,af,af,Z,ak,rfl,rfl⟩):p:=h
theorem Qeq{p:Prop}(h:p:=by refine Qaa ?_;exact⟨hc,bf,Wk.mk bb Z ee bh⟩):p:=h
theorem Qer{p:Prop}(h:p:=by rw[gq J,vy]at z;simp-dsimp[go_sem,B,<-z];exact⟨_,.refl _,h,af,af,Z,ak,rfl,rfl⟩):p:=h
theorem Qes{p:Prop}(h:p:=by subst z;simp-dsimp[go_sem,B]):p:=h
theorem Qet{p:Prop}(h:p:=by simp-dsimp[go_sem,B,a1,Q,LReq.c];exact⟨_,.refl _,h,af,af,Z,ak,rfl,rfl⟩):p:=h
theorem Qeu{p:Prop}(h:p:=by subst hR;simp-dsimp[go_sem,B]):p:=h
theorem Qev{p:Prop}(h:p:=by have hg3:t.glob[j].w=true:=wu.elim (λh9=>by omega) id;rw[U,hg3]at hJ;refine M ?_;grind):p:=h
theorem Qew{p:Prop}(h:p:=by rw[hY];exact⟨_,.refl _,h',rfl,hwk.refl _,J,f1,rfl,⟨ks,f2⟩,J,f3⟩):p:=h
theorem Qex{p:Prop}(h:p:=by simp[AObj.under,q9,V.under];omega):p:=h
theorem Qey{p:Prop}(h:p:=by simp-dsimp[go_sem,B,kJ];refine Be .top Z Z (M ?_);refine Be .top Z Z (M ?_);refine Be .top Z Z ?_;simp-dsimp[go_sem,B,kJ]):p:=h
theorem Qez{p:Prop}(h:p:=by simp-dsimp[go_sem,B,vz]):p:=h
theorem Qfa{p:Prop}(h:p:=by refine nf (λh6=>?_) (λh6=>?_)<;>simp-dsimp[go_sem,B]<;>refine tail W W _ J):p:=h
theorem Qfb{p:Prop}(h:p:=by refine M ?_;omega):p:=h
theorem Qfc{p:Prop}(h:p:=by refine M ?_;exact⟨_,.refl _,h,af,af,Z,ak,rfl,rfl⟩):p:=h
theorem Qfd{p:Prop}(h:p:=by simp[go_sem,B,yu,hi1,hp,hi,hA,hB,hC,fT,eX,aA,zy,nE,rP,hs5];refine AM [7] Z ah ?_;intro i' qj;simp only[jx]at qj;subst qj;simp[go_sem,B,yu,hi1,hp,hi,hA,hB,hC,fT,eX,aA,zy,nE,rP,hs5];refine⟨ah,rY _ ?_⟩;simp):p:=h
theorem Qfe{p:Prop}(h:p:=by simp-dsimp[go_sem,B,ux]):p:=h
theorem Qff{p:Prop}(h:p:=by refine ox (λh3=>?_) (λh3=>?_)<;>simp-dsimp[go_sem,B]<;>grind[mY]):p:=h
theorem Qfg{p:Prop}(h:p:=by refine ox (λh3=>?_) (λh3=>?_)<;>simp-dsimp[go_sem,B]<;>grind[kU]):p:=h
theorem Qfh{p:Prop}(h:p:=by refine ox (λO=>?_) (λO=>?_)<;>simp-dsimp[go_sem,B]<;>grind[wQ]):p:=h
theorem Qfi{p:Prop}(h:p:=by exact⟨_,.refl _,h,af,af,Z,ak,rfl,rfl⟩):p:=h
theorem Qfj{p:Prop}(h:p:=by refine M ?_;rw[hoe,gh W];exact⟨_,.refl _,h,af,af,Z,ak,rfl,rfl⟩):p:=h
theorem Qfk{p:Prop}(h:p:=by refine M ?_;rw[hoe,gg W];exact⟨_,.refl _,h,af,af,Z,ak,rfl,rfl⟩):p:=h
theorem Qfl{p:Prop}(h:p:=by refine M ?_;exact⟨_,.refl _,h,af,hwk.refl _,gj _,Q,rfl,rfl⟩):p:=h
theorem Qfm{p:Prop}(h:p:=by refine M ?_;exact⟨rfl,rfl,rfl⟩):p:=h
theorem Qfn{p:Prop}(h:p:=by refine M ?_;refine o7 (C9 op a.n b.n _) ?_;rw[zu,gh J,gh W];cases fF op a.n b.n<;>simp-dsimp[go_sem,B,u5]<;>exact⟨_,.refl _,h,af,af,Z,ak,rfl,rfl⟩):p:=h
theorem Qfo{p:Prop}(h:p:=by refine M ?_;rw[zu,gh J,gg W];exact⟨_,.refl _,h,af,af,Z,ak,rfl,rfl⟩):p:=h
theorem Qfp{p:Prop}(h:p:=by refine Qaa ?_;rw[gh hg]at z;exact⟨hc,J,ng⟩):p:=h
theorem Qfq{p:Prop}(h:p:=by rw[gq J,gq J,ta]at z;simp-dsimp[go_sem,B,<-z]):p:=h
theorem Qfr{p:Prop}(h:p:=by exact Wk.slots bj):p:=h
theorem Qfs{p:Prop}(h:p:=by rw[gh W]at hs;refine Qaa ?_;refine⟨J,hc,?_⟩;rw[hs];exact ng):p:=h
theorem Qft{p:Prop}(h:p:=by rw[gg W,jv]at hs;refine Qaa ?_;refine⟨hc,?_⟩;rw[hs];exact ng):p:=h
theorem Qfu{p:Prop}(h:p:=by have dF:∀(r:List (List V)) (n:Nat),hUnder h.length ((h.set i (.arr 59 4 r)).set o (.cells [.own i n]))=true:=λr n=>wh (wh Q fh) qgo;simp-dsimp[go_sem,B,a1,a2,a3,a4,a5,a6,hp,hi];refine⟨J,?_⟩;exact⟨_,.refl _,_,rfl,hwk.app0 _,Z,qic,rfl,Z⟩):p:=h
theorem Qfv{p:Prop}(h:p:=by rw[gh L]at hR;subst hR;simp-dsimp[go_sem,B]):p:=h
theorem Qfw{p:Prop}(h:p:=by subst bL;simp-dsimp[go_sem,B]):p:=h
theorem Qfx{p:Prop}(h:p:=by refine Qaa ?_;exact⟨hc,z,ng⟩):p:=h
theorem Qfy{p:Prop}(h:p:=by rw[gh O]at hR;subst hR;refine M ?_;refine nc (Dp p) ?_;simp-dsimp[go_sem,B]):p:=h
theorem Qfz{p:Prop}(h:p:=by simp only[jf,mb,ke,it,jp,ju,im,Nat.reduceAdd]at hd;refine o7 hd ?_;simp-dsimp[go_sem,B]):p:=h
theorem Qga{p:Prop}(h:p:=by exact Wk.mk bb (hwk.app0 _) qfz (by simp[go_sem,LReq.c,tq,qn])):p:=h
theorem Qgb{p:Prop}(h:p:=by refine M ?_;refine pf 12 ?_;simp-dsimp[go_sem,B,ho,hk,ht];refine nc hi (M ?_);exact⟨_,.refl _,H,af,af,Z,ak,rfl,rfl⟩):p:=h
theorem Qgc{p:Prop}(h:p:=by refine M ?_;refine pf 12 ?_;simp-dsimp[go_sem,B,ho,hk,ht,hj];refine nc hi (M ?_);exact⟨_,.refl _,H,af,af,Z,ak,rfl,rfl⟩):p:=h
theorem Qgd{p:Prop}(h:p:=by rw[e,my.ho]at h;cases h):p:=h
theorem Qge{p:Prop}(h:p:=by rw[e,my.hq]at h;cases h):p:=h
theorem Qgf{p:Prop}(h:p:=by unfold v5;rcases j with _|_|_|_|_|_|_|_|_|_|_|_|_|_|_|_|_|_|_|_|_|j<;>first|rfl|exact absurd rfl O|exact absurd rfl U):p:=h
theorem Qgg{p:Prop}(h:p:=by exact⟨_,.refl _,K s.q,af,ag,aq,h'.und' _,am,ai⟩):p:=h
theorem Qgh{p:Prop}(h:p:=by refine M ?_;refine o7 (Ql key _) (M ?_);simp only[O.1,O.2,and_self,iz];exact⟨_,.refl _,K s.q,af,ag,aq,h'.und' _,am,ai⟩):p:=h
theorem Qgi{p:Prop}(h:p:=by refine M ?_;rw[gg hm];exact⟨_,.refl _,K s.q,af,ag,aq,h'.und' _,am,ai⟩):p:=h
theorem Qgj{p:Prop}(h:p:=by simp-dsimp[go_sem,B,h'.loc1,h'.sloc1,h'.len];rw[gh hm];exact⟨_,.refl _,K s.q,af,ag,aq,h'.und' _,am,ai⟩):p:=h
theorem Qgk{p:Prop}(h:p:=by exact⟨_,.refl _,K s'.q,af,ag,aq,h'.und' _,am,ai⟩):p:=h
theorem Qgl{p:Prop}(h:p:=by exact⟨_,.refl _,K s2.q,af,ag,aq,h'.und' _,am,ai⟩):p:=h
theorem Qgm{p:Prop}(h:p:=by simp-dsimp[go_sem,B,u5,uy];exact⟨_,.refl _,K s1.q,af,ag,aq,h'.und' _,am,ai⟩):p:=h
theorem Qgn{p:Prop}(h:p:=by simp-dsimp[go_sem,B,u5,uy];exact⟨_,.refl _,K s2.q,af,ag,aq,h'.und' _,am,ai⟩):p:=h
theorem Qgo{p:Prop}(h:p:=by rw[hL];refine Qad ?_;exact⟨_,.refl _,K s3.q,af,ag,aq,h'.und' _,am,ai⟩):p:=h
theorem Qgp{p:Prop}(h:p:=by simp-dsimp[go_sem,B,uy,hm];exact⟨_,.refl _,K s1.q,af,ag,aq,h'.und' _,am,ai⟩):p:=h
theorem Qgq{p:Prop}(h:p:=by exact⟨_,.refl _,H s,rfl,Z,Z,Q,rfl,rfl⟩):p:=h
theorem Qgr{p:Prop}(h:p:=by refine M ?_;exact⟨_,.refl _,H s,rfl,Z,bm,T.und' _,an,an⟩):p:=h
theorem Qgs{p:Prop}(h:p:=by refine M ?_;refine pf 9 ?_;simp-dsimp[go_sem,B,oG,rI,sH];exact ng):p:=h
theorem Qgt{p:Prop}(h:p:=by refine M ?_;refine pf 8 ?_;simp-dsimp[go_sem,B,Fm,rI,sH];exact ng):p:=h
theorem Qgu{p:Prop}(h:p:=by simp-dsimp[go_sem,B,oG,rI,sH];exact ng):p:=h
theorem Qgv{p:Prop}(h:p:=by rw[ov hc,dS]at z;have ni:SizeOf.sizeOf e.args[n]<SizeOf.sizeOf e:=Ex.arg_lt (ij hc);refine Qab ?_;refine nc (AK e.args[n]) (Qaa ?_);exact⟨hc,_,z,ng⟩):p:=h
theorem Qgw{p:Prop}(h:p:=by rw[gq J,dS]at z;simp-dsimp[go_sem,B,oG];rw[z]):p:=h
theorem Qgx{p:Prop}(h:p:=by rw[hf];simp-dsimp[go_sem,B,g1,g2,g3];exact⟨_,.refl _,h,rfl,qh9,Z,Q,rfl,rfl⟩):p:=h
theorem Qgy{p:Prop}(h:p:=by refine M ?_;refine og (λ_=>?_) (λk=>by simp at k;omega);refine M ?_;exact λ_=>J):p:=h
theorem Qgz{p:Prop}(h:p:=by exact⟨_,.refl _,h,af,hwk.app0 _,gj _,Q,rfl,rfl⟩):p:=h
theorem Qha{p:Prop}(h:p:=by simp-dsimp[go_sem,B,hXr];exact⟨J,hd,Wk.mk W qg2 bp qg8⟩):p:=h
theorem Qhb{p:Prop}(h:p:=by rw[pa,gg Z,jv]at oZ;rw[oZ];simp-dsimp[go_sem,B,hwm];exact⟨J,Wk.mk W (hwk.refl _) bp bx⟩):p:=h
theorem Qhc{p:Prop}(h:p:=by rw[hH6];exact⟨_,.refl _,_,ca,hwk.refl _,J,qif,rfl,S6,hf6⟩):p:=h
theorem Qhd{p:Prop}(h:p:=by rw[gq J,gq J]at z;simp at z;subst z;simp-dsimp[go_sem,B]):p:=h
theorem Qhe{p:Prop}(h:p:=by rw[gq J,qjn]at hJ;subst hJ;rw[qjy,jb]at z;simp-dsimp[go_sem,B,qP];exact⟨hc,qf2,ng⟩):p:=h
theorem Qhf{p:Prop}(h:p:=by rw[decide_eq_false he,qir]at hJ;simp-dsimp[go_sem,B,hwk];exact⟨J,hJ,ng⟩):p:=h
theorem Qhg{p:Prop}(h:p:=by rw[gq J,qjn]at hJ;subst hJ;rw[qjy,jb]at z;simp-dsimp[go_sem,B,hw3];exact⟨hc,qf2,ng⟩):p:=h
theorem Qhh{p:Prop}(h:p:=by simp-dsimp[go_sem,B,uv]):p:=h
theorem Qhi{p:Prop}(h:p:=by refine M ?_;grind[dA]):p:=h
theorem Qhj{p:Prop}(h:p:=by simp-dsimp[go_sem,B,fA]):p:=h
theorem Qhk{p:Prop}(h:p:=by simp-dsimp[go_sem,B,e]):p:=h
theorem Qhl{p:Prop}(h:p:=by have e:=s1 hi;have aN:IntKind.i64.wrap (a * b)=a * b:=eU hi.1 (by have:=hi.2;omega);simp-dsimp[go_sem,B,e,aN]):p:=h
theorem Qhm{p:Prop}(h:p:=by rw[e];refine M ?_;refine nc (sS C m 1004) ?_;simp-dsimp[go_sem,B]):p:=h
theorem Qhn{p:Prop}(h:p:=by rw[e];refine M ?_;refine nc (Re C m k) ?_;simp-dsimp[go_sem,B]):p:=h
theorem Qho{p:Prop}(h:p:=by simp-dsimp[go_sem,B,gI]):p:=h
theorem Qhp{p:Prop}(h:p:=by rw[gg W];refine M ?_;refine nc (qK C m) ?_;simp-dsimp[go_sem,B]):p:=h
theorem Qhq{p:Prop}(h:p:=by rw[gh W];refine M ?_;refine nc (qK C m) ?_;simp-dsimp[go_sem,B]):p:=h
theorem Qhr{p:Prop}(h:p:=by rw[gh J];refine M ?_;refine nc (sS C t 1003) ?_;simp-dsimp[go_sem,B,AV.nil]):p:=h
theorem Qhs{p:Prop}(h:p:=by refine M ?_;refine nc (qK C m) ?_;simp-dsimp[go_sem,B]):p:=h
theorem Qht{p:Prop}(h:p:=by rw[gg (λg=>g.2 h6)]at hE;refine nf (λh7=>?_) (λh7=>?_)<;>simp-dsimp[go_sem,B]<;>first|rw[hE,gh h7]|rw[hE,gg J]):p:=h
theorem Qhu{p:Prop}(h:p:=by rw[gg (by simp[h5])]at hE;refine nf (λh7=>?_) (λh7=>?_)<;>simp-dsimp[go_sem,B]<;>first|rw[hE,gh h7]|rw[hE,gg J]):p:=h
theorem Qhv{p:Prop}(h:p:=by rw[h4]at k4 m4 z|-;refine o7 (yQ l[n].els (d+1) o4 _ i (a6 _) J J) ?_;simp-dsimp[go_sem,B,a6,a7,tg,yw,hw];have k5:=Aa l[n].els (d+1) o4 J;have m5:=tN l[n].els (d+1) o4;exact⟨xm l[n].els (d+1) o4,⟨z,k5,J⟩,Wk.mk bb Z W dv⟩):p:=h
theorem Qhw{p:Prop}(h:p:=by simp-dsimp[go_sem,B,xB]):p:=h
theorem Qhx{p:Prop}(h:p:=by refine M ?_;grind[zH]):p:=h
theorem Qhy{p:Prop}(h:p:=by simp-dsimp[go_sem,B,yy]):p:=h
theorem Qhz{p:Prop}(h:p:=by rw[fW]at z;rw[gg Z,gg ax]at z;refine Qaa ?_;exact⟨hc,vs,⟨z,J,hL⟩,ng⟩):p:=h
theorem Qia{p:Prop}(h:p:=by rw[fW]at z;rw[gh Z]at z;refine M ?_;grind):p:=h
theorem Qib{p:Prop}(h:p:=by rw[gg Z,gg ax]at z;refine Qaa ?_;exact⟨hc,vs,⟨z,J,hL⟩,ng⟩):p:=h
theorem Qic{p:Prop}(h:p:=by rw[ov hc,oC]at z;have ni:SizeOf.sizeOf e.args[n]<SizeOf.sizeOf e:=Ex.arg_lt (ij hc);refine Qab ?_;refine nc (B2 e.args[n]) (M ?_);refine nc (fN _) (Qaa ?_);exact⟨hc,_,z,ng⟩):p:=h
theorem Qid{p:Prop}(h:p:=by rw[e];refine og (λh=>by simp at h;omega) (λh=>?_);simp-dsimp[go_sem,B,h7]):p:=h
theorem Qie{p:Prop}(h:p:=by refine nc (xN _ _) (Qaa ?_);exact⟨hc,_,z,ng⟩):p:=h
end Go
namespace Go.Abs
section
section
variable{D:Nat->Nat->Option Value}{v:Value}
inductive V where
 |top
 |val (v:Value)
 |nils
 |slice (S:List (List V))
 |agg (cells:List V)
 |tuple (vs:List V)
 |ptr (i off:Nat)
 |eptr (cells:List V)
 |mapr (i:Nat)
 |fn (f:Fn) (first pk:List V)
 |iface (t:TypeId) (v:V)
 |own (i n:Nat)
 |opt (g:Bool) (v:V)
 |optr (i n sz r q:Nat)
 |lit (cells:List V)
 |cap (S:List (List V))
instance:Inhabited V:=⟨.top⟩
structure Ctx where
 D:Nat->Nat->Option Value
 blk:Nat->Option Nat
 sl:Nat->Nat->Option Value
structure Ctx.le(c c':Ctx):Prop where
 D:∀b j v,c.D b j=some v->c'.D b j=some v
 blk:∀i b,c.blk i=some b->c'.blk i=some b
 sl:∀i n v,c.sl i n=some v->c'.sl i n=some v
theorem Ctx.le.refl(c:Ctx):c.le c:=⟨λ_ _ _ h=>h,λ_ _ h=>h,λ_ _ _ h=>h⟩
def Ctx.le.trans{a b c:Ctx}(h:a.le b)(k:b.le c):a.le c :=
 ⟨λ_ _ _ x=>k.D _ _ _ (h.D _ _ _ x),λ_ _ x=>k.blk _ _ (h.blk _ _ x),λ_ _ _ x=>k.sl _ _ _ (h.sl _ _ _ x)⟩
def iU:Value->Bool
 | .string s=>decide (s.size<=68719476736)
 |_=>true
inductive DRel(D:Nat->Nat->Option Value):V->Value->Prop
 |val (v:Value) (h:v.oneCell'=true) (hs:iU v=true:=by first|rfl|assumption):DRel D (.val v) v
 |nil:DRel D (.slice []) (.slice none 0 0)
 |slice (S:List (List V)) (b off cap sz:Nat) (g:Nat->Nat->Value) (p6:∀r,r∈S->r.length=sz) (hB:S.length<=68719476736) (hc:S.length<=cap)
   (hD:∀(i j:Nat) (r:List V) (x:V),S[i]?=some r->r[j]?=some x->D b (off+i * sz+j)=some (g i j))
   (h:∀(i j:Nat) (r:List V) (x:V),S[i]?=some r->r[j]?=some x->DRel D x (g i j)) :
   DRel D (.slice S) (.slice (some ⟨b,off,none⟩) S.length cap)
 |empty (a:Addr):DRel D (.slice []) (.slice (some a) 0 0)
theorem DRel.mono{D':Nat->Nat->Option Value}(hD:∀b j v,D b j=some v->D' b j=some v){x:V}(h:DRel D x v):DRel D' x v:=by
 induction h with
 |val v h hs=>exact .val v h hs
 |nil=>exact .nil
 |slice S b off cap sz g p6 hB hc O U ih=>exact .slice S b off cap sz g p6 hB hc (λi j r x G hx=>hD _ _ _ (O i j r x G hx)) ih
 |empty a=>exact .empty a
theorem DRel.one{x:V}(h:DRel D x v):v.oneCell'=true:=by
 cases h with
 |val v h hs=>exact h
 |nil=>rfl
 |slice=>rfl
 |empty=>rfl
inductive Rel(c:Ctx):V->Value->Prop
 |data {x:V} {v:Value} (h:DRel c.D x v):Rel c x v
 |top (v:Value):Rel c .top v
 |val (v:Value) (hs:iU v=true:=by first|rfl|assumption):Rel c (.val v) v
 |nils:Rel c .nils (.slice none 0 0)
 |agg (xs:List V) (vs:Array Value) (hl:vs.size=xs.length) (ho:∀(j:Nat) (v:Value),vs[j]?=some v->v.oneCell'=true)
   (h:∀(j:Nat) (x:V) (v:Value),xs[j]?=some x->vs[j]?=some v->Rel c x v):Rel c (.agg xs) (.agg vs)
 |tuple (xs:List V) (vs:Array Value) (hl:vs.size=xs.length)
   (h:∀(j:Nat) (x:V) (v:Value),xs[j]?=some x->vs[j]?=some v->Rel c x v):Rel c (.tuple xs) (.tuple vs)
 |ptr (i off b:Nat) (h:c.blk i=some b):Rel c (.ptr i off) (.pointer (some ⟨b,off,none⟩))
 |eptr (cells:List V) (b o:Nat) (g:Nat->Value) (hD:∀(j:Nat) (x:V),cells[j]?=some x->c.D b (o+j)=some (g j))
   (h:∀(j:Nat) (x:V),cells[j]?=some x->DRel c.D x (g j)):Rel c (.eptr cells) (.pointer (some ⟨b,o,none⟩))
 |mapr (i b:Nat) (h:c.blk i=some b):Rel c (.mapr i) (.map (some b))
 |fn (f:Fn) (ys xs:List V) (us vs:Array Value) (w6:us.size=ys.length) (hl:vs.size=xs.length)
   (Y:∀(j:Nat) (x:V) (v:Value),ys[j]?=some x->us[j]?=some v->Rel c x v)
   (h:∀(j:Nat) (x:V) (v:Value),xs[j]?=some x->vs[j]?=some v->Rel c x v):Rel c (.fn f ys xs) (.func f us vs)
 |iface (t:TypeId) (x:V) (v:Value) (h:Rel c x v):Rel c (.iface t x) (.iface t v)
 |own (i n:Nat) (v:Value) (h:c.sl i n=some v) (ho:v.oneCell'=true):Rel c (.own i n) v
 |opt (g:Bool) (x:V) (v:Value) (h:g=true->Rel c x v) (hn:g=false->v=undef):Rel c (.opt g x) v
 |optr (i n sz r q b o len cap:Nat) (h:c.sl i n=some (.slice (some ⟨b,o,none⟩) len cap)):Rel c (.optr i n sz r q) (.pointer (some ⟨b,o+(r * sz+q),none⟩))
 |lit (cells:List V) (b o cap:Nat) (g:Nat->Value) (hD:∀(j:Nat) (x:V),cells[j]?=some x->c.D b (o+j)=some (g j))
   (h:∀(j:Nat) (x:V),cells[j]?=some x->Rel c x (g j)) (ho:∀(j:Nat) (x:V),cells[j]?=some x->(g j).oneCell'=true):Rel c (.lit cells) (.slice (some ⟨b,o,none⟩) 1 cap)
 |cap (S:List (List V)) (a:Option Addr) (n:Nat) (h:DRel c.D (.slice S) (.slice a n n)):Rel c (.cap S) (.slice a n n)
theorem Rel.mono{c c':Ctx}(hc:c.le c'){x:V}(h:Rel c x v):Rel c' x v:=by
 induction h with
 |data h=>exact .data (h.mono hc.D)
 |top v=>exact .top v
 |val v hs=>exact .val v hs
 |nils=>exact .nils
 |agg xs vs hl ho h ih=>exact .agg xs vs hl ho ih
 |tuple xs vs hl h ih=>exact .tuple xs vs hl ih
 |ptr i off b h=>exact .ptr i off b (hc.blk _ _ h)
 |eptr cells b o g hD h=>exact .eptr cells b o g (λj x hx=>hc.D _ _ _ (hD j x hx)) (λj x hx=>(h j x hx).mono hc.D)
 |mapr i b h=>exact .mapr i b (hc.blk _ _ h)
 |fn f ys xs us vs w6 hl Y h ih' ih=>exact .fn f ys xs us vs w6 hl ih' ih
 |iface t x v h ih=>exact .iface t x v ih
 |own i n v h ho=>exact .own i n v (hc.sl _ _ _ h) ho
 |opt g x v h hn ih=>exact .opt g x v ih hn
 |optr i n sz r q b o len cap h=>exact .optr i n sz r q b o len cap (hc.sl _ _ _ h)
 |lit cells b o cap g hD h ho ih=>exact .lit cells b o cap g (λj x hx=>hc.D _ _ _ (hD j x hx)) ih ho
 |cap S a n h=>exact .cap S a n (h.mono hc.D)
end
mutual
def V.under(n:Nat):V->Bool
 | .top| .val _| .nils| .slice _| .eptr _| .cap _=>true
 | .agg xs| .tuple xs| .lit xs=>q9 n xs
 | .fn _ ys xs=>q9 n ys&&q9 n xs
 | .ptr i _| .mapr i| .own i _| .optr i _ _ _ _=>i<n
 | .iface _ v=>v.under n
 | .opt g v=>!g||v.under n
def q9(n:Nat):List V->Bool
 | []=>true
 |x::xs=>x.under n&&q9 n xs
end
section
variable{v:Value}{w:World}{c':Ctx}{N:Nat}
theorem mI{n:Nat}:∀{xs:List V},q9 n xs=true↔∀x,x∈xs->x.under n=true
 | []=>by simp[q9]
 |x::xs=>by simp[q9,mI (xs:=xs)]
def Ctx.trunc(c:Ctx)(n:Nat):Ctx:={ D:=c.D,blk:=λi=>if i<n then c.blk i else none,sl:=λi m=>if i<n then c.sl i m else none }
theorem Rel.trunc{c:Ctx}{n:Nat}{x:V}(h:Rel c x v):x.under n=true->Rel (c.trunc n) x v:=by
 induction h with
 |data h=>exact λ_=>.data h
 |top v=>exact λ_=>.top v
 |val v hs=>exact λ_=>.val v hs
 |nils=>exact λ_=>.nils
 |agg xs vs hl ho h ih =>
  intro hb;simp only[V.under,mI]at hb;exact .agg xs vs hl ho λj x v hx hv=>ih j x v hx hv (hb x (gw hx))
 |tuple xs vs hl h ih =>
  intro hb;simp only[V.under,mI]at hb;exact .tuple xs vs hl λj x v hx hv=>ih j x v hx hv (hb x (gw hx))
 |ptr i off b h =>
  intro hb;simp[V.under]at hb;exact .ptr i off b qg9
 |eptr cells b o g hD h=>exact λ_=>.eptr cells b o g hD h
 |mapr i b h =>
  intro hb;simp[V.under]at hb;exact .mapr i b qg9
 |fn f ys xs us vs w6 hl Y h ih' ih =>
  intro hb;simp only[V.under,mI,gy]at hb;exact .fn f ys xs us vs w6 hl (λj x v hx hv=>ih' j x v hx hv (hb.1 x (gw hx))) λj x v hx hv=>ih j x v hx hv (hb.2 x (gw hx))
 |iface t x v h ih=>exact λhb=>.iface t x v (ih (by grind[V.under]))
 |own i n v h ho =>
  intro hb;simp[V.under]at hb;exact .own i n v qg9 ho
 |opt g x v h hn ih=>exact λhb=>.opt g x v (λhg=>ih hg (by grind[V.under])) hn
 |optr i n sz r q b o len cap h =>
  intro hb;simp[V.under]at hb;exact .optr i n sz r q b o len cap qg9
 |lit cells b o cap g hD h ho ih =>
  intro hb;simp only[V.under,mI]at hb;exact .lit cells b o cap g hD (λj x hx=>ih j x hx (hb x (gw hx))) ho
 |cap S a n h=>exact λ_=>.cap S a n h
theorem Rel.under{c:Ctx}{n:Nat}(hd:∀i,n<=i->c.blk i=none/\∀m,c.sl i m=none){x:V}(h:Rel c x v):x.under n=true:=by
 induction h with
 |data h=>cases h<;>rfl
 |top v=>rfl
 |val v hs=>rfl
 |nils=>rfl
 |fn f ys xs us vs w6 hl Y h ih' ih =>
  simp only[V.under,mI,gy];constructor
  .intro x hx;obtain⟨j,hj⟩:=iw hx;have ni:j<us.size:=W;exact ih' j x us[j] hj ba
  exact Qak
 |agg xs vs hl ho h ih|tuple xs vs hl h ih =>
  simp only[V.under,mI];exact Qak
 |ptr i off b h|mapr i b h =>
  simp only[V.under,jm];rcases jz i n with O|O
  .exact O
  grind
 |eptr cells b o g hD h=>rfl
 |cap S a n h=>rfl
 |iface t x v h ih=>exact ih
 |own i m v h ho =>
  simp only[V.under,jm];rcases jz i n with O|O
  .exact O
  grind
 |opt g x v h hn ih =>
  cases g with
  |false=>rfl
  |true=>simpa[V.under]using ih rfl
 |optr i m sz r q b o len cap h =>
  simp only[V.under,jm];rcases jz i n with O|O
  .exact O
  grind
 |lit cells b o cap g hD h ho ih =>
  simp only[V.under,mI];intro x hx;obtain⟨j,hj⟩:=iw hx;exact ih j x hj
inductive AObj where
 |none
 |cells (xs:List V)
 |map (es:List (V×V))
 |arr (e:TypeId) (sz:Nat) (S:List (List V))
 |uarr (e:TypeId) (sz:Nat) (S:List (List V))
 |oarr (e:TypeId) (sz:Nat) (S:List (List V))
 |iter (s:ByteArray) (nk:Nat)
 |raw (g:Nat) (f:Array Value->Obj) (xs:List V)
instance:Inhabited AObj:=⟨.none⟩
abbrev mz:=List AObj
def ou(c:Ctx)(i:Nat):AObj->Option Nat
 | .none=>Option.none
 | .cells _| .map _| .iter _ _| .raw _ _ _=>c.blk i
 | .arr _ _ S| .uarr _ _ S| .oarr _ _ S=>(c.sl i S.length).bind Value.ownBlock
def AObj.shares(o:AObj)(j:Nat):Prop :=
 match o with
 | .arr _ sz S=>j<S.length * sz
 |_=>False
def mapClk(qt:Array MapEntry)(wz:Nat):Prop:=(∀e,e∈qt.toList->e.born<wz)/\qt.toList.Pairwise λa b=>a.born≠b.born
def ObjR(c:Ctx)(w:World)(i:Nat):AObj->Prop
 | .none=>True
 | .cells xs=>∃b vs T,c.blk i=some b/\w.heap[b]?=some (.cells vs T (0,0))/\vs.size=xs.length /\
   ∀(j:Nat) (x:V) (v:Value),xs[j]?=some x->vs[j]?=some v->Rel c x v/\v.oneCell'=true
 | .map es=>∃b qt wz,c.blk i=some b/\w.heap[b]?=some (.map qt wz)/\qt.size=es.length /\
   (∀(j:Nat) (k x:V) (ce:MapEntry),es[j]?=some (k,x)->qt[j]?=some ce->Rel c k ce.key/\Rel c x ce.val)/\mapClk qt wz
 | .iter s nk=>∃b,c.blk i=some b/\w.heap[b]?=some (.stringIter s nk)
 | .raw g f xs=>c.blk i=some g/\∃vs,w.heap[g]?=some (f vs)/\vs.size=xs.length/\∀(j:Nat) (x:V) (v:Value),xs[j]?=some x->vs[j]?=some v->Rel c x v
 | .arr e sz S=>∃v vs,c.sl i S.length=some v/\v.oneCell'=true/\(∀m,S.length<m->c.sl i m=Option.none)/\w.ownsRow 0 e sz v S.length vs/\S.length<=68719476736/\(∀r,r∈S->r.length=sz) /\
   (∀(i' j:Nat) (r:List V) (x:V),S[i']?=some r->r[j]?=some x->∃u,vs[i' * sz+j]?=some u/\DRel c.D x u) /\
   ∀b j,v.ownBlock=some b->j<S.length * sz->∃u,c.D b j=some u
 | .uarr e sz S=>∃v vs,c.sl i S.length=some v/\v.oneCell'=true/\(∀m,S.length<m->c.sl i m=Option.none)/\w.ownsRow 0 e sz v S.length vs/\S.length<=68719476736/\(∀r,r∈S->r.length=sz) /\
   (∀(i' j:Nat) (r:List V) (x:V),S[i']?=some r->r[j]?=some x->∃u,vs[i' * sz+j]?=some u/\DRel c.D x u)
 | .oarr e sz S=>∃v vs,c.sl i S.length=some v/\v.oneCell'=true/\(∀m,S.length<m->c.sl i m=Option.none)/\w.ownsRow 0 e sz v S.length vs/\S.length<=68719476736/\(∀r,r∈S->r.length=sz) /\
   (∀(i' j:Nat) (r:List V) (x:V),S[i']?=some r->r[j]?=some x->∃u,vs[i' * sz+j]?=some u/\Rel c x u/\u.oneCell'=true)
structure HSim(c:Ctx)(h:mz)(w:World):Prop where
 data:∀b j v,c.D b j=some v->w.cell? ⟨b,j,none⟩=some v
 dom:∀i,h.length<=i->c.blk i=none/\∀m,c.sl i m=none
 obj:∀i o,h[i]?=some o->ObjR c w i o
 apart:∀i j o o' b,h[i]?=some o->h[j]?=some o'->ou c i o=some b->ou c j o'=some b->i=j
 sep:∀i o b j v,h[i]?=some o->ou c i o=some b->c.D b j=some v->o.shares j
structure Ent where
 N:Nat
 c:Ctx
 h:mz
 w:World
structure Ent.ok(E:Ent)(c:Ctx)(h:mz)(w:World):Prop where
 edom:∀i,E.h.length<=i->E.c.blk i=none/\∀m,E.c.sl i m=none
 ext:E.c.le c
 blk0:∀n,n<E.h.length->c.blk n=E.c.blk n
 len:E.h.length<=h.length
 os:w.os=E.w.os
 tape:w.tape=E.w.tape
 output:w.output=E.w.output
 size:E.w.heap.size<=w.heap.size
 frame:∀b,b<E.w.heap.size->(∀i o,E.h[i]?=some o->ou E.c i o≠some b)->w.heap[b]?=E.w.heap[b]?
 newobj:∀i o b,h[i]?=some o->ou c i o=some b->(∃i0 o0,E.h[i0]?=some o0/\ou E.c i0 o0=some b)\/E.w.heap.size<=b
 dold:∀b j v,c.D b j=some v->E.c.D b j=some v\/E.w.heap.size<=b\/∃i o,E.h[i]?=some o/\ou E.c i o=some b
theorem Ent.ok.refl{c:Ctx}{h:mz}(N:Nat)(hs:HSim c h w):(⟨N,c,h,w⟩:Ent).ok c h w :=
 ⟨hs.dom,.refl c,λ_ _=>rfl,gj _,rfl,rfl,rfl,gj _,λ_ _ _=>rfl,λ_ o _ ho hb=>.inl ⟨_,o,ho,hb⟩,λ_ _ _ h=>.inl h⟩
def Ent.ok.trans{E:Ent}{c:Ctx}{h Y:mz}{w':World}(k:E.ok c h w)(k':(⟨N,c,h,w⟩:Ent).ok c' Y w'):E.ok c' Y w' where
 edom:=k.edom
 ext:=k.ext.trans k'.ext
 blk0:=λn hn=>(k'.blk0 n (qiu hn k.len)).trans (k.blk0 n hn)
 len:=jh k.len k'.len
 os:=k'.os.trans k.os
 tape:=k'.tape.trans k.tape
 output:=k'.output.trans k.output
 size:=jh k.size k'.size
 frame:=λb hb qz=>(k'.frame b (qiu hb k.size) λi o ho hbk=>by
   rcases k.newobj i o b ho hbk with⟨i0,o0,L,O⟩|U
   .grind
   omega).trans (k.frame b hb qz)
 newobj:=λi o b ho hb=>by
  rcases k'.newobj i o b ho hb with⟨i0,o0,L,O⟩|U
  .rcases k.newobj i0 o0 b L O with h3|h3
   .grind
   omega
  exact .inr (jh k.size U)
 dold:=λb j v hD=>by
  rcases k'.dold b j v hD with h|h|⟨i,o,O,U⟩
  .exact k.dold b j v h
  .exact .inr (.inl (jh k.size h))
  rcases k.newobj i o b O U with⟨i0,o0,g0,g1⟩|g
  .grind
  omega
inductive AEnd where
 |ret (v:V)
 |panic (v:V)
def EndR(c:Ctx):AEnd->Ending->Prop
 | .ret x,.returned v=>Rel c x v
 | .panic x,.panicked [⟨v,false,false⟩]=>Rel c x v
 |_,_=>False
def RelL(c:Ctx)(xs:List V)(vs:Array Value):Prop:=vs.size=xs.length/\∀(j:Nat) (x:V) (v:Value),xs[j]?=some x->vs[j]?=some v->Rel c x v
def yZ(P:Program)(f:FuncId):Prop:=∃fn,P.funcs[f]?=some fn/\fn.body.isSome=true/\(fn.name == "runtime.NumGoroutine")=false
def ACalls(P:Program)(f:FuncId)(args:List V)(h:mz)(R:AEnd->mz->Prop):Prop :=
 yZ P f/\∀(c:Ctx) (w:World) (vs:Array Value),HSim c h w->RelL c args vs ->
  Calls P f vs w λe w'=>∃r Y c',R r Y/\EndR c' r e/\HSim c' Y w'/\(⟨0,c,h,w⟩:Ent).ok c' Y w'
def APure(P:Program)(f:FuncId)(args:List V)(r:V):Prop:=∀h,ACalls P f args h λe Y=>e=.ret r/\Y=h
theorem ACalls.mono{P:Program}{f:FuncId}{args:List V}{h:mz}{R R':AEnd->mz->Prop}(k:ACalls P f args h R)(G:∀r Y,R r Y->R' r Y):ACalls P f args h R' :=
 ⟨k.1,λc w vs hs ha=>(k.2 c w vs hs ha).mono λ_ _ ⟨r,Y,c',a,b⟩=>⟨r,Y,c',G _ _ a,b⟩⟩
structure Env where
 t:List (Nat×V)
 h:mz
def oz:List (Nat×V)->Nat->V
 | [],_=>.top
 |(j,x)::l,i=>bif j == i then x else oz l i
def bD:Value->V
 | .slice none 0 0=>.nils
 | .string s=>if s.size<=68719476736 then .val (.string s)else .top
 |v=>.val v
theorem Ej(c:Ctx)(v:Value):Rel c (bD v) v:=by
 unfold bD;split
 .exact .nils
 .split
  .rename_i h;exact .val _ (by simp[iU,h])
  exact .top _
 rename_i O U;refine .val _ ?_;simp[iU]
def Hn(l:List Value):Bool:=l.all (·.oneCell')
def mL:Value->V
 | .agg ⟨vs⟩=>match Hn vs with
  |true=>.agg (vs.map bD)
  |false=>.val (.agg ⟨vs⟩)
 |v=>bD v
def Lm(c:Ctx)(v:Value):Rel c (mL v) v:=by
 unfold mL;split
 .rename_i vs;split
  .rename_i h;simp only[Hn,jk]at h;refine .agg _ _ Z (λj v hv=>h v (gw qhn)) λj x v hx hv=>?_;simp only[ja,iy]at hx;grind[Ej]
  exact .val _
 exact Ej c _
def Env.get(e:Env):Operand->V
 | .tmp i=>oz e.t i
 | .const v=>mL v
 | .global _=>.top
 | .func f=>.fn (.func f) [] []
def Env.put(e:Env):Option Tmp->V->Env
 |some d,x=>{ e with t:=(d,x)::e.t }
 |none,_=>e
structure Sim(N:Nat)(c:Ctx)(e:Env)(a:Act)(w:World):Prop where
 defers:a.defers=[]
 size:a.tmps.size=N
 tmps:∀i,Rel c (oz e.t i) (a.tmps.getD i undef)
 hs:HSim c e.h w
theorem Sim.eval{c:Ctx}{e:Env}{a:Act}(s:Sim N c e a w)(x:Operand):Rel c (e.get x) (a.eval x):=by
 cases x with
 |tmp i=>exact s.tmps i
 |const v=>exact Lm c v
 |global g=>exact .top _
 |func f=>exact .fn _ [] [] #[] #[] rfl rfl Z Z
theorem Sim.put{c:Ctx}{e:Env}{Y:mz}{a:Act}{w':World}(s:Sim N c e a w)(hc:c.le c')(hs:HSim c' Y w'){d:Option Tmp}(hd:∀i,d=some i->i<N){x:V}
  (hx:Rel c' x v):Sim N c' (({ e with h:=Y }:Env).put d x) (a.put d v) w':=by
 cases d with
 |none=>exact⟨s.defers,s.size,λi=>(s.tmps i).mono hc,hs⟩
 |some d =>
  refine⟨s.defers,by simp[Act.put,s.size],λi=>?_,hs⟩;have zn:=hd d rfl;have ni:d<a.tmps.size:=by rw[s.size];exact zn
  by_cases hi:d=i
  .subst hi;simp[Env.put,oz,Act.put,ni,hx]
  have O:(d == i)=false:=qho;simp only[Env.put,oz,O,lh,Act.put];have:=(s.tmps i).mono hc
  simp_all
inductive AExit where
 |normal
 |exit (id:Nat)
 |ret
 |panic (v:V)
def XR(c:Ctx):AExit->Exit->Prop
 | .normal,.normal=>True
 | .exit i,.exit j=>i=j
 | .ret,.ret=>True
 | .panic x,.panic [⟨v,false,false⟩]=>Rel c x v
 |_,_=>False
def kI(E:Ent)(hu:AExit->Env->Prop):Exit->Act->World->Prop :=
 λx a w=>∃x' e c,hu x' e/\XR c x' x/\Sim E.N c e a w/\E.ok c e.h w
def AWp(P:Program)(E:Ent)(code:Code)(hu:AExit->Env->Prop)(e:Env):Prop :=
 ∀c a w,Sim E.N c e a w->E.ok c e.h w->code.wp P (kI E hu) a w
def vZ(P:Program)(E:Ent)(om:Array Oper)(l:List Oper)(hu:AExit->Env->Prop)(e:Env):Prop :=
 ∀c a w,Sim E.N c e a w->E.ok c e.h w->wpList P om (kI E hu) l a w
def jO(w:World)(o:Obj)(i:Nat)(h:i<w.heap.size):(w.alloc o).heap[i]?=w.heap[i]?:=by unfold World.alloc;simp only;rw[Array.getElem?_push,gg J]
end
end
section
def V.Wk(x y:V):Prop:=∀c v,Rel c x v->Rel c y v
theorem V.Wk.refl(x:V):x.Wk x:=λ_ _ h=>h
def V.Wk.trans{x y hI:V}(h:x.Wk y)(k:y.Wk hI):x.Wk hI:=λc v r=>k c v (h c v r)
def V.Wk.top(x:V):x.Wk .top:=λ_ v _=>.top v
def V.Wk.nils:V.nils.Wk (.slice []):=λ_ _ h=>by
 cases h with
 |data h=>cases h
 |nils=>exact .data .nil
def V.Wk.opt(x:V):(V.opt true x).Wk x:=λ_ _ h=>by
 cases h with
 |data h=>cases h
 |opt g x v h hn=>exact h rfl
def wkL:List V->List V->Prop
 | [],[]=>True
 |x::xs,y::ys=>x.Wk y/\wkL xs ys
 |_,_=>False
theorem wkL.refl:∀xs,wkL xs xs
 | []=>trivial
 |x::xs=>⟨.refl x,wkL.refl xs⟩
theorem wkL.length:∀{xs ys:List V},wkL xs ys->xs.length=ys.length
 | [],[],_=>rfl
 |_::_,_::_,h=>by simp[wkL.length h.2]
theorem wkL.get:∀{xs ys:List V},wkL xs ys->∀(j:Nat) (y:V),ys[j]?=some y->∃x,xs[j]?=some x/\x.Wk y
 | [],[],_,j,y,h=>by simp at h
 |x::xs,hI::ys,h,0,y,hj=>by simp at hj;subst hj;exact⟨x,Z,h.1⟩
 |x::xs,hI::ys,h,j+1,y,hj=>by obtain⟨x',O,U⟩:=h.2.get j y W;grind
theorem V.Wk.agg{xs ys:List V}(h:wkL xs ys):(V.agg xs).Wk (.agg ys):=λc v r=>by
 cases r with
 |data h=>cases h
 |agg xs vs hl ho G =>
  refine .agg ys vs (by rw[hl,h.length]) ho λj y v hy hv=>?_;exact Qal
def V.Wk.tuple{xs ys:List V}(h:wkL xs ys):(V.tuple xs).Wk (.tuple ys):=λc v r=>by
 cases r with
 |data h=>cases h
 |tuple xs vs hl G =>
  refine .tuple ys vs (by rw[hl,h.length]) λj y v hy hv=>?_;exact Qal
theorem V.Wk.iface{x y:V}(t:TypeId)(h:x.Wk y):(V.iface t x).Wk (.iface t y):=λc v r=>by
 cases r with
 |data h=>cases h
 |iface t x v G=>exact .iface t y v (h c v G)
def ObjWk:AObj->AObj->Prop
 | .cells xs,.cells ys=>wkL xs ys
 |_,.none=>True
 |o,o'=>o=o'
theorem ObjWk.refl(o:AObj):ObjWk o o:=by cases o<;>simp[ObjWk];exact wkL.refl _
def hwk:mz->mz->Prop
 |_,[]=>True
 |o::l,o'::l'=>ObjWk o o'/\hwk l l'
 | [],_::_=>False
theorem hwk.refl:∀h,hwk h h
 | []=>trivial
 |o::l=>⟨.refl o,hwk.refl l⟩
theorem hwk.app{l l':mz}(k:hwk l l'):∀h,hwk (h++l) (h++l')
 | []=>k
 |o::h=>⟨.refl o,hwk.app k h⟩
theorem hwk.app0{l:mz}:∀h,hwk (h++l) h
 | []=>by cases l<;>trivial
 |o::h=>⟨.refl o,hwk.app0 h⟩
theorem hwk.get:∀{h Y:mz},hwk h Y->∀(i:Nat) (o':AObj),Y[i]?=some o'->∃o,h[i]?=some o/\ObjWk o o'
 |h,[],_,i,o',hi=>by simp at hi
 | [],_::_,k,_,_,_=>k.elim
 |o::l,p::l',k,0,o',hi=>by simp at hi;subst hi;exact⟨o,Z,k.1⟩
 |o::l,p::l',k,i+1,o',hi=>by obtain⟨q,O,U⟩:=k.2.get i o' W;grind
def AObj.under(n:Nat):AObj->Bool
 | .cells xs=>q9 n xs
 | .map es=>es.all λp=>p.1.under n&&p.2.under n
 | .raw _ _ xs=>q9 n xs
 | .oarr _ _ S=>S.all λr=>q9 n r
 |_=>true
def hUnder(n:Nat):mz->Bool
 | []=>true
 |o::l=>o.under n&&hUnder n l
theorem lY{n:Nat}:∀{h:mz},hUnder n h=true↔∀o,o∈h->o.under n=true
 | []=>by simp[hUnder]
 |o::l=>by simp[hUnder,lY (h:=l)]
theorem xh{n:Nat}:∀{h l:mz},hUnder n (h++l)=(hUnder n h&&hUnder n l)
 | [],l=>by simp[hUnder]
 |o::h,l=>by simp[hUnder,xh (h:=h),ma]
mutual
theorem V.under_mono{n m:Nat}(hm:n<=m):∀(x:V),x.under n=true->x.under m=true
 | .top,_| .val _,_| .nils,_| .slice _,_| .eptr _,_| .cap _,_=>rfl
 | .agg xs,h| .tuple xs,h| .lit xs,h=>by simp only[V.under]at h|-;exact pC hm xs h
 | .fn _ ys xs,h=>by simp only[V.under,gy]at h|-;exact⟨pC hm ys h.1,pC hm xs h.2⟩
 | .ptr i _,h| .mapr i,h| .own i _,h| .optr i _ _ _ _,h=>by simp only[V.under,jm]at h|-;omega
 | .iface _ v,h=>by simp only[V.under]at h|-;exact V.under_mono hm v h
 | .opt g v,h=>by
  cases g with
  |false=>rfl
  |true=>simp only[V.under,Bool.not_true,qir]at h|-;exact V.under_mono hm v h
theorem pC{n m:Nat}(hm:n<=m):∀(xs:List V),q9 n xs=true->q9 m xs=true
 | [],_=>rfl
 |x::xs,h=>by simp only[q9,gy]at h|-;exact⟨V.under_mono hm x h.1,pC hm xs h.2⟩
end
section
variable{i:Nat}{o o':AObj}{e1:Env}
theorem aQ{n m:Nat}(hm:n<=m){h:mz}(k:hUnder n h=true):hUnder m h=true:=by
 rw[lY]at k|-;intro o ho;have:=k o ho;cases o with
 |none=>rfl
 |cells xs=>exact pC hm xs this
 |map es =>
  simp only[AObj.under,jk,gy]at this|-;exact λp hp=>⟨V.under_mono hm _ (this p hp).1,V.under_mono hm _ (this p hp).2⟩
 |arr e sz S=>rfl
 |uarr e sz S=>rfl
 |oarr e sz S =>
  simp only[AObj.under,jk]at this|-;exact λr G=>pC hm r (this r G)
 |iter s nk=>rfl
 |raw g f xs=>exact pC hm xs this
theorem HSim.hUnder{c:Ctx}{h:mz}{w:World}(s:HSim c h w):Abs.hUnder h.length h=true:=by
 rw[lY];intro o ho;obtain⟨i,hi⟩:=iw ho;have k:=s.obj i o hi;cases o with
 |none=>rfl
 |arr=>rfl
 |uarr=>rfl
 |iter=>rfl
 |oarr e sz S =>
  obtain⟨v,vs,O,si,hm,U,h3,h4,h5⟩:=k;simp only[AObj.under,jk,mI];intro r G x hx;obtain⟨i',qj⟩:=iw G;obtain⟨j,hj⟩:=iw hx;obtain⟨u,_,Q,_⟩:=h5 i' j r x qj hj;exact Q.under s.dom
 |raw g f xs =>
  obtain⟨O,vs,U,h3,h4⟩:=k;simp only[AObj.under,mI];intro x hx;obtain⟨j,hj⟩:=iw hx;have ni:j<vs.size:=W;exact(h4 j x vs[j] hj ba).under s.dom
 |cells xs =>
  obtain⟨b,vs,T,O,U,h3,h4⟩:=k;simp only[AObj.under,mI];intro x hx;obtain⟨j,hj⟩:=iw hx;have ni:j<vs.size:=W;exact(h4 j x vs[j] hj ba).1.under s.dom
 |map es =>
  obtain⟨b,qt,wz,O,U,h3,h4,h5⟩:=k;simp only[AObj.under,jk,gy];intro p hp;obtain⟨j,hj⟩:=iw hp;have ni:j<qt.size:=W;have:=h4 j p.1 p.2 qt[j] hj ba;exact⟨this.1.under s.dom,this.2.under s.dom⟩
theorem G9{c:Ctx}{n:Nat}(hi:i<n)(o:AObj):ou (c.trunc n) i o=ou c i o:=by simp_all[ou,Ctx.trunc]
def GL{c:Ctx}(k:ObjWk o o'){b:Nat}(h:ou c i o'=some b):ou c i o=some b:=by cases o<;>cases o'<;>simp_all[ObjWk,ou]
theorem ObjWk.shares(k:ObjWk o o'){c:Ctx}{b:Nat}(hb:ou c i o'=some b)(j:Nat)(h:o.shares j):o'.shares j:=by cases o<;>cases o'<;>simp_all[ObjWk,AObj.shares,ou]
def Wk(E:Ent)(e e1:Env):Prop:=∀c a w,Sim E.N c e a w->E.ok c e.h w->∃c1,Sim E.N c1 e1 a w/\E.ok c1 e1.h w
theorem Wk.refl(E:Ent)(e:Env):Wk E e e:=λc _ _ h k=>⟨c,h,k⟩
def Wk.trans{E:Ent}{e e2:Env}(h:Wk E e e1)(k:Wk E e1 e2):Wk E e e2:=λc a w s o =>
 let ⟨c1,s1,o1⟩:=h c a w s o
 k c1 a w s1 o1
def wkT(n:Nat)(t:List (Nat×V)):List (Nat×V)->Prop
 | []=>True
 |(i,x)::l=>(oz t i).Wk x/\x.under n=true/\wkT n t l
theorem wkT.look{n:Nat}{t:List (Nat×V)}:∀{l:List (Nat×V)},wkT n t l->∀i,(oz t i).Wk (oz l i)/\(oz l i).under n=true
 | [],_,i=>⟨.top _,rfl⟩
 |(j,x)::l,h,i=>by
  by_cases hj:j=i
  .subst hj;simp only[oz,qjd,lu];exact⟨h.1,h.2.1⟩
  have:(j == i)=false:=dy;simp only[oz,this,lh];exact wkT.look h.2.2 i
theorem Wk.mk{E:Ent}{e:Env}(hn:E.h.length<=e1.h.length)(hh:hwk e.h e1.h)(Q:hUnder e1.h.length e1.h=true)(ht:wkT e1.h.length e.t e1.t):Wk E e e1:=by
 intro c a w s o;have A6:∀(i:Nat) (o':AObj),e1.h[i]?=some o'->i<e1.h.length:=λi o' hi=>(gn.1 hi).1;refine⟨c.trunc e1.h.length,⟨s.defers,s.size,λi=>?_,?_⟩,?_⟩
 .have:=ht.look i;exact(this.1 c _ (s.tmps i)).trunc this.2
 .refine⟨s.hs.data,λi hi=>⟨by simp[Ctx.trunc,Nat.not_lt.2 hi],λm=>by simp[Ctx.trunc,Nat.not_lt.2 hi]⟩,λi o' hi=>?_,λi j o' p b hi hj hb nl=>?_,λi o' b j v hi hb hD=>?_⟩
  .have ni:=A6 i o' hi;obtain⟨p,hp,hw⟩:=hh.get i o' hi;have k:=s.hs.obj i p hp;have gV:o'.under e1.h.length=true:=lY.1 Q o' (gw hi);cases o' with
   |none=>trivial
   |cells ys =>
    cases p with
    |cells xs =>
     obtain⟨b,vs,T,O,U,h3,h4⟩:=k;simp only[ObjWk]at hw;simp only[AObj.under,mI]at gV;refine⟨b,vs,T,c7,U,by rw[h3,hw.length],λj y v hy hv=>?_⟩;obtain⟨x,hx,hwk⟩:=hw.get j y hy;have:=h4 j x v hx hv;exact⟨(hwk c v this.1).trunc (gV y (gw hy)),this.2⟩
    |_=>simp[ObjWk]at hw
   |map es =>
    have:p=.map es:=fi;subst this;obtain⟨b,qt,wz,O,U,h3,h4,h5⟩:=k;simp only[AObj.under,jk,gy]at gV;refine⟨b,qt,wz,c7,U,h3,λj kk x ce hy hv=>?_,h5⟩;have:=h4 j kk x ce hy hv;have hm:=gV _ (gw hy);exact⟨this.1.trunc hm.1,this.2.trunc hm.2⟩
   |iter s nk =>
    have:p=.iter s nk:=fi;subst this;obtain⟨b,O,U⟩:=k;exact⟨b,c7,U⟩
   |raw g f xs =>
    have:p=.raw g f xs:=fi;subst this;obtain⟨O,vs,U,h3,h4⟩:=k;simp only[AObj.under,mI]at gV;exact⟨c7,vs,U,h3,λj x v hx hv=>(h4 j x v hx hv).trunc (gV x (gw hx))⟩
   |arr t sz S =>
    have:p=.arr t sz S:=fi;subst this;obtain⟨v,vs,O,ho,hm,U⟩:=k;exact⟨v,vs,c7,ho,λm uz=>by simp[Ctx.trunc,ni,hm m uz],U⟩
   |uarr t sz S =>
    have:p=.uarr t sz S:=fi;subst this;obtain⟨v,vs,O,ho,hm,U⟩:=k;exact⟨v,vs,c7,ho,λm uz=>by simp[Ctx.trunc,ni,hm m uz],U⟩
   |oarr t sz S =>
    have:p=.oarr t sz S:=fi;subst this;obtain⟨v,vs,O,ho,hm,U,h3,h4,h5⟩:=k;simp only[AObj.under,jk,mI]at gV;refine⟨v,vs,c7,ho,λm uz=>by simp[Ctx.trunc,ni,hm m uz],U,h3,h4,λi' j r x G hx=>?_⟩;obtain⟨u,g1,g2,g3⟩:=h5 i' j r x G hx;exact⟨u,g1,g2.trunc (gV r (gw G) x (gw hx)),g3⟩
  .obtain⟨o1,O,w1⟩:=hh.get i o' hi;obtain⟨o2,U,w2⟩:=hh.get j p hj;rw[G9 (A6 i o' hi)]at hb;rw[G9 (A6 j p hj)]at nl;exact s.hs.apart i j o1 o2 b O U (GL w1 hb) (GL w2 nl)
  obtain⟨o1,O,w1⟩:=hh.get i o' hi;rw[G9 (A6 i o' hi)]at hb;exact w1.shares hb j (s.hs.sep i o1 b j v O (GL w1 hb) hD)
 refine⟨o.edom,⟨o.ext.D,λi b hb=>?_,λi n v hv=>?_⟩,λn ni=>by simp only[Ctx.trunc];rw[gh J];exact o.blk0 n ni,hn,o.os,o.tape,o.output,o.size,o.frame,λi o' b hi hb=>?_,o.dold⟩
 .have hi:i<e1.h.length:=by
   rcases jz i e1.h.length with h|h
   .exact h
   rw[(o.edom i (jh hn h)).1]at hb;cases hb
  simp[Ctx.trunc,hi,o.ext.blk i b hb]
 .have hi:i<e1.h.length:=by
   rcases jz i e1.h.length with h|h
   .exact h
   rw[(o.edom i (jh hn h)).2]at hv;cases hv
  simp[Ctx.trunc,hi,o.ext.sl i n v hv]
 obtain⟨o1,O,w1⟩:=hh.get i o' hi;rw[G9 (A6 i o' hi)]at hb;exact o.newobj i o1 b O (GL w1 hb)
end
section rules
variable {P:Program} {E:Ent} {hu:AExit->Env->Prop} {e:Env}
section
variable{id:Nat}{ι:Type}{om:Array Oper}
def AExit.then(K:Env->Prop)(hu:AExit->Env->Prop):AExit->Env->Prop
 | .normal,e=>K e
 |x,e=>hu x e
def AExit.inBlock(id:Nat)(hu:AExit->Env->Prop):AExit->Env->Prop
 | .exit i,e=>if i=id then hu .normal e else hu (.exit i) e
 |x,e=>hu x e
theorem AWp.mono{c:Code}{Q':AExit->Env->Prop}(h:AWp P E c hu e)(hq:∀x e,hu x e->Q' x e):AWp P E c Q' e :=
 λk a w s o=>wp_mono (h k a w s o) λ_ _ _ ⟨x',e',c',q,r⟩=>⟨x',e',c',hq _ _ q,r⟩
def AWp.wk{c:Code}{e1:Env}(hw:Wk E e e1)(h:AWp P E c hu e1):AWp P E c hu e :=
 λk a w s o=>let ⟨c1,s1,o1⟩:=hw k a w s o;h c1 a w s1 o1
def Fu(h:hu .normal e):AWp P E .skip hu e:=λc _ _ s o=>wp_skip ⟨.normal,e,c,h,trivial,s,o⟩
def Jr(h:hu .ret e):AWp P E .ret hu e:=λc _ _ s o=>wp_ret ⟨.ret,e,c,h,trivial,s,o⟩
def qrm(h:hu (.exit id) e):AWp P E (.exit id) hu e:=λc _ _ s o=>wp_exit ⟨.exit id,e,c,h,rfl,s,o⟩
def yv{x y:Code}(h:AWp P E x (AExit.then (AWp P E y hu) hu) e):AWp P E (.seq x y) hu e:=λc a w s o=>by
 refine wp_seq (wp_mono (h c a w s o) ?_);rintro ex a' w' ⟨x',e',c',hq,hx,o9,ok'⟩;cases x' with
 |normal=>cases ex<;>simp only[XR]at hx;exact hq c' a' w' o9 ok'
 |exit i=>cases ex<;>simp only[XR]at hx;exact⟨.exit i,e',c',hq,hx,o9,ok'⟩
 |ret=>cases ex<;>simp only[XR]at hx;exact⟨.ret,e',c',hq,trivial,o9,ok'⟩
 |panic v =>
  cases ex with
  |panic ch=>exact⟨.panic v,e',c',hq,hx,o9,ok'⟩
  |_=>simp only[XR]at hx
def qld{b:Code}(h:AWp P E b (AExit.inBlock id hu) e):AWp P E (.block id b) hu e:=λc a w s o=>by
 refine wp_block (wp_mono (h c a w s o) ?_);rintro ex a' w' ⟨x',e',c',hq,hx,o9,ok'⟩;cases x' with
 |normal=>cases ex<;>simp only[XR]at hx;exact⟨.normal,e',c',hq,trivial,o9,ok'⟩
 |exit i =>
  cases ex with
  |exit j =>
   simp only[XR]at hx;subst hx;simp only[Exit.inBlock];simp only[AExit.inBlock]at hq;split
   .rename_i hi;rw[gh hi]at hq;exact⟨.normal,e',c',hq,trivial,o9,ok'⟩
   rename_i hi;rw[gg hi]at hq;exact⟨.exit i,e',c',hq,rfl,o9,ok'⟩
  |_=>simp only[XR]at hx
 |ret=>cases ex<;>simp only[XR]at hx;exact⟨.ret,e',c',hq,trivial,o9,ok'⟩
 |panic v =>
  cases ex with
  |panic ch=>exact⟨.panic v,e',c',hq,hx,o9,ok'⟩
  |_=>simp only[XR]at hx
def Rel.bool{c:Ctx}{b:Bool}{v:Value}(h:Rel c (.val (.bool b)) v):v=.bool b:=by
 cases h with
 |data h=>cases h;rfl
 |val=>rfl
def BS{x:Operand}{t f:Code}{b:Bool}(hb:e.get x=.val (.bool b))(ht:b=true->AWp P E t hu e)(hf:b=false->AWp P E f hu e):AWp P E (.cond x t f) hu e :=
 λc a w s o=>wp_cond_split (Rel.bool (hb▸s.eval x)) (λh=>ht h c a w s o) (λh=>hf h c a w s o)
def VX{c:Code}{hu:Exit->Act->World->Prop}{a:Act}{w:World}(I:ι->Act->World->Prop)(μ:ι->Nat)(i0:ι)(h₀:I i0 a w)
  (round:∀i a w,I i a w->c.wp P (Exit.then (λa' w'=>∃j,I j a' w'/\μ j<μ i) hu) a w):(Code.loop c).wp P hu a w:=by
 intro b k cs;have key:∀n i a w,μ i=n->I i a w->∃e a' w',hu e a' w'/\Arrives P (lone (b.at a (.code c::.inLoop c::k)) cs w) b k cs e a' w':=by
  intro n
  induction n using Nat.strongRecOn with
  |_ n ih =>
   intro i a w hn z;obtain⟨e,a₁,w₁,hq,kO⟩:=round i a w z b (.inLoop c::k) cs;cases e with
   |normal =>
    obtain⟨j,hI₁,ni⟩:=hq;obtain⟨e₂,a₂,w₂,hq₂,harr₂⟩:=ih (μ j) (hn▸ni) j a₁ w₁ rfl hI₁;exact⟨e₂,a₂,w₂,hq₂,.of_steps (Steps.trans kO (.one step_inLoop)) harr₂⟩
   |exit id=>exact⟨_,a₁,w₁,hq,.pass (x:=.inLoop c) rfl (λ_ _=>.inl Z) kO⟩
   |goto l=>exact⟨_,a₁,w₁,hq,.pass (x:=.inLoop c) rfl (λ_ _=>.inl Z) kO⟩
   |ret=>exact⟨_,a₁,w₁,hq,.pass (x:=.inLoop c) rfl (λ_ _=>.inl Z) kO⟩
   |panic ch=>exact⟨_,a₁,w₁,hq,.pass (x:=.inLoop c) rfl (λ_ _=>.inl Z) kO⟩
   |outgrown=>exact⟨_,a₁,w₁,hq,.pass (x:=.inLoop c) rfl (λ_ _=>.inl Z) kO⟩
 obtain⟨e,a',w',hq,kO⟩:=key _ i0 a w rfl h₀;exact⟨e,a',w',hq,.of_steps (.one step_loop) kO⟩
def Jw{b:Code}(I:ι->Prop)(my:ι->Env)(μ:ι->Nat)(i0:ι)(L:I i0)(hw:Wk E e (my i0))
  (round:∀i,I i->AWp P E b (AExit.then (λe'=>∃j,I j/\μ j<μ i/\Wk E e' (my j)) hu) (my i)):AWp P E (.loop b) hu e:=λc a w s o=>by
 refine VX (ι:=ι) (λi a w=>I i/\∃c,Sim E.N c (my i) a w/\E.ok c (my i).h w) μ i0 ⟨L,hw c a w s o⟩ ?_;rintro i a w ⟨z,c,s,o⟩;refine wp_mono (round i z c a w s o) ?_;rintro ex a' w' ⟨x',e',c',hq,hx,o9,ok'⟩;cases x' with
 |normal =>
  cases ex<;>simp only[XR]at hx;obtain⟨j,hj,ni,hwk⟩:=hq;exact⟨j,⟨hj,hwk c' a' w' o9 ok'⟩,ni⟩
 |exit i=>cases ex<;>simp only[XR]at hx;exact⟨.exit i,e',c',hq,hx,o9,ok'⟩
 |ret=>cases ex<;>simp only[XR]at hx;exact⟨.ret,e',c',hq,trivial,o9,ok'⟩
 |panic v =>
  cases ex with
  |panic ch=>exact⟨.panic v,e',c',hq,hx,o9,ok'⟩
  |_=>simp only[XR]at hx
def GG(h:vZ P E om om.toList hu e):AWp P E (.region id om false) hu e :=
 λc a w s o=>wp_region_list (h c a w s o)
def L6(h:hu .normal e):vZ P E om [] hu e:=λc _ _ s o=>⟨.normal,e,c,h,trivial,s,o⟩
end
end rules
end
section
variable{w:World}{i:Nat}{o:AObj}{c':Ctx}{h:mz}{E:Ent}{α:Type}{xs:List V}{vs:Array Value}
theorem ObjR.lt{c:Ctx}(k:ObjR c w i o){b:Nat}(hb:ou c i o=some b):b<w.heap.size:=by
 cases o with
 |none=>simp[ou]at hb
 |cells xs =>
  obtain⟨b',vs,T,O,U,_⟩:=k;grind[ou,js]
 |map es =>
  obtain⟨b',vs,T,O,U,_⟩:=k;grind[ou,js]
 |iter s nk =>
  obtain⟨b',O,U⟩:=k;grind[ou,js]
 |raw g f xs =>
  obtain⟨O,vs,U,_⟩:=k;grind[ou,js]
 |arr e sz S =>
  exact Qam
 |uarr e sz S =>
  exact Qam
 |oarr e sz S =>
  exact Qam
theorem ObjR.blk{c:Ctx}(k:ObjR c w i o)(hc:c.le c'):ou c' i o=ou c i o:=by
 cases o with
 |none=>rfl
 |cells xs=>obtain⟨b',vs,T,O,U,_⟩:=k;simp[ou,O,hc.blk _ _ O]
 |map es=>obtain⟨b',vs,T,O,U,_⟩:=k;simp[ou,O,hc.blk _ _ O]
 |iter s nk=>obtain⟨b',O,U⟩:=k;simp[ou,O,hc.blk _ _ O]
 |raw g f xs=>obtain⟨O,U⟩:=k;simp[ou,O,hc.blk _ _ O]
 |arr e sz S=>obtain⟨v,vs,O,_⟩:=k;simp[ou,O,hc.sl _ _ _ O]
 |uarr e sz S=>obtain⟨v,vs,O,_⟩:=k;simp[ou,O,hc.sl _ _ _ O]
 |oarr e sz S=>obtain⟨v,vs,O,_⟩:=k;simp[ou,O,hc.sl _ _ _ O]
def ObjR.keep{c:Ctx}{w':World}(k:ObjR c w i o)(hc:c.le c')(tj:∀m,c'.sl i m=c.sl i m)(hw:∀b,ou c i o=some b->w'.heap[b]?=w.heap[b]?):ObjR c' w' i o:=by
 cases o with
 |none=>trivial
 |cells xs =>
  obtain⟨b',vs,T,O,U,h3,h4⟩:=k;exact⟨b',vs,T,hc.blk _ _ O,qgt,h3,λj x v hx hv=>⟨(h4 j x v hx hv).1.mono hc,(h4 j x v hx hv).2⟩⟩
 |map es =>
  obtain⟨b',qt,wz,O,U,h3,h4,h5⟩:=k;exact⟨b',qt,wz,hc.blk _ _ O,qgt,h3,λj k x ce hx hv=>⟨(h4 j k x ce hx hv).1.mono hc,(h4 j k x ce hx hv).2.mono hc⟩,h5⟩
 |iter s nk =>
  obtain⟨b',O,U⟩:=k;exact⟨b',hc.blk _ _ O,qgt⟩
 |raw g f xs =>
  obtain⟨O,vs,U,h3,h4⟩:=k;exact⟨hc.blk _ _ O,vs,by rw[hw g qhx,U],h3,λj x v hx hv=>(h4 j x v hx hv).mono hc⟩
 |arr e sz S =>
  obtain⟨v,vs,O,ho,hm,U,h3,h4,h5,h6⟩:=k;refine⟨v,vs,hc.sl _ _ _ O,ho,λm uz=>by rw[tj,hm m uz],⟨U.1,?_⟩,h3,h4,λi' j r x G hx=>?_,λb j hb hj=>(h6 b j hb hj).imp λu Q=>hc.D _ _ _ Q⟩
  .rcases U.2 with hn|⟨g,cap,nu,hv,hg,hh,rest⟩
   .grind
   exact Qan
  exact Qao
 |uarr e sz S =>
  obtain⟨v,vs,O,ho,hm,U,h3,h4,h5⟩:=k;refine⟨v,vs,hc.sl _ _ _ O,ho,λm uz=>by rw[tj,hm m uz],⟨U.1,?_⟩,h3,h4,λi' j r x G hx=>?_⟩
  .rcases U.2 with hn|⟨g,cap,nu,hv,hg,hh,rest⟩
   .grind
   exact Qan
  exact Qao
 |oarr e sz S =>
  obtain⟨v,vs,O,ho,hm,U,h3,h4,h5⟩:=k;refine⟨v,vs,hc.sl _ _ _ O,ho,λm uz=>by rw[tj,hm m uz],⟨U.1,?_⟩,h3,h4,λi' j r x G hx=>?_⟩
  .rcases U.2 with hn|⟨g,cap,nu,hv,hg,hh,rest⟩
   .grind
   exact Qan
  obtain⟨u,Q,hd,si⟩:=h5 i' j r x G hx;exact⟨u,Q,hd.mono hc,si⟩
theorem HSim.ext{c:Ctx}{w':World}(s:HSim c h w)(hw:∀b,b<w.heap.size->w'.heap[b]?=w.heap[b]?)(hc:c.le c')(tj:∀i m,c'.sl i m=c.sl i m)
  (hD:∀b j v,c'.D b j=some v->c.D b j=some v\/(w.heap.size<=b/\w'.cell? ⟨b,j,none⟩=some v))
  (hdom:∀i,h.length<=i->c'.blk i=none/\∀m,c'.sl i m=none):HSim c' h w' where
 data:=λb j v hv=>by
  rcases hD b j v hv with O|O
  .have U:=s.data b j v O;have hb:b<w.heap.size:=World.block_lt_of_cell? w ⟨b,j,none⟩ U;rw[World.cell?_of_block (w:=w) (hw b hb)];exact U
  exact O.2
 dom:=hdom
 obj:=λi o ho=>(s.obj i o ho).keep hc (tj i) λb hb=>hw b ((s.obj i o ho).lt hb)
 apart:=λi j o o' b hi hj hb nl=>by rw[(s.obj i o hi).blk hc]at hb;rw[(s.obj j o' hj).blk hc]at nl;exact s.apart i j o o' b hi hj hb nl
 sep:=λi o b j v hi hb hv=>by
  rw[(s.obj i o hi).blk hc]at hb;rcases hD b j v hv with O|O
  .exact s.sep i o b j v hi hb O
  have:=(s.obj i o hi).lt hb;omega
def Ent.ok.ext'{c:Ctx}{w':World}(k:E.ok c h w)(s:HSim c h w)(hw:∀b,b<w.heap.size->w'.heap[b]?=w.heap[b]?)(hc:c.le c')(hbk:∀n,c'.blk n=c.blk n)
  (gX:w'.os=w.os) (ht:w'.tape=w.tape) (gO:w'.output=w.output) (p6:w.heap.size<=w'.heap.size)
  (hDo:∀b j v,c'.D b j=some v->c.D b j=some v\/w.heap.size<=b\/∃i o,h[i]?=some o/\ou c i o=some b):E.ok c' h w' where
 edom:=k.edom
 ext:=k.ext.trans hc
 blk0:=λn hn=>(hbk n).trans (k.blk0 n hn)
 len:=k.len
 os:=gX.trans k.os
 tape:=ht.trans k.tape
 output:=gO.trans k.output
 size:=jh k.size p6
 frame:=λb hb qz=>(hw b (qiu hb k.size)).trans (k.frame b hb qz)
 newobj:=λi o b hi hb=>by rw[(s.obj i o hi).blk hc]at hb;exact k.newobj i o b hi hb
 dold:=λb j v hD=>by
  rcases hDo b j v hD with h|h|⟨i,o,O,U⟩
  .exact k.dold b j v h
  .exact .inr (.inl (jh k.size h))
  rcases k.newobj i o b O U with⟨i0,o0,g0,g1⟩|g
  .grind
  omega
def Ctx.addBlk(c:Ctx)(n b:Nat):Ctx:={ c with blk:=λi=>if i=n then some b else c.blk i }
def Ctx.addBlk_le{c:Ctx}{n b:Nat}(h:c.blk n=none):c.le (c.addBlk n b) :=
 ⟨λ_ _ _ h=>h,λi b' hb=>by
  simp only[Ctx.addBlk];split
  .grind
  exact hb,λ_ _ _ h=>h⟩
def ve{l:List α}{x y:α}(h:(l++[x])[i]?=some y):l[i]?=some y\/(i=l.length/\y=x):=W
theorem HSim.push{c:Ctx}(s:HSim c h w){b:Nat}(FH:∀i o,h[i]?=some o->ou c i o≠some b)(B0:∀j,c.D b j=none)
  (A6:ObjR (c.addBlk h.length b) w h.length o) (hb:∀b',ou (c.addBlk h.length b) h.length o=some b'->b'=b):HSim (c.addBlk h.length b) (h++[o]) w where
 data:=s.data
 dom:=λi hi=>by simp only[it,jp,ju]at hi;have:=s.dom i J;refine⟨?_,this.2⟩;grind[Ctx.addBlk]
 obj:=λi p hp=>by
  rcases ve hp with O|⟨rfl,rfl⟩
  .exact(s.obj i p O).keep (Ctx.addBlk_le (s.dom _ (gj _)).1) (λ_=>rfl) λ_ _=>rfl
  exact A6
 apart:=λi j p q b' hi hj xl sU=>by
  have nh:=Ctx.addBlk_le (b:=b) (s.dom _ (gj h.length)).1;rcases ve hi with O|⟨rfl,rfl⟩<;>rcases ve hj with U|⟨rfl,rfl⟩
  .rw[(s.obj i p O).blk nh]at xl;rw[(s.obj j q U).blk nh]at sU;exact s.apart i j p q b' O U xl sU
  .rw[(s.obj i p O).blk nh]at xl;grind
  .rw[(s.obj j q U).blk nh]at sU;grind
  rfl
 sep:=λi p b' j v hi xl hD=>by
  have nh:=Ctx.addBlk_le (b:=b) (s.dom _ (gj h.length)).1;rcases ve hi with O|⟨rfl,rfl⟩
  .rw[(s.obj i p O).blk nh]at xl;exact s.sep i p b' j v O xl hD
  have:=hb b' xl;subst this;have v7:c.D b' j=some v:=hD;grind
theorem Ent.ok.push{c:Ctx}(k:E.ok c h w)(s:HSim c h w){b:Nat}(hE:E.w.heap.size<=b)
  (hb:∀b',ou (c.addBlk h.length b) h.length o=some b'->b'=b):E.ok (c.addBlk h.length b) (h++[o]) w where
 edom:=k.edom
 ext:=k.ext.trans (Ctx.addBlk_le (s.dom _ (gj _)).1)
 blk0:=λn hn=>by have:=k.len;simp only[Ctx.addBlk];rw[gg J];exact k.blk0 n hn
 len:=ck
 os:=k.os
 tape:=k.tape
 output:=k.output
 size:=k.size
 frame:=k.frame
 newobj:=λi p b' hi xl=>by
  have nh:=Ctx.addBlk_le (b:=b) (s.dom _ (gj h.length)).1;rcases ve hi with O|⟨rfl,rfl⟩
  .rw[(s.obj i p O).blk nh]at xl;exact k.newobj i p b' O xl
  grind
 dold:=k.dold
theorem HSim.noD{c:Ctx}(s:HSim c h w){b:Nat}(hb:w.heap.size<=b)(j:Nat):c.D b j=none:=by
 cases hD:c.D b j with
 |none=>rfl
 |some v=>have:b<w.heap.size:=World.block_lt_of_cell? w ⟨b,j,none⟩ (s.data b j v hD);omega
def HSim.fresh{c:Ctx}(s:HSim c h w){b:Nat}(hb:w.heap.size<=b):∀i o,h[i]?=some o->ou c i o≠some b:=λi o hi he=>by have:=(s.obj i o hi).lt he;omega
def sV(w:World)(o:Obj):w.heap.size<=(w.alloc o).heap.size:=Z
def Rc{c:Ctx}(s:HSim c h w)(k:E.ok c h w)(T:TypeId)(hl:vs.size=xs.length)
  (G:∀(j:Nat) (x:V) (v:Value),xs[j]?=some x->vs[j]?=some v->Rel c x v/\v.oneCell'=true) :
  ∃c',c.le c'/\HSim c' (h++[.cells xs]) (w.alloc (.cells vs T))/\E.ok c' (h++[.cells xs]) (w.alloc (.cells vs T))/\c'.blk h.length=some w.heap.size:=by
 have hw:∀b,b<w.heap.size->(w.alloc (.cells vs T)).heap[b]?=w.heap[b]?:=λb hb=>jO w _ b hb;have s1:HSim c h (w.alloc (.cells vs T)):=s.ext hw (.refl c) (λ_ _=>rfl) (λ_ _ _ h=>.inl h) s.dom;have k1:E.ok c h (w.alloc (.cells vs T)):=k.ext' s hw (.refl c) (λ_=>rfl) rfl rfl rfl (sV w _) (λ_ _ _ h=>.inl h);have nh:c.le (c.addBlk h.length w.heap.size):=Ctx.addBlk_le (s.dom _ (gj _)).1;have y6:(c.addBlk h.length w.heap.size).blk h.length=some w.heap.size:=dw;have hb:∀b',ou (c.addBlk h.length w.heap.size) h.length (.cells xs)=some b'->b'=w.heap.size:=λb' nl=>by grind[ou,js]
 refine⟨_,nh,s1.push (s.fresh (gj _)) (s.noD (gj _)) ⟨_,vs,T,y6,li w _,hl,λj x v hx hv=>⟨(G j x v hx hv).1.mono nh,(G j x v hx hv).2⟩⟩ hb,k1.push s1 (k.size) hb,y6⟩
def EP{c:Ctx}(s:HSim c h w)(k:E.ok c h w)(vs:Array Value)(T:TypeId) :
  ∃c',c.le c'/\HSim c' h (w.alloc (.cells vs T))/\E.ok c' h (w.alloc (.cells vs T))/\∀(j:Nat) (v:Value),vs[j]?=some v->c'.D w.heap.size j=some v:=by
 have hw:∀b,b<w.heap.size->(w.alloc (.cells vs T)).heap[b]?=w.heap[b]?:=λb hb=>jO w _ b hb
 let c':Ctx:={ c with D:=λb j=>if b=w.heap.size then vs[j]? else c.D b j }
 have nh:c.le c':=⟨λb j v hv=>by
  have nv:b≠w.heap.size:=λe=>by rw[e,s.noD (gj _)]at hv;cases hv
  simp[c',nv,hv],λ_ _ h=>h,λ_ _ _ h=>h⟩
 refine⟨c',nh,s.ext hw nh (λ_ _=>rfl) (λb j v hv=>?_) s.dom,k.ext' s hw nh (λ_=>rfl) rfl rfl rfl (sV w _) (λb j v hv=>by
  by_cases hb:b=w.heap.size
  .omega
  exact .inl (by simpa[c',hb]using hv)),λj v hv=>by simp[c',hv]⟩
 by_cases hb:b=w.heap.size
 .subst hb;simp only[c',iz]at hv
  simp_all
 grind
def XG{c:Ctx}(s:HSim c h w)(k:E.ok c h w)(n:Nat):HSim c h { w with drawn:=n }/\E.ok c h { w with drawn:=n } :=
 ⟨s.ext (w':={ w with drawn:=n }) (λ_ _=>rfl) (.refl c) (λ_ _=>rfl) (λ_ _ _ h=>.inl h) s.dom,k.ext' s (w':={ w with drawn:=n }) (λ_ _=>rfl) (.refl c) (λ_=>rfl) rfl rfl rfl (gj _) (λ_ _ _ h=>.inl h)⟩
def tk{l:List α}{j:Nat}{x y:α}(h:(l.set i x)[j]?=some y):(j=i/\y=x)\/(j≠i/\l[j]?=some y):=W
def Oa{c:Ctx}(s:HSim c h w)(k:E.ok c h w){b:Nat}{nD:List V}{vs':Array Value}{T:TypeId}
  (hi:h[i]?=some (.cells xs)) (hb:c.blk i=some b) (hh:w.heap[b]?=some (.cells vs T (0,0))) (hl:vs'.size=nD.length)
  (G:∀(j:Nat) (x:V) (v:Value),nD[j]?=some x->vs'[j]?=some v->Rel c x v/\v.oneCell'=true) :
  HSim c (h.set i (.cells nD)) (w.setRow b vs')/\E.ok c (h.set i (.cells nD)) (w.setRow b vs'):=by
 have vh:∀g,g≠b->(w.setRow b vs').heap[g]?=w.heap[g]?:=λg hg=>qje w b g vs' hg;have y8:ou c i (.cells xs)=some b:=hb;have hsize:(w.setRow b vs').heap.size=w.heap.size:=Z;have vn:∀j o b',(h.set i (.cells nD))[j]?=some o->ou c j o=some b'->∃o0,h[j]?=some o0/\ou c j o0=some b':=λj o b' hj nl=>by
  rcases tk hj with⟨rfl,rfl⟩|⟨nv,O⟩
  .exact⟨_,hi,nl⟩
  grind
 constructor
 .refine⟨λg j v hD=>?_,λj hj=>s.dom j W,λj o hj=>?_,λj j' o o' b' hj uq qd rh=>?_,λj o b' m v hj qd hD=>?_⟩
  .have hg:g≠b:=λe=>by
    exact Qap
   exact Qaq
  .rcases tk hj with⟨rfl,rfl⟩|⟨nv,O⟩
   .exact⟨b,vs',T,hb,qi1 w b vs vs' T (0,0) hh,hl,G⟩
   exact Qar
  .exact Qas
  rcases tk hj with⟨rfl,rfl⟩|⟨nv,O⟩
  .have:=s.sep j (.cells xs) b' m v hi qd hD;exact this
  exact s.sep j o b' m v O qd hD
 refine⟨k.edom,k.ext,k.blk0,bu,k.os,k.tape,k.output,qgm,λg hg qz=>?_,λj o b' hj qd=>?_,k.dold⟩
 .have nv:g≠b:=λe=>by
   subst e;rcases k.newobj i _ g hi y8 with⟨i0,o0,L,O⟩|U
   .grind
   omega
  exact Qat
 exact Qau
end
section
mutual
def V.norm(h:mz):V->V
 | .nils=>.slice []
 | .own i n=>match h[i]? with
  |some (.arr _ _ S)=>if S.length=n then .slice S else .own i n
  |_=>.own i n
 | .agg xs=>.agg (qu h xs)
 | .tuple xs=>.tuple (qu h xs)
 | .iface t v=>.iface t (v.norm h)
 | .opt g v=>.opt g v
 | .top=>.top
 | .val v=>.val v
 | .slice r=>.slice r
 | .ptr i o=>.ptr i o
 | .eptr c=>.eptr c
 | .lit c=>.lit c
 | .cap r=>.slice r
 | .mapr i=>.mapr i
 | .fn f a b=>.fn f a b
 | .optr i n sz r q=>.optr i n sz r q
def qu(h:mz):List V->List V
 | []=>[]
 |x::xs=>x.norm h::qu h xs
end
section
variable{h:mz}{w:World}{v:Value}
theorem pP(h:mz):∀xs,qu h xs=xs.map (V.norm h)
 | []=>rfl
 |x::xs=>by simp[qu,pP h xs]
def Ctx.share(c:Ctx)(_:mz)(_:World):Ctx:=c
def BA(c:Ctx)(h:mz)(w:World):c.le (c.share h w):=.refl c
def BE{E:Ent}{c:Ctx}(s:HSim c h w)(k:E.ok c h w):HSim (c.share h w) h w/\E.ok (c.share h w) h w:=⟨s,k⟩
def XH{c:Ctx}(s:HSim c h w){i:Nat}{e sz:Nat}{S:List (List V)}(hi:h[i]?=some (.arr e sz S))(hv:c.sl i S.length=some v) :
  DRel (c.share h w).D (.slice S) v:=by
 obtain⟨v',vs,O,ho,_,U,h3,h4,h5,h6⟩:=s.obj i _ hi;rw[hv]at O;cases O;rcases U.2 with⟨rfl,hn⟩|⟨g,cap,nu,rfl,hg,hh,uh,r9,su,eS⟩
 .have:S=[]:=ko hn;subst this;exact .nil
 have s6:∀(i' j:Nat) (r:List V) (x:V),S[i']?=some r->r[j]?=some x->∃u,vs[i' * sz+j]?=some u/\DRel c.D x u/\(c.share h w).D g (0+i' * sz+j)=some u:=by intro i' j r x G hx;obtain⟨u,Q,hd⟩:=h5 i' j r x G hx;have u3:=h4 r (gw G);have hj:j<sz:=W;have qj:i'<S.length:=(gn.1 G).1;have ni:i' * sz+j<S.length * sz:=W;refine⟨u,Q,hd,?_⟩;rw[im];obtain⟨u',gJ⟩:=h6 g (i' * sz+j) rfl ni;have hw:=s.data _ _ _ gJ;rw[cell_of_row w g _ nu e (0,0) hh]at hw;rw[<-eS,jo,gh ni]at Q;have:u'=u:=W;rw[<-this];exact gJ
 exact .slice S g 0 cap sz (λi' j=>(vs[i' * sz+j]?).getD undef) h4 h3 uh (λi' j r x G hx=>by
  obtain⟨u,Q,hd,hD⟩:=s6 i' j r x G hx;rw[Q];exact hD) λi' j r x G hx=>by
  obtain⟨u,Q,hd,hD⟩:=s6 i' j r x G hx;rw[Q];exact hd.mono (BA c h w).D
def rQ{c:Ctx}(s:HSim c h w){x:V}(G:Rel c x v):Rel (c.share h w) (x.norm h) v:=by
 have nh:=BA c h w
 induction G with
 |data hd =>
  cases hd with
  |val _ _ hs=>exact Rel.val _ hs
  |nil=>exact .data .nil
  |empty a=>exact .data (.empty a)
  |slice S b off cap sz g p6 hB hc hD hh=>exact(Rel.data (.slice S b off cap sz g p6 hB hc hD hh)).mono nh
 |top v=>exact .top v
 |val v hs=>exact .val v hs
 |nils=>exact .data .nil
 |agg xs vs hl ho h ih =>
  simp only[V.norm,pP];refine .agg _ vs fl ho λj x v hx hv=>?_;exact Qav
 |tuple xs vs hl h ih =>
  simp only[V.norm,pP];refine .tuple _ vs fl λj x v hx hv=>?_;exact Qav
 |ptr i off b h=>exact .ptr i off b h
 |eptr cells b o g hD h=>exact(Rel.eptr cells b o g hD h).mono nh
 |lit cells b o cap g hD h ho=>exact(Rel.lit cells b o cap g hD h ho).mono nh
 |cap S a n h=>exact .data (h.mono nh.D)
 |mapr i b h=>exact .mapr i b h
 |fn f ys xs us vs w6 hl Y h ih' ih=>exact(Rel.fn f ys xs us vs w6 hl Y h).mono nh
 |iface t x v h ih=>exact .iface t _ v ih
 |own i n v hv ho =>
  simp only[V.norm];split
  .rename_i e sz S hi;split
   .rename_i hn;subst hn;exact .data (XH s hi hv)
   exact(Rel.own i n v hv ho).mono nh
  exact(Rel.own i n v hv ho).mono nh
 |opt g x v h hn ih=>exact(Rel.opt g x v h hn).mono nh
 |optr i n sz r q b o len cap h=>exact .optr i n sz r q b o len cap h
end
end
inductive TK where
 |other
 |bool
 |int (k:IntKind)
 |string
 |struct (fs:List (Nat×Nat))
 |array (n e sz:Nat)
 |slice (e sz:Nat)
 |map (k e:Nat)
 |iface
 |ptr
 |func
structure TI where
 size:Nat
 bytes:Nat
 zero:List V
 kind:TK
def u9(P:Program):TypeDesc->TK
 | .bool=>.bool
 | .int k=>.int k
 | .string=>.string
 | .struct fs=>if fs.toList.all λf=>(P.info? f.type).isSome then .struct (fs.toList.map λf=>(f.offset,P.cellsOf f.type))else .other
 | .array n e=>if (P.info? e).isSome then .array n e (P.cellsOf e)else .other
 | .slice e=>if (P.info? e).isSome then .slice e (P.cellsOf e)else .other
 | .map k e=>.map k e
 | .interface _=>.iface
 | .pointer _=>.ptr
 | .func _ _ _=>.func
 |_=>.other
def ti(P:Program)(t:TypeId):Option TI :=
 match P.info? t,P.underlying t with
 |some i,some d=>match i.zero with
  |some hI=>if hI.cells.size=i.size/\hI.cells.toList.all (·.oneCell')=true then some ⟨i.size,i.bytes,hI.cells.toList.map bD,u9 P d⟩else none
  |none=>none
 |_,_=>none
theorem HS{P:Program}{t:TypeId}{x:TI}(h:ti P t=some x) :
  ∃i d hI,P.info? t=some i/\P.underlying t=some d/\i.zero=some hI/\x=⟨i.size,i.bytes,hI.cells.toList.map bD,u9 P d⟩/\hI.cells.size=i.size/\∀v,v∈hI.cells.toList->v.oneCell'=true:=by
 grind[ti]
def TK.agg:TK->Bool
 | .struct _| .array ..=>true
 |_=>false
def nj(P:Program)(t:TypeId):TK:=match ti P t with|some x=>x.kind|none=>.other
def oh(P:Program)(t:TypeId):Nat:=match ti P t with|some x=>x.size|none=>0
def o8(P:Program)(t:TypeId):List V:=match ti P t with|some x=>x.zero|none=>[]
structure SV where
 side:Prop
 val:V
def SV.no:SV:=⟨False,.top⟩
def FZ(op:BinOp)(k:IntKind)(a b:Int):SV :=
 match op with
 | .add=>⟨True,.val (.int k (k.wrap (a+b)))⟩
 | .sub=>⟨True,.val (.int k (k.wrap (a - b)))⟩
 | .mul=>⟨True,.val (.int k (k.wrap (a * b)))⟩
 | .quo=>⟨b≠0,.val (.int k (k.wrap (a.tdiv b)))⟩
 | .rem=>⟨b≠0,.val (.int k (a.tmod b))⟩
 | .eql=>⟨True,.val (.bool (decide (a=b)))⟩
 | .neq=>⟨True,.val (.bool (!decide (a=b)))⟩
 | .lss=>⟨True,.val (.bool (decide (a<b)))⟩
 | .leq=>⟨True,.val (.bool (decide (a<=b)))⟩
 | .gtr=>⟨True,.val (.bool (decide (b<a)))⟩
 | .geq=>⟨True,.val (.bool (decide (b<=a)))⟩
 | .and=>⟨True,.val (.int k (k.wrap (BitVec.ofInt k.bits a &&& BitVec.ofInt k.bits b).toNat))⟩
 | .or=>⟨True,.val (.int k (k.wrap (BitVec.ofInt k.bits a ||| BitVec.ofInt k.bits b).toNat))⟩
 | .xor=>⟨True,.val (.int k (k.wrap (BitVec.ofInt k.bits a ^^^ BitVec.ofInt k.bits b).toNat))⟩
 | .andNot=>⟨True,.val (.int k (k.wrap (BitVec.ofInt k.bits a &&& ~~~ BitVec.ofInt k.bits b).toNat))⟩
 |_=>.no
def px(a b:ByteArray):Bool:=Op.bytesLess a.toList b.toList
def KI(op:BinOp)(a b:ByteArray):SV :=
 match op with
 | .add=>⟨a.size+b.size<=68719476736,.val (.string (a++b))⟩
 | .eql=>⟨True,.val (.bool (decide (a=b)))⟩
 | .neq=>⟨True,.val (.bool (!decide (a=b)))⟩
 | .lss=>⟨True,.val (.bool (px a b))⟩
 | .leq=>⟨True,.val (.bool (px a b||decide (a=b)))⟩
 | .gtr=>⟨True,.val (.bool (!(px a b||decide (a=b))))⟩
 | .geq=>⟨True,.val (.bool (!(px a b)))⟩
 |_=>.no
def CY(g:TypeId->Option (List TK))(P:Program):Nat->List Field->Option (List TK)
 |_,[]=>some []
 |off,f::fs =>
  if f.name≠ "_"/\f.offset=off then
   match g f.type with
   |some ks=>if ks.length=P.cellsOf f.type then(CY g P (off+ks.length) fs).map (ks++·)else none
   |none=>none
  else none
def mP(P:Program):Nat->TypeId->Option (List TK)
 | 0,_=>none
 |d+1,t =>
  match P.underlying t with
  |some .bool=>some [.bool]
  |some (.int k)=>some [.int k]
  |some .string=>some [.string]
  |some (.struct fs)=>if P.stoodInHeld t=true then none else CY (mP P d) P 0 fs.toList
  |_=>none
def jS(P:Program)(t:TypeId):List TK :=
 if P.eqGuardType P.depth t=false/\(nj P t).agg=true then(mP P 8 t).getD []else []
def iL:List TK->List V->Prop
 | [],[]=>True
 | .bool::ks,.val (.bool _)::xs=>iL ks xs
 | .int k::ks,.val (.int k' _)::xs=>k'=k/\iL ks xs
 | .string::ks,.val (.string _)::xs=>iL ks xs
 |_,_=>False
def rZ:List V->List V->Bool
 | [],[]=>true
 | .val (.bool a)::xs,.val (.bool b)::ys=>decide (a=b)&&rZ xs ys
 | .val (.int _ a)::xs,.val (.int _ b)::ys=>decide (a=b)&&rZ xs ys
 | .val (.string a)::xs,.val (.string b)::ys=>decide (a=b)&&rZ xs ys
 |_,_=>false
def Ew(P:Program)(t:TypeId):Bool :=
 match P.underlying t with
 |some (.interface ms)=>ms.isEmpty
 |_=>false
def ET(P:Program)(op:BinOp)(T:TypeId)(x y:V):SV :=
 match x,y with
 | .val (.int k a),.val (.int k' b) =>
  match op with
  | .shl=>⟨0<=b,.val (.int k (k.wrap (a * 2 ^ (min b.toNat k.bits))))⟩
  | .shr=>⟨0<=b,.val (.int k (a.fdiv (2 ^ (min b.toNat k.bits))))⟩
  |op=>⟨k=k'/\(FZ op k a b).side,(FZ op k a b).val⟩
 | .val (.string a),.val (.string b)=>KI op a b
 | .val (.bool a),.val (.bool b) =>
  match op with
  | .eql=>⟨nj P T=.bool,.val (.bool (decide (a=b)))⟩
  | .neq=>⟨nj P T=.bool,.val (.bool (!decide (a=b)))⟩
  |_=>.no
 | .agg xs,.agg ys =>
  match op with
  | .eql=>⟨jS P T≠[]/\iL (jS P T) xs/\iL (jS P T) ys,.val (.bool (rZ xs ys))⟩
  | .neq=>⟨jS P T≠[]/\iL (jS P T) xs/\iL (jS P T) ys,.val (.bool (!rZ xs ys))⟩
  |_=>.no
 | .iface _ _,.val .nilIface =>
  match op with
  | .eql=>⟨nj P T=.iface,.val (.bool false)⟩
  | .neq=>⟨nj P T=.iface,.val (.bool true)⟩
  |_=>.no
 | .val .nilIface,.val .nilIface =>
  match op with
  | .eql=>⟨Ew P T=true,.val (.bool true)⟩
  | .neq=>⟨Ew P T=true,.val (.bool false)⟩
  |_=>.no
 |_,_=>.no
def kK(s:Nat)(agg:Bool)(cells:List V):SV :=
 match agg with
 |true=>⟨s<=cells.length,.agg (cells.take s)⟩
 |false=>⟨0<cells.length,cells.getD 0 .top⟩
def zS(P:Program)(t:TypeId)(a:V)(h:mz):SV :=
 match a with
 | .ptr i off=>match h[i]? with
  |some (.cells xs)=>⟨(kK (oh P t) (nj P t).agg (xs.drop off)).side/\nj P t≠.other,(kK (oh P t) (nj P t).agg (xs.drop off)).val⟩
  |_=>.no
 | .eptr cells=>⟨(kK (oh P t) (nj P t).agg cells).side/\nj P t≠.other,(kK (oh P t) (nj P t).agg cells).val⟩
 | .optr i n sz r q=>match h[i]? with
  |some (.uarr _ rr S)=>⟨S.length=n/\rr=sz/\r<S.length/\(kK (oh P t) (nj P t).agg ((S.getD r []).drop q)).side/\nj P t≠.other,(kK (oh P t) (nj P t).agg ((S.getD r []).drop q)).val⟩
  |some (.oarr _ rr S)=>⟨S.length=n/\rr=sz/\r<S.length/\(kK (oh P t) (nj P t).agg ((S.getD r []).drop q)).side/\nj P t≠.other,(kK (oh P t) (nj P t).agg ((S.getD r []).drop q)).val⟩
  |_=>.no
 |_=>.no
def CZ(P:Program)(s f:Nat):Option (Nat×Nat) :=
 match nj P s with
 | .struct fs=>match fs[f]? with
  |some (o,n)=>if n=0 then none else some (o,n)
  |none=>none
 |_=>none
def V.cells:V->List V
 | .agg xs=>xs
 |y=>[y]
def V.one:V->Bool
 | .val v=>v.oneCell'
 | .nils| .slice _| .ptr .. | .eptr _| .mapr _| .fn .. | .iface .. | .own .. | .optr .. | .cap _=>true
 |_=>false
def V.cellsOk:V->Bool
 | .agg _=>true
 |y=>y.one
def AJ(fs:List (Nat×Nat)):List (Nat×V)->List V->Option (List V)
 | [],cells=>some cells
 |(i,x)::rest,cells =>
  match fs[i]? with
  |some (o,n)=>if x.cellsOk=true/\x.cells.length=n/\o+n<=cells.length then AJ fs rest (cells.take o++x.cells++cells.drop (o+n))else none
  |none=>none
def sY(P:Program)(t:TypeId):List (Nat×Nat) :=
 match nj P t with
 | .struct fs=>fs
 | .array n _ sz=>(List.range n).map λi=>(i * sz,sz)
 |_=>[]
def EA(s:ByteArray)(n:Int):UInt8:=s.data.toList.getD n.toNat 0
def Ab(P:Program)(T:TypeId)(x i:V)(h:mz):SV :=
 match nj P T,x,i with
 | .slice _ sz,.slice S,.val (.int _ n)=>⟨0<=n/\n.toNat<S.length/\(S.getD n.toNat []).length=sz/\0<sz,.eptr (S.getD n.toNat [])⟩
 | .array len _ sz,.ptr o off,.val (.int _ n)=>⟨0<=n/\n.toNat<len/\0<sz,.ptr o (off+n.toNat * sz)⟩
 | .array len _ sz,.eptr cells,.val (.int _ n)=>⟨0<=n/\n.toNat<len/\0<sz,.eptr (cells.drop (n.toNat * sz))⟩
 | .array len _ sz,.optr o m rr r q,.val (.int _ n)=>⟨0<=n/\n.toNat<len/\0<sz,.optr o m rr r (q+n.toNat * sz)⟩
 | .slice _ sz,.own o m,.val (.int _ n)=>match h[o]? with
  |some (.uarr _ rr S)=>⟨S.length=m/\rr=sz/\0<=n/\n.toNat<S.length/\0<sz,.optr o m sz n.toNat 0⟩
  |some (.oarr _ rr S)=>⟨S.length=m/\rr=sz/\0<=n/\n.toNat<S.length/\0<sz,.optr o m sz n.toNat 0⟩
  |_=>.no
 |_,_,_=>.no
def Eh(P:Program)(T:TypeId)(x i:V):SV :=
 match nj P T,x,i with
 | .string,.val (.string s),.val (.int _ n)=>⟨0<=n/\n.toNat<s.size,.val (.int .u8 (EA s n).toNat)⟩
 | .array len e sz,.agg cs,.val (.int _ n)=>⟨0<=n/\n.toNat<len/\n.toNat<cs.length/\sz=1/\nj P e≠.other/\(nj P e).agg=false,cs.getD n.toNat .top⟩
 |_,_,_=>.no
def zX(P:Program)(T:TypeId)(x:V)(h:mz):SV :=
 match nj P T,x with
 | .slice ..,.slice S=>⟨True,.val (.int .i64 S.length)⟩
 | .slice ..,.nils=>⟨True,.val (.int .i64 0)⟩
 | .slice ..,.own o m=>match h[o]? with
  |some (.uarr _ _ S)=>⟨S.length=m,.val (.int .i64 S.length)⟩
  |some (.oarr _ _ S)=>⟨S.length=m,.val (.int .i64 S.length)⟩
  |_=>.no
 | .string,.val (.string s)=>⟨True,.val (.int .i64 s.size)⟩
 | .array n _ _,_=>⟨True,.val (.int .i64 n)⟩
 | .map ..,.mapr i=>match h[i]? with
  |some (.map es)=>⟨True,.val (.int .i64 es.length)⟩
  |_=>.no
 |_,_=>.no
def BF(d:Int):Option V->Option Int
 |none=>some d
 |some (.val (.int _ n))=>some n
 |some _=>none
def RowsLen(sz:Nat)(S:List (List V)):Prop:=∀r,r∈S->r.length=sz
def Eu(P:Program)(T:TypeId)(x hi mx:V):SV :=
 match mx,hi with
 | .val (.int _ k),.val (.int _ h) =>
  match nj P T,x with
  | .slice ..,.slice S=>⟨0<=h/\h<=S.length/\k=h,.cap (S.take h.toNat)⟩
  |_,_=>.no
 |_,_=>.no
def DZ(P:Program)(T:TypeId)(x:V)(lo hi mx:Option V):SV :=
 match mx with
 |some m =>
  match lo,hi with
  |none,some h=>Eu P T x h m
  |_,_=>.no
 |none =>
  match nj P T,x with
  | .slice _ sz,.slice S =>
   match BF 0 lo,BF S.length hi with
   |some l,some h=>⟨0<=l/\l<=h/\h<=S.length/\RowsLen sz S,.slice ((S.take h.toNat).drop l.toNat)⟩
   |_,_=>.no
  | .string,.val (.string s) =>
   match BF 0 lo,BF s.size hi with
   |some l,some h=>⟨0<=l/\l<=h/\h<=s.size,.val (.string (s.extract l.toNat h.toNat))⟩
   |_,_=>.no
  |_,_=>.no
def yY:List (V×V)->Option (List (ByteArray×V))
 | []=>some []
 |(.val (.string s),v)::l=>(yY l).map ((s,v)::·)
 |_=>none
def yf(l:List (ByteArray×V)):List (V×V):=l.map λp=>(.val (.string p.1),p.2)
def wH:List (ByteArray×V)->ByteArray->Option V
 | [],_=>none
 |p::l,s=>if p.1=s then some p.2 else wH l s
def wT:List (ByteArray×V)->ByteArray->V->List (ByteArray×V)
 | [],s,v=>[(s,v)]
 |p::l,s,v=>if p.1=s then(s,v)::l else p::wT l s v
def Au:List (ByteArray×V)->ByteArray->List (ByteArray×V)
 | [],_=>[]
 |p::l,s=>if p.1=s then l else p::Au l s
def xO(P:Program)(e:TypeId):Option V :=
 match P.info? e with
 |some i=>match i.zero with
  |some (.agg vs)=>if vs.toList.all (·.oneCell')=true then some (.agg (vs.toList.map bD))else none
  |some hI=>some (bD hI)
  |none=>none
 |none=>none
def zC(P:Program)(T:TypeId)(x i:V)(ok:Bool)(h:mz):SV :=
 match nj P T,x,i with
 | .map k e,.mapr o,.val (.string s)=>match h[o]? with
  |some (.map es)=>match yY es,xO P e with
   |some l,some hI=>⟨nj P k=.string,match ok with
    |true=>.tuple [(wH l s).getD hI,.val (.bool (wH l s).isSome)]
    |false=>(wH l s).getD hI⟩
   |_,_=>.no
  |_=>.no
 |_,_,_=>.no
def C2(x y:V):SV :=
 match x,y with
 | .val (.int k a),.val (.int k' b)=>⟨k=k',.val (.int k (if b<a then b else a))⟩
 |_,_=>.no
def DG(x y hI:V):SV :=
 match x,y,hI with
 | .val (.int k a),.val (.int k' b),.val (.int k2 c)=>⟨k=k'/\k=k2,.val (.int k (if c<(if b<a then b else a)then c else(if b<a then b else a)))⟩
 |_,_,_=>.no
def EH(x y:V):SV :=
 match x,y with
 | .val (.int k a),.val (.int k' b)=>⟨k=k',.val (.int k (if a<b then b else a))⟩
 |_,_=>.no
def Ic(P:Program)(src:TypeId):Prop:=match nj P src with| .slice e sz=>sz=1/\nj P e=.int .u8|_=>False
def DT(P:Program)(src dst:TypeId)(x:V):SV :=
 match nj P dst,x with
 | .int k,.val (.int _ n)=>⟨nj P src≠.other,.val (.int k (k.wrap n))⟩
 | .string,.val (.string s)=>⟨nj P src≠.other,.val (.string s)⟩
 | .string,.slice [[.val (.int .u8 n)]]=>⟨Ic P src,.val (.string ⟨#[UInt8.ofNat n.toNat]⟩)⟩
 |_,_=>.no
def Eo(P:Program)(dst:TypeId)(ok:Bool)(x:V):SV :=
 match x,ok with
 | .iface t v,true=>match t == dst with
  |true=>⟨nj P dst≠.iface/\nj P dst≠.other,.tuple [v,.val (.bool true)]⟩
  |false=>match xO P dst with
   |some hI=>⟨nj P dst≠.iface/\nj P dst≠.other,.tuple [hI,.val (.bool false)]⟩
   |none=>.no
 | .iface t v,false=>⟨t=dst/\nj P dst≠.iface/\nj P dst≠.other,v⟩
 | .val .nilIface,true=>match xO P dst with
  |some hI=>⟨nj P dst≠.iface/\nj P dst≠.other,.tuple [hI,.val (.bool false)]⟩
  |none=>.no
 |_,_=>.no
def So(P:Program)(s f:Nat):Option (Nat×TypeId) :=
 match P.underlying s with
 |some (.struct fs)=>(fs[f]?).map λd=>(d.offset,d.type)
 |_=>none
def wx(P:Program)(g:Operand->V)(h:mz):Op->SV
 | .move x| .assign x=>⟨True,g x⟩
 | .build t parts =>
  match AJ (sY P t) (parts.toList.map λp=>(p.1,g p.2)) (o8 P t)with
  |some cells=>⟨(nj P t).agg=true,.agg cells⟩
  |none=>.no
 | .load t a=>zS P t (g a) h
 | .nilCheck x =>
  match g x with
  | .ptr i o=>⟨True,.ptr i o⟩
  | .eptr c=>⟨True,.eptr c⟩
  | .optr i n sz r q=>⟨True,.optr i n sz r q⟩
  | .fn (.func f) a c=>⟨True,.fn (.func f) a c⟩
  |_=>.no
 | .binOp op T x y _=>ET P op T (g x) (g y)
 | .unOp .not _ x=>match g x with
  | .val (.bool b)=>⟨True,.val (.bool (!b))⟩
  |_=>.no
 | .unOp .neg _ x=>match g x with
  | .val (.int k n)=>⟨True,.val (.int k (k.wrap (0 - n)))⟩
  |_=>.no
 | .convert src dst x=>DT P src dst (g x)
 | .makeInterface T x=>⟨nj P T≠.iface/\nj P T≠.other,.iface T (g x)⟩
 | .makeFunc f first pk=>⟨True,.fn f (first.toList.map g) (pk.toList.map g)⟩
 | .fieldAddr s x f =>
  match CZ P s f,g x with
  |some (o,_),.ptr i off=>⟨True,.ptr i (off+o)⟩
  |some (o,_),.eptr cells=>⟨True,.eptr (cells.drop o)⟩
  |some (o,_),.optr i n sz r q=>⟨True,.optr i n sz r (q+o)⟩
  |_,_=>.no
 | .indexAddr T x i=>Ab P T ((g x).norm h) (g i) h
 | .field s x f =>
  match So P s f,g x with
  |some (o,t),.agg cs=>⟨o<cs.length/\nj P t≠.other/\(nj P t).agg=false,cs.getD o .top⟩
  |_,_=>.no
 | .index T x i=>Eh P T (g x) (g i)
 | .lookup T x i ok=>zC P T (g x) (g i) ok h
 | .typeAssert x _ dst ok=>Eo P dst ok (g x)
 | .extract x n =>
  match g x with
  | .tuple vs=>⟨n<vs.length,vs.getD n .top⟩
  |_=>.no
 | .slice T x lo hi mx=>DZ P T ((g x).norm h) (lo.map g) (hi.map g) (mx.map g)
 | .call { callee:=.builtin .len,args,argTypes }=>match args.toList,argTypes.toList with
  | [x],[T]=>zX P T ((g x).norm h) h
  |_,_=>.no
 | .call { callee:=.builtin .min,args,.. }=>match args.toList with
  | [x,y]=>C2 (g x) (g y)
  | [x,y,hI]=>DG (g x) (g y) (g hI)
  |_=>.no
 | .call { callee:=.builtin .max,args,.. }=>match args.toList with
  | [x,y]=>EH (g x) (g y)
  |_=>.no
 |_=>.no
def uu:List TK->List Value->Prop
 | [],[]=>True
 | .bool::ks,.bool _::xs=>uu ks xs
 | .int k::ks,.int k' _::xs=>k'=k/\uu ks xs
 | .string::ks,.string _::xs=>uu ks xs
 |_,_=>False
def eV:List Value->List Value->Bool
 | [],[]=>true
 | .bool a::xs,.bool b::ys=>decide (a=b)&&eV xs ys
 | .int _ a::xs,.int _ b::ys=>decide (a=b)&&eV xs ys
 | .string a::xs,.string b::ys=>decide (a=b)&&eV xs ys
 |_,_=>false
def nQ(P:Program)(t:TypeId)(cs:List Value):Value :=
 match P.underlying t with
 |some (.struct _)=>.agg cs.toArray
 |_=>cs.headD undef
theorem wW:∀{ks:List TK} {xs:List Value},uu ks xs->xs.length=ks.length
 | [],[],_=>rfl
 | [],_::_,h=>by simp[uu]at h
 |k::ks,[],h=>by cases k<;>simp[uu]at h
 |k::ks,x::xs,h=>by
  cases k<;>cases x<;>simp only[uu]at h<;>first|(exact h.elim)|skip
  .simp[wW h]
  .simp[wW h.2]
  simp[wW h]
def EE:∀{ks jU:List TK} {l:List Value},uu (ks++jU) l->uu ks (l.take ks.length)/\uu jU (l.drop ks.length)
 | [],jU,l,h=>⟨by simp[uu],ej⟩
 |k::ks,jU,[],h=>by cases k<;>simp[uu]at h
 |k::ks,jU,x::xs,h=>by
  cases k<;>cases x<;>simp only[mb,uu]at h<;>first|(exact h.elim)|skip
  .simpa[uu]using EE h
  .have:=EE h.2;simpa[uu,h.1]using this
  simpa[uu]using EE h
theorem G5:∀{ks:List TK} {a b c d:List Value},uu ks a->uu ks b->eV (a++c) (b++d)=(eV a b&&eV c d)
 | [],a,b,c,d,ha,hb=>by have O:=wW ha;have U:=wW hb;simp at O U;subst O;subst U;simp[eV]
 |k::ks,[],b,c,d,ha,hb=>by cases k<;>simp[uu]at ha
 |k::ks,x::a,[],c,d,ha,hb=>by cases k<;>simp[uu]at hb
 |k::ks,x::a,y::b,c,d,ha,hb=>by
  cases k<;>cases x<;>simp only[uu]at ha<;>first|(exact ha.elim)|skip
  all_goals cases y<;>simp only[uu]at hb<;>first|(exact hb.elim)|skip
  .simp[eV,G5 (c:=c) (d:=d) ha hb,ma]
  .simp[eV,G5 (c:=c) (d:=d) ha.2 hb.2,ma]
  simp[eV,G5 (c:=c) (d:=d) ha hb,ma]
section
variable {P:Program} {w:World}
def Rm(P:Program)(w:World)(n:Nat)(t:TypeId)(ks:List TK):Prop :=
 ∀xs ys:List Value,uu ks xs->uu ks ys->(Op.equalIn n t (nQ P t xs) (nQ P t ys)).run P w=.ok (eV xs ys) w
def PD{d:Nat}{t:TypeId}{ks:List TK}(h:mP P d t=some ks):∃kd,P.underlying t=some kd:=by
 cases d with
 |zero=>simp[mP]at h
 |succ d =>
  unfold mP at h;split at h<;>first|exact⟨_,by assumption⟩|cases h
def Mw{d:Nat}{t:TypeId}{ks:List TK}(h:mP P d t=some ks)(hl:ks.length=P.cellsOf t){xs:Array Value}{off:Nat}(hf:uu ks ((xs.toList.drop off).take ks.length)) :
  (part t xs off).run P w=.ok (nQ P t ((xs.toList.drop off).take ks.length)) w:=by
 obtain⟨kd,Q⟩:=PD h;obtain⟨i,hi⟩:=info_of_underlying Q;have one:∀k,ks=[k]->(∀fs,kd≠.struct fs)->(∀n e,kd≠.array n e)->(part t xs off).run P w=.ok (nQ P t ((xs.toList.drop off).take ks.length)) w:=by
  intro k hk hns hna;subst hk;have oy:=wW hf;have hoff:off<xs.size:=W;have hx:xs[off]?=some xs[off]:=Z;have hm:nQ P t ((xs.toList.drop off).take 1)=xs[off]:=by grind[qiv,nQ]
  simp only[lj,hm];have hagg:(isAgg t).run P w=.ok false w:=by simp only[isAgg,iu,kx Q,iv];cases kd<;>first|(exact(hns _ rfl).elim)|(exact(hna _ _ rfl).elim)|rfl
  simp only[part,iu,hagg,iv,qjf,jg,hx,je]
 cases d with
 |zero=>simp[mP]at h
 |succ d =>
  unfold mP at h;rw[Q]at h;split at h
  .grind
  .grind
  .grind
  .rename_i fs hk;cases hk;have hagg:(isAgg t).run P w=.ok true w:=by
    simp only[isAgg,iu,kx Q,iv];rfl
   have hm:nQ P t ((xs.toList.drop off).take ks.length)=.agg (xs.extract off (off+P.cellsOf t)):=by unfold nQ;rw[Q];simp only[Value.agg.injEq];apply mc;rw[Array.toList_extract,hl];simp[List.extract]
   rw[hm];simp only[part,iu,hagg,iv,iz,run_sizeOf w hi,je]
  cases h
def Nk{n d:Nat}(IH:∀t ks,mP P d t=some ks->Rm P w n t ks):∀(fs:List Field) (off:Nat) (ks:List TK),CY (mP P d) P off fs=some ks ->
  ∀xs ys:Array Value,uu ks (xs.toList.drop off)->uu ks (ys.toList.drop off)->(Op.eqFields n xs ys fs).run P w=.ok (eV (xs.toList.drop off) (ys.toList.drop off)) w
 | [],off,ks,h,xs,ys,hx,hy=>by simp only[CY,js]at h;subst h;have O:=wW hx;have U:=wW hy;have e1:xs.toList.drop off=[]:=qj0.1 J;have e2:ys.toList.drop off=[]:=qj0.1 J;rw[e1,e2];simp[Op.eqFields,eV]
 |f::fs,off,ks,h,xs,ys,hx,hy=>by
  simp only[CY]at h;split at h
  .rename_i hn;obtain⟨aM,rfl⟩:=hn;split at h
   .rename_i k1 hk1;split at h
    .rename_i oy;simp only[iy]at h;obtain⟨k2,vk,rfl⟩:=h;obtain⟨x1,x2⟩:=EE hx;obtain⟨y1,y2⟩:=EE hy;rw[List.drop_drop]at x2 y2;have p1:=Mw (w:=w) hk1 oy x1;have p2:=Mw (w:=w) hk1 oy y1;have p3:=IH f.type k1 hk1 _ _ x1 y1;have p4:=Nk IH fs (f.offset+k1.length) k2 vk xs ys x2 y2;have AL:∀zs:Array Value,zs.toList.drop f.offset=(zs.toList.drop f.offset).take k1.length++zs.toList.drop (f.offset+k1.length):=λzs=>by
      rw[<-List.drop_drop,me]
     rw[AL xs,AL ys,G5 x1 y1];simp only[Op.eqFields,aM,ne_eq,not_false_eq_true,iz,iu,p1,p2,p3,iv];cases eV ((xs.toList.drop f.offset).take k1.length) ((ys.toList.drop f.offset).take k1.length)with
     |false=>simp
     |true=>simpa using p4
    cases h
   cases h
  cases h
def OP:∀(d:Nat) (n:Nat) (t:TypeId) (ks:List TK),mP P d t=some ks->Rm P w (n+d) t ks
 | 0,_,_,_,h=>by simp[mP]at h
 |d+1,n,t,ks,h=>by
  intro xs ys hx hy;unfold mP at h;obtain⟨kd,Q⟩:∃kd,P.underlying t=some kd:=W;rw[Q]at h;have one:∀k,ks=[k]->∃x y,xs=[x]/\ys=[y]:=λk hk=>by subst hk;exact⟨_,_,(List.length_eq_one_iff.1 (wW hx)).choose_spec,(List.length_eq_one_iff.1 (wW hy)).choose_spec⟩
  split at h
  .rename_i hk;cases hk;cases h;obtain⟨x,y,rfl,rfl⟩:=one _ rfl;cases x<;>simp only[uu]at hx;cases y<;>simp only[uu]at hy;rename_i a b;simp only[nQ,Q,List.headD_cons,eV,kg];rw[show n+(d+1)=(n+d)+1 from rfl,run_equalIn_bool w (n+d) t a b Q];cases a<;>cases b<;>rfl
  .rename_i k hk;cases hk;cases h;obtain⟨x,y,rfl,rfl⟩:=one _ rfl;cases x<;>simp only[uu]at hx;cases y<;>simp only[uu]at hy;rename_i k1 a k2 b;obtain rfl:=hx.1;obtain rfl:=hy.1;simp only[nQ,Q,List.headD_cons,eV,kg];rw[show n+(d+1)=(n+d)+1 from rfl,run_equalIn_int w (n+d) t _ _ a b Q];rfl
  .rename_i hk;cases hk;cases h;obtain⟨x,y,rfl,rfl⟩:=one _ rfl;cases x<;>simp only[uu]at hx;cases y<;>simp only[uu]at hy;rename_i a b;simp only[nQ,Q,List.headD_cons,eV,kg];rw[show n+(d+1)=(n+d)+1 from rfl,run_equalIn_string w (n+d) t a b Q];congr 1;rw[ByteArray.toList_eq,ByteArray.toList_eq];by_cases sW:a=b
   .grind
   have:a.data.toList≠b.data.toList:=λe=>sW (by cases a;cases b;simp at e;simp[e]);rw[beq_eq_false_iff_ne.2 this,decide_eq_false sW]
  .rename_i fs hk;cases hk;split at h
   .cases h
   rename_i r7;have hfs:P.fieldsOf t=fs:=by simp[Program.fieldsOf,Q]
   have:=Nk (n:=n+d) (λt ks h=>OP d n t ks h) fs.toList 0 ks h xs.toArray ys.toArray W W;simp only[nQ,Q];rw[show n+(d+1)=(n+d)+1 from rfl,run_equalIn_struct w (n+d) t _ _ W W,hfs,this];simp
  cases h
end
end Go.Abs
namespace Go.Abs
open Go.MapKept
theorem G4:∀{es:List (V×V)} {l:List (ByteArray×V)},yY es=some l->es=yf l
 | [],l,h=>by simp[yY]at h;subst h;rfl
 |(k,v)::es,l,h=>by
  unfold yY at h;split at h
  .grind
  .rename_i s' v' l' O;cases O;simp only[iy]at h;obtain⟨l2,U,rfl⟩:=h;rw[G4 U];rfl
  cases h
def LG{c:Ctx}{x v:Value}(h:Rel c (.val x) v):v=x:=by
 cases h with
 |data h=>cases h;rfl
 |val=>rfl
def rK{c:Ctx}{x v:Value}(h:Rel c (.val x) v):iU x=true:=by
 cases h with
 |data h=>cases h with|val _ _ hs=>exact hs
 |val _ hs=>exact hs
def zP(c:Ctx)(l:List (ByteArray×V))(qt:List MapEntry):Prop :=
 qt.length=l.length/\∀(j:Nat) (p:ByteArray×V) (ce:MapEntry),l[j]?=some p->qt[j]?=some ce->(ce.key=.string p.1/\iU (.string p.1)=true)/\Rel c p.2 ce.val
def jH:List (ByteArray×V)->ByteArray->Option Nat
 | [],_=>none
 |p::l,s=>if p.1=s then some 0 else(jH l s).map (· + 1)
def Sf:∀{l:List (ByteArray×V)} {s:ByteArray} {j:Nat},jH l s=some j->j<l.length
 | [],_,_,h=>by cases h
 |p::l,s,j,h=>by
  simp only[jH]at h;split at h
  .grind
  simp only[iy]at h;obtain⟨j',h,rfl⟩:=h;have:=Sf h;grind
def JQ:∀{l:List (ByteArray×V)} {s:ByteArray} {j:Nat},jH l s=some j->∃v,l[j]?=some (s,v)
 | [],_,_,h=>by cases h
 |p::l,s,j,h=>by
  simp only[jH]at h;split at h
  .rename_i hp;cases h;exact⟨p.2,by simp[<-hp]⟩
  simp only[iy]at h;obtain⟨j',h,rfl⟩:=h;simpa using JQ h
theorem RU:∀(l:List (ByteArray×V)) (s:ByteArray),wH l s=(jH l s).bind λj=>(l[j]?).map (·.2)
 | [],_=>rfl
 |p::l,s=>by
  simp only[wH,jH];split
  .simp
  rw[RU l s];cases jH l s<;>simp
theorem Qi:∀(l:List (ByteArray×V)) (s:ByteArray) (v:V),wT l s v=match jH l s with|some j=>l.set j (s,v)|none=>l++[(s,v)]
 | [],_,_=>rfl
 |p::l,s,v=>by
  simp only[wT,jH];split
  .rfl
  rw[Qi l s v];grind
theorem LM:∀(l:List (ByteArray×V)) (s:ByteArray),Au l s=match jH l s with|some j=>l.eraseIdx j|none=>l
 | [],_=>rfl
 |p::l,s=>by
  simp only[Au,jH];split
  .rfl
  rw[LM l s];grind
theorem Hf{c:Ctx}(s:ByteArray):∀(l:List (ByteArray×V)) (qt:List MapEntry) (i:Nat),zP c l qt ->
  Instr.findNow .string (.string s) qt i=some ((jH l s).bind λj=>(qt[j]?).map λe=>(i+j,e.val))
 | [],qt,i,h=>by have:=qj0.1 h.1;subst this;rfl
 |p::l,[],i,h=>by have:=h.1;simp at this
 |p::l,ce::qt,i,h=>by
  have L:=(h.2 0 p ce rfl rfl).1.1;have ht:zP c l qt:=⟨by simpa using h.1,λj p ce hp hc=>h.2 (j+1) p ce W W⟩
  simp only[Instr.findNow,L,Instr.sameNow,jH];by_cases hs:p.1=s
  .rw[gh hs];have:(s == p.1)=true:=by rw[hs];exact(bytes_beq _ _).2 rfl
   simp[this]
  rw[gg hs];have:(s == p.1)=false:=by
   cases hb:s == p.1 with
   |false=>rfl
   |true=>exact(hs ((bytes_beq _ _).1 hb).symm).elim
  simp only[this];rw[Hf s l qt (i+1) ht];cases jH l s with
  |none=>rfl
  |some j =>
   grind
section
variable {P:Program} {w:World}
section
variable{e T:TypeId}{v:Value}
def J5{c:Ctx}{l:List (ByteArray×V)}{qt:Array MapEntry}(hl:qt.size=(yf l).length)(h:∀(j:Nat) (k x:V) (ce:MapEntry),(yf l)[j]?=some (k,x)->qt[j]?=some ce->Rel c k ce.key/\Rel c x ce.val):zP c l qt.toList :=
 ⟨by simpa[yf]using hl,λj p ce hp hc=>by have:=h j (.val (.string p.1)) p.2 ce (by simp[yf,hp]) W;exact⟨⟨LG this.1,rK this.1⟩,this.2⟩⟩
def Vx{c:Ctx}{l:List (ByteArray×V)}{qt:Array MapEntry}(h:zP c l qt.toList):qt.size=(yf l).length/\∀(j:Nat) (k x:V) (ce:MapEntry),(yf l)[j]?=some (k,x)->qt[j]?=some ce->Rel c k ce.key/\Rel c x ce.val :=
 ⟨by simpa[yf]using h.1,λj k x ce hk hc=>by simp only[yf,ja,iy,Prod.mk.injEq]at hk;obtain⟨p,hp,rfl,rfl⟩:=hk;obtain⟨O,U⟩:=h.2 j p ce hp W;exact⟨by rw[O.1];exact .val _ O.2,U⟩⟩
def IY{c:Ctx}{hI:V}(h:xO P e=some hI):∃v,(zeroValue e).run P w=.ok v w/\Rel c hI v:=by
 unfold xO at h;split at h
 .rename_i i hi;have pj:∀v,i.zero=some v->(zeroValue e).run P w=.ok v w:=λv hv=>by
   simp only[zeroValue,iu,run_typeInfo w hi,iv,hv];simp
  split at h
  .rename_i vs hz;split at h
   .rename_i tc;cases h;refine⟨_,pj _ hz,.agg _ _ Z (λj v hv=>jk.1 tc v W) λj x v hx hv=>?_⟩;simp only[ja,iy]at hx;grind[Ej]
   cases h
  .rename_i z' _ hz;cases h;exact⟨_,pj _ hz,Ej c _⟩
  cases h
 cases h
def Dt{k:TypeId}(h:nj P T=.map k e):P.underlying T=some (.map k e):=by
 unfold nj at h;cases ht:ti P T with
 |none=>rw[ht]at h;cases h
 |some x =>
  rw[ht]at h;obtain⟨i,d,hI,_,h4,_,rfl,_⟩:=HS ht;rw[h4];simp only at h;cases d<;>simp only[u9]at h<;>first|(split at h<;>cases h)|(cases h;done)|skip
  cases h;rfl
theorem GC(h:nj P T=.string):P.underlying T=some .string:=by
 unfold nj at h;cases ht:ti P T with
 |none=>rw[ht]at h;cases h
 |some x =>
  rw[ht]at h;obtain⟨i,d,hI,_,h4,_,rfl,_⟩:=HS ht;rw[h4];simp only at h;exact Qaw
def Gi{c:Ctx}{i:Nat}(h:Rel c (.mapr i) v):∃b,v=.map (some b)/\c.blk i=some b:=by
 cases h with
 |data h=>cases h
 |mapr i b h=>exact⟨b,rfl,h⟩
theorem Br(s:ByteArray):IsKey .string (.string s):=by simp[IsKey]
def ql7{c:Ctx}{h:mz}(hs:HSim c h w){x i:V}{u:Value}(hx:Rel c x u)(hi:Rel c i v){ok:Bool}(nq:(zC P T x i ok h).side) :
  ∃r,(Instr.lookup T u v ok).run P w=.ok r w/\Rel c (zC P T x i ok h).val r:=by
 unfold zC at nq|-;split at nq
 .rename_i k e o s hk;split at nq
  .rename_i es hes;split at nq
   .rename_i l hI hl hz;simp only[hes,hl,hz];obtain rfl:=G4 hl;obtain⟨b,rfl,hb⟩:=Gi hx;obtain rfl:=LG hi;obtain⟨b',qt,wz,g1,g2,g3,g4,g5⟩:=hs.obj o _ hes;rw[hb]at g1;cases g1;have hE:=J5 g3 g4;have hT:=Dt hk;have hK:=GC nq;obtain⟨zv,hzr,hzrel⟩:=IY (P:=P) (w:=w) (c:=c) hz;have bZ:=run_findKey (P:=P) (w:=w) (kt:=k) hK (Hf s l qt.toList 0 hE);have pj:∃rv:Value×Bool,(Instr.lookup T (.map (some b)) (.string s) ok).run P w=.ok (if ok then .tuple #[rv.1,.bool rv.2]else rv.1) w/\Rel c ((wH l s).getD hI) rv.1/\rv.2=(wH l s).isSome:=by
     rw[RU];cases hj:jH l s with
     |none =>
      rw[hj]at bZ;refine⟨(zv,false),?_,hzrel,rfl⟩;simp only[Instr.lookup,iu,kx hT,iv,run_getObj_map g2,je,run_checkKey hK (Br s),bZ,Option.bind_none,hzr]
     |some j =>
      rw[hj]at bZ;obtain⟨pv,hp⟩:=JQ hj;have ni:j<qt.toList.length:=by rw[hE.1];exact Sf hj
      have hce:qt.toList[j]?=some qt.toList[j]:=ba;refine⟨(qt.toList[j].val,true),?_,?_,by simp[hp]⟩
      .simp only[Instr.lookup,iu,kx hT,iv,run_getObj_map g2,je,run_checkKey hK (Br s),bZ,lw,hce,kn]
      simp only[lw,hp,kn,l6];exact(hE.2 j _ _ hp hce).2
    obtain⟨rv,pj,hr2,qE⟩:=pj;refine⟨_,pj,?_⟩;cases ok with
    |false=>exact hr2
    |true =>
     refine .tuple _ _ Z λj x v hx hv=>?_
     match j with
     | 0=>simp at hx hv;subst hx;subst hv;exact hr2
     | 1=>simp at hx hv;subst hx;subst hv;rw[qE];exact .val _
     |j+2=>simp at hx
   exact nq.elim
  exact nq.elim
 exact nq.elim
end
end
section
variable {P:Program}
section
variable{wz i p:Nat}{E:Ent}{h:mz}{w:World}{T kt et:TypeId}{m:Value}
theorem mapClk.push{qt:Array MapEntry}(h:mapClk qt wz)(k v:Value):mapClk (qt.push ⟨k,v,wz⟩) (wz+1):=by
 refine⟨λe he=>?_,?_⟩
 .rw[Array.toList_push,jj]at he;rcases he with he|he
  .exact Nat.lt_succ_of_lt (h.1 e he)
  grind
 rw[Array.toList_push,List.pairwise_append];refine⟨h.2,Z,λa ha b hb=>?_⟩;rw[jx.1 hb];exact Nat.ne_of_lt (h.1 a ha)
def qm0{a b:List MapEntry}(hb:b.map (·.born)=a.map (·.born))(h:(∀e,e∈a->e.born<wz)/\a.Pairwise λx y=>x.born≠y.born):(∀e,e∈b->e.born<wz)/\b.Pairwise λx y=>x.born≠y.born:=by
 refine⟨λe he=>?_,?_⟩
 .have O:e.born∈a.map (·.born):=by rw[<-hb];exact ig.2 ⟨e,he,rfl⟩
  grind
 have U:(a.map (·.born)).Pairwise (·≠·):=List.pairwise_map.2 h.2
 grind
def mapClk.modify{qt:Array MapEntry}(h:mapClk qt wz)(j:Nat)(k v:Value):mapClk (qt.modify j λe=>{ e with key:=k,val:=v }) wz:=by refine qm0 (a:=qt.toList) (kp λn=>?_) h;rw[ja,ja,kq,kq,Array.getElem?_modify];grind
def mapClk.erase{qt:Array MapEntry}(h:mapClk qt wz)(j:Nat):mapClk (qt.eraseIdxIfInBounds j) wz:=by
 by_cases hj:j<qt.size
 .have hto:(qt.eraseIdxIfInBounds j).toList=qt.toList.eraseIdx j:=by simp[Array.eraseIdxIfInBounds,hj]
  grind[mapClk]
 grind
def FM{c:Ctx}(s:HSim c h w)(k:E.ok c h w){b:Nat}{l l':List (ByteArray×V)}{qt Bp:Array MapEntry}{wG:Nat}
  (hi:h[i]?=some (.map (yf l))) (hb:c.blk i=some b) (hh:w.heap[b]?=some (.map qt wz)) (hE:zP c l' Bp.toList) (hclk:mapClk Bp wG) :
  HSim c (h.set i (.map (yf l'))) { w with heap:=w.heap.setIfInBounds b (.map Bp wG) }/\E.ok c (h.set i (.map (yf l'))) { w with heap:=w.heap.setIfInBounds b (.map Bp wG) }:=by
 have ni:b<w.heap.size:=(qjg.1 hh).1;have vh:∀g,g≠b->({ w with heap:=w.heap.setIfInBounds b (.map Bp wG) }:World).heap[g]?=w.heap[g]?:=λg hg=>(heap_set hh).2 g hg;have y8:ou c i (.map (yf l))=some b:=hb;have hsize:({ w with heap:=w.heap.setIfInBounds b (.map Bp wG) }:World).heap.size=w.heap.size:=Z;have vn:∀j o b',(h.set i (.map (yf l')))[j]?=some o->ou c j o=some b'->∃o0,h[j]?=some o0/\ou c j o0=some b':=λj o b' hj nl=>by
  rcases tk hj with⟨rfl,rfl⟩|⟨nv,O⟩
  .exact⟨_,hi,nl⟩
  grind
 obtain⟨e1,e2⟩:=Vx hE;constructor
 .refine⟨λg j v hD=>?_,λj hj=>s.dom j W,λj o hj=>?_,λj j' o o' b' hj uq qd rh=>?_,λj o b' m v hj qd hD=>?_⟩
  .have hg:g≠b:=λe=>by
    exact Qap
   exact Qaq
  .rcases tk hj with⟨rfl,rfl⟩|⟨nv,O⟩
   .exact⟨b,Bp,wG,hb,(heap_set hh).1,e1,e2,hclk⟩
   exact Qar
  .exact Qas
  rcases tk hj with⟨rfl,rfl⟩|⟨nv,O⟩
  .have:=s.sep j (.map (yf l)) b' m v hi qd hD;exact this
  exact s.sep j o b' m v O qd hD
 refine⟨k.edom,k.ext,k.blk0,bu,k.os,k.tape,k.output,qgm,λg hg qz=>?_,λj o b' hj qd=>?_,k.dold⟩
 .have nv:g≠b:=λe=>by
   subst e;rcases k.newobj i _ g hi y8 with⟨i0,o0,L,O⟩|U
   .grind
   omega
  exact Qat
 exact Qau
def V1{c:Ctx}(s:HSim c h w)(k:E.ok c h w) :
  ∃c',c.le c'/\HSim c' (h++[.map []]) (w.alloc (.map #[] 0))/\E.ok c' (h++[.map []]) (w.alloc (.map #[] 0))/\c'.blk h.length=some w.heap.size:=by
 have hw:∀b,b<w.heap.size->(w.alloc (.map #[] 0)).heap[b]?=w.heap[b]?:=λb hb=>jO w _ b hb;have s1:HSim c h (w.alloc (.map #[] 0)):=s.ext hw (.refl c) (λ_ _=>rfl) (λ_ _ _ h=>.inl h) s.dom;have k1:E.ok c h (w.alloc (.map #[] 0)):=k.ext' s hw (.refl c) (λ_=>rfl) rfl rfl rfl (sV w _) (λ_ _ _ h=>.inl h);have nh:c.le (c.addBlk h.length w.heap.size):=Ctx.addBlk_le (s.dom h.length (gj _)).1;have y6:(c.addBlk h.length w.heap.size).blk h.length=some w.heap.size:=dw;have hb:∀b',ou (c.addBlk h.length w.heap.size) h.length (.map [])=some b'->b'=w.heap.size:=λb' nl=>by grind[ou,js]
 exact⟨_,nh,s1.push (s.fresh (gj _)) (s.noD (gj _)) ⟨_,#[],0,y6,li w _,rfl,λj k x ce hx _=>by simp at hx,by simp[mapClk]⟩ hb,k1.push s1 k.size hb,y6⟩
def Zk{w:World}{T k e:TypeId}(hT:P.underlying T=some (.map k e)):∀(r:Option Value),(∀v,r=some v->∃q n,v=.int q n)->(Instr.makeMap T r).run P w=.ok (.map (some w.heap.size)) (w.alloc (.map #[] 0))
 |none,_=>by simp[Instr.makeMap,Result.andThen,newObj,Sem.run]
 |some v,h=>by obtain⟨q,n,rfl⟩:=h v rfl;simp[Instr.makeMap,kx hT,asInt,asIntOf,Result.andThen]
def qn5{c:Ctx}(s:HSim c h w)(k:E.ok c h w){l:List (ByteArray×V)}{key:ByteArray}{x:V}{v:Value}(hT:nj P T=.map kt et)(hK:nj P kt=.string)
  (hm:Rel c (.mapr i) m) (hx:Rel c x v) (pg:iU (.string key)=true) (hi:h[i]?=some (.map (yf l))) :
  ∃w',(Instr.mapUpdate T m (.string key) v).run P w=.ok () w'/\HSim c (h.set i (.map (yf (wT l key x)))) w'/\E.ok c (h.set i (.map (yf (wT l key x)))) w':=by
 obtain⟨b,rfl,hb⟩:=Gi hm;obtain⟨b',qt,wz,g1,g2,g3,g4,g5⟩:=s.obj i _ hi;rw[hb]at g1;cases g1;have hE:=J5 g3 g4;have hT':=Dt hT;have hK':=GC hK;have bZ:=run_findKey (P:=P) (w:=w) (kt:=kt) hK' (Hf key l qt.toList 0 hE);rw[Qi];cases hj:jH l key with
 |none =>
  rw[hj]at bZ;have eH:zP c (l++[(key,x)]) (qt.push ⟨.string key,v,wz⟩).toList:=by
   refine⟨by simp[hE.1],λj p ce hp hc=>?_⟩;simp only[Array.toList_push]at hc;by_cases ni:j<l.length
   .rw[gu ni]at hp;rw[gu (by rw[hE.1];exact ni)]at hc;exact hE.2 j p ce hp hc
   rw[gz J]at hp;rw[gz (by rw[hE.1];omega),hE.1]at hc;grind
  obtain⟨s',k'⟩:=FM (wG:=wz+1) s k hi hb g2 eH (g5.push _ _);refine⟨_,?_,s',k'⟩;simp only[Instr.mapUpdate,iu,kx hT',iv,run_getObj_map g2,run_checkKey hK' (Br key),bZ,Option.bind_none,run_setObj_map _ g2]
 |some j =>
  rw[hj]at bZ;obtain⟨pv,hp⟩:=JQ hj;have ni:j<qt.size:=qha;have hce:qt.toList[j]?=some qt[j]:=ba;have vX:=(hE.2 j _ _ hp hce).1.1;have eH:zP c (l.set j (key,x)) (qt.modify j λe=>{ e with key:=.string key,val:=v }).toList:=by
   refine⟨by simpa using hE.1,λn p ce rL hc=>?_⟩;have xn:(qt.modify j λe=>{ e with key:=.string key,val:=v })[n]?=some ce:=W;rw[Array.getElem?_modify]at xn;rcases tk rL with⟨rfl,rfl⟩|⟨nv,O⟩
   .grind
   rw[gg (Ne.symm nv)]at xn;exact hE.2 n p ce O W
  obtain⟨s',k'⟩:=FM (wG:=wz) s k hi hb g2 eH (g5.modify _ _ _);refine⟨_,?_,s',k'⟩;have hg:qt[j]?=some qt[j]:=ba;simp only[Instr.mapUpdate,iu,kx hT',iv,run_getObj_map g2,run_checkKey hK' (Br key),bZ,lw,hce,kn,im,hg,l6,vX,run_keyThatStays (Br key),run_setObj_map _ g2]
def Xh{c:Ctx}(s:HSim c h w)(k:E.ok c h w){T' ty:TypeId}{l:List (ByteArray×V)}{key:ByteArray}(hT:nj P T=.map kt et)(hK:nj P kt=.string)
  (hm:Rel c (.mapr i) m) (hi:h[i]?=some (.map (yf l))) :
  ∃w',(Builtin.delete_ #[T,T'] ty #[m,.string key]).run P w=.ok (.tuple #[]) w'/\HSim c (h.set i (.map (yf (Au l key)))) w'/\E.ok c (h.set i (.map (yf (Au l key)))) w':=by
 obtain⟨b,rfl,hb⟩:=Gi hm;obtain⟨b',qt,wz,g1,g2,g3,g4,g5⟩:=s.obj i _ hi;rw[hb]at g1;cases g1;have hE:=J5 g3 g4;have hT':=Dt hT;have hK':=GC hK;have bZ:=run_findKey (P:=P) (w:=w) (kt:=kt) hK' (Hf key l qt.toList 0 hE);rw[LM];cases hj:jH l key with
 |none =>
  rw[hj]at bZ;obtain⟨s',k'⟩:=FM (wG:=wz) s k hi hb g2 hE g5;refine⟨_,?_,s',k'⟩;simp[Builtin.delete_,kx hT',iv,run_getObj_map g2,run_checkKey hK' (Br key),bZ,run_setObj_map _ g2]
 |some j =>
  rw[hj]at bZ;have ni:j<qt.size:=qha;have hce:qt.toList[j]?=some qt[j]:=ba;have eH:zP c (l.eraseIdx j) (qt.eraseIdxIfInBounds j).toList:=by
   have hto:(qt.eraseIdxIfInBounds j).toList=qt.toList.eraseIdx j:=Z;rw[hto];refine⟨by rw[List.length_eraseIdx,List.length_eraseIdx,hE.1],λn p ce hp hc=>?_⟩;rw[List.getElem?_eraseIdx]at hp hc;split at hp
   .rename_i hn;rw[gh hn]at hc;exact hE.2 n p ce hp hc
   rename_i hn;rw[gg hn]at hc;exact hE.2 (n+1) p ce hp hc
  obtain⟨s',k'⟩:=FM (wG:=wz) s k hi hb g2 eH (g5.erase _);refine⟨_,?_,s',k'⟩;have hce':qt[j]?=some qt[j]:=ba;simp[Builtin.delete_,kx hT',iv,run_getObj_map g2,run_checkKey hK' (Br key),bZ,run_setObj_map _ g2,hce']
def VA{c:Ctx}(s:HSim c h w)(k:E.ok c h w){b:Nat}{st:ByteArray}{p':Nat}
  (hi:h[i]?=some (.iter st p)) (hb:c.blk i=some b) (hh:w.heap[b]?=some (.stringIter st p)) :
  HSim c (h.set i (.iter st p')) { w with heap:=w.heap.setIfInBounds b (.stringIter st p') }/\E.ok c (h.set i (.iter st p')) { w with heap:=w.heap.setIfInBounds b (.stringIter st p') }:=by
 have ni:b<w.heap.size:=(qjg.1 hh).1;have vh:∀g,g≠b->({ w with heap:=w.heap.setIfInBounds b (.stringIter st p') }:World).heap[g]?=w.heap[g]?:=λg hg=>(heap_set hh).2 g hg;have y8:ou c i (.iter st p)=some b:=hb;have hsize:({ w with heap:=w.heap.setIfInBounds b (.stringIter st p') }:World).heap.size=w.heap.size:=Z;have vn:∀j o b',(h.set i (.iter st p'))[j]?=some o->ou c j o=some b'->∃o0,h[j]?=some o0/\ou c j o0=some b':=λj o b' hj nl=>by
  rcases tk hj with⟨rfl,rfl⟩|⟨nv,O⟩
  .exact⟨_,hi,nl⟩
  grind
 constructor
 .refine⟨λg j v hD=>?_,λj hj=>s.dom j W,λj o hj=>?_,λj j' o o' b' hj uq qd rh=>?_,λj o b' m v hj qd hD=>?_⟩
  .have hg:g≠b:=λe=>by
    exact Qap
   exact Qaq
  .rcases tk hj with⟨rfl,rfl⟩|⟨nv,O⟩
   .exact⟨b,hb,(heap_set hh).1⟩
   exact Qar
  .exact Qas
  rcases tk hj with⟨rfl,rfl⟩|⟨nv,O⟩
  .have:=s.sep j (.iter st p) b' m v hi qd hD;exact this
  exact s.sep j o b' m v O qd hD
 refine⟨k.edom,k.ext,k.blk0,bu,k.os,k.tape,k.output,qgm,λg hg qz=>?_,λj o b' hj qd=>?_,k.dold⟩
 .have nv:g≠b:=λe=>by
   subst e;rcases k.newobj i _ g hi y8 with⟨i0,o0,L,O⟩|U
   .grind
   omega
  exact Qat
 exact Qau
def Yv{c:Ctx}(s:HSim c h w)(k:E.ok c h w)(st:ByteArray) :
  ∃c',c.le c'/\HSim c' (h++[.iter st 0]) (w.alloc (.stringIter st 0))/\E.ok c' (h++[.iter st 0]) (w.alloc (.stringIter st 0))/\c'.blk h.length=some w.heap.size:=by
 have hw:∀b,b<w.heap.size->(w.alloc (.stringIter st 0)).heap[b]?=w.heap[b]?:=λb hb=>jO w _ b hb;have s1:HSim c h (w.alloc (.stringIter st 0)):=s.ext hw (.refl c) (λ_ _=>rfl) (λ_ _ _ h=>.inl h) s.dom;have k1:E.ok c h (w.alloc (.stringIter st 0)):=k.ext' s hw (.refl c) (λ_=>rfl) rfl rfl rfl (sV w _) (λ_ _ _ h=>.inl h);have nh:c.le (c.addBlk h.length w.heap.size):=Ctx.addBlk_le (s.dom h.length (gj _)).1;have y6:(c.addBlk h.length w.heap.size).blk h.length=some w.heap.size:=dw;have hb:∀b',ou (c.addBlk h.length w.heap.size) h.length (.iter st 0)=some b'->b'=w.heap.size:=λb' nl=>by grind[ou,js]
 exact⟨_,nh,s1.push (s.fresh (gj _)) (s.noD (gj _)) ⟨_,y6,li w _⟩ hb,k1.push s1 k.size hb,y6⟩
theorem qrp(hT:P.underlying T=some .string)(st:ByteArray):(Instr.range T (.string st)).run P w=.ok (.pointer (some ⟨w.heap.size,0,none⟩)) (w.alloc (.stringIter st 0)):=by simp[Instr.range,kx hT,Result.andThen]
def Tm{b:Nat}{st:ByteArray}(hb:w.heap[b]?=some (.stringIter st p))(ty:TypeId) :
  (Instr.next (.pointer (some ⟨b,0,none⟩)) true ty).run P w =
   if p<st.size then .ok (.tuple #[.bool true,goInt p,.int .i32 (Utf8.decode st p).1]) { w with heap:=w.heap.setIfInBounds b (.stringIter st (p+(Utf8.decode st p).2)) }
   else .ok (.tuple #[.bool false]) w:=by
 have hg:(getObj b).run P w=.ok (.stringIter st p) w:=by simp[getObj,Sem.run,hb]
 have hs:∀o,(setObj b o).run P w=.ok () { w with heap:=w.heap.setIfInBounds b o }:=λo=>by simp[setObj,Sem.run,hb]
 by_cases h:p<st.size
 .simp only[Instr.next,iu,hg,iv,gh h,hs,je]
 simp only[Instr.next,iu,hg,iv,gg h,je]
end
end
