/- Part 1 of a proof. -/
import Derived.Calls
import Derived.Orders
import Derived.Laws.AppendOwn
import Derived.Tactics
import Derived.KernelRfl
set_option linter.all false
namespace Go
theorem aa{p:Prop}(h:p:=by omega):p:=h
theorem ac{p:Prop}(h:p:=by kernel_rfl):p:=h
theorem ae{p:Prop}(h:p:=by simp):p:=h
theorem af{p:Prop}(h:p:=by simp[go_sem]):p:=h
theorem ag{p:Prop}(h:p:=by first|exact hwk.refl _|exact hwk.app0 _|simp[hwk.refl]):p:=h
theorem ah{p:Prop}(h:p:=by first|rfl|simp[MS.q]):p:=h
theorem ai{p:Prop}(h:p:=by and_intros<;>kernel_rfl):p:=h
theorem aj{p:Prop}(h:p:=by first|rfl|simp):p:=h
theorem ak{p:Prop}(h:p:=by first|rfl|grind|simp[*]):p:=h
theorem am{p:Prop}(h:p:=by simp;omega):p:=h
theorem aq{p:Prop}(h:p:=by simp[hu,go_sem]):p:=h
theorem au{p:Prop}(h:p:=by simp[Y.len]):p:=h
theorem av{p:Prop}(h:p:=by simpa using h1):p:=h
theorem ax{p:Prop}(h:p:=by grind):p:=h
theorem ay{p:Prop}(h:p:=by simp[hUnder,AObj.under,AV.under,nb]):p:=h
theorem az{p:Prop}(h:p:=by simp only[N4.add];omega):p:=h
theorem ba{p:Prop}(h:p:=by first|rfl|trivial):p:=h
theorem bb{p:Prop}(h:p:=by simp[wkS,go_sem]):p:=h
theorem bc{p:Prop}(h:p:=by decide):p:=h
theorem bf{p:Prop}(h:p:=by simpa using hj):p:=h
theorem bh{p:Prop}(h:p:=by simpa using h):p:=h
theorem bi{p:Prop}(h:p:=by simp[hh]):p:=h
theorem bj{p:Prop}(h:p:=by simp[hu,vf hu,go_sem]):p:=h
theorem bm{p:Prop}(h:p:=by simp[Op.operands]):p:=h
theorem bp{p:Prop}(h:p:=by simp[ib]):p:=h
theorem br{p:Prop}(h:p:=by simpa[hg]using hI):p:=h
theorem bs{p:Prop}(h:p:=by simp[N4.add]):p:=h
theorem bt{p:Prop}(h:p:=by simp[hx]):p:=h
theorem bu{p:Prop}(h:p:=by simp[Ctx.addSl]):p:=h
theorem bv{p:Prop}(h:p:=by simp[T.len]):p:=h
theorem qfh{p:Prop}(h:p:=by rw[qe6 (by omega) (by omega)];omega):p:=h
theorem qfi{p:Prop}(h:p:=by simp only[execOp,jy,dh,jx,dy,dj]):p:=h
theorem qfj{p:Prop}(h:p:=by simp only[N4.add,N4.one,N4.zero];omega):p:=h
theorem bw{p:Prop}(h:p:=by simp[vp];omega):p:=h
theorem bx{p:Prop}(h:p:=by simpa using hv):p:=h
theorem bz{p:Prop}(h:p:=by simpa using k.len):p:=h
theorem b0{p:Prop}(h:p:=by rw[xch,hg]):p:=h
theorem qfk{p:Prop}(h:p:=by first|kernel_rfl|trivial):p:=h
theorem qfl{p:Prop}(h:p:=by simp[Op.operands,Call.operands]):p:=h
theorem qfm{p:Prop}(h:p:=by simp only[N4.add,N4.mx];omega):p:=h
theorem b9{p:Prop}(h:p:=by simp at h1;grind):p:=h
theorem ca{p:Prop}(h:p:=by simpa using h2):p:=h
theorem cc{p:Prop}(h:p:=by simp only;omega):p:=h
theorem qfn{p:Prop}(h:p:=by rw[du];omega):p:=h
theorem qfo{p:Prop}(h:p:=by simp[Region.wanted,g1]):p:=h
theorem qfp{p:Prop}(h:p:=by simp[go_sem];simpa[go_sem]using kr):p:=h
theorem cf{p:Prop}(h:p:=by simpa using hg):p:=h
theorem qfq{p:Prop}(h:p:=by simp[po h2,goInt]):p:=h
theorem cg{p:Prop}(h:p:=by simp[h0]):p:=h
theorem cj{p:Prop}(h:p:=by simpa using hl):p:=h
theorem ck{p:Prop}(h:p:=by simpa using h0):p:=h
theorem qfr{p:Prop}(h:p:=by rintro⟨_,_,_,h⟩;cases h):p:=h
theorem qfs{p:Prop}(h:p:=by simpa[hg,nv,hc,after]using hI):p:=h
theorem qft{p:Prop}(h:p:=by simp[Y.und,Y.undA,Y.len,go_sem]):p:=h
theorem cm{p:Prop}(h:p:=by simp[hy]):p:=h
theorem qfu{p:Prop}(h:p:=by rw[hF0];exact ic):p:=h
theorem qfv{p:Prop}(h:p:=by rwa [show k+(j+1)=k+1+j from by omega]):p:=h
theorem qfw{p:Prop}(h:p:=by simpa using nq):p:=h
theorem qfx{p:Prop}(h:p:=by simpa[nv,hc]using hI):p:=h
theorem cn{p:Prop}(h:p:=by simp[hq]):p:=h
theorem qfy{p:Prop}(h:p:=by simp[Ctx.trunc,ib,h1]):p:=h
theorem qfz{p:Prop}(h:p:=by have:=T.hc;simp[go_sem,T.len];omega):p:=h
theorem qf0{p:Prop}(h:p:=by simpa using hr):p:=h
theorem qf1{p:Prop}(h:p:=by simpa using hi):p:=h
theorem qf2{p:Prop}(h:p:=by simpa using hc):p:=h
theorem qf3{p:Prop}(h:p:=by simp[go_sem,Y.len]<;>omega):p:=h
theorem qf4{p:Prop}(h:p:=by rw[jy];simp[Op.operands]):p:=h
theorem qf5{p:Prop}(h:p:=by have:=k.len;simp;omega):p:=h
theorem qf6{p:Prop}(h:p:=by cases p<;>simp_all[ObjWk]):p:=h
theorem qf7{p:Prop}(h:p:=by simp[Instr.indexAt,asIntOf,Instr.sureAddr,po h2,qqt,z8 lx,xk]):p:=h
theorem qf8{p:Prop}(h:p:=by unfold yu;split<;>omega):p:=h
theorem qf9{p:Prop}(h:p:=by simp only[maxLen];omega):p:=h
theorem qga{p:Prop}(h:p:=by simp at h1;omega):p:=h
theorem qgb{p:Prop}(h:p:=by rw[Y.len];omega):p:=h
theorem qgc{p:Prop}(h:p:=by rw[ma];exact fb _ nz):p:=h
theorem qgd{p:Prop}(h:p:=by simp[go_sem,zF,Foot.c]):p:=h
theorem qge{p:Prop}(h:p:=by simpa using je):p:=h
theorem qgf{p:Prop}(h:p:=by simp[zeroValue,run_typeInfo _ lx,hze]):p:=h
theorem qgg{p:Prop}(h:p:=by simp[hh,Y.len]):p:=h
theorem qgh{p:Prop}(h:p:=by simp[execOp,resolve,invoke,builtin,hr]):p:=h
theorem qgi{p:Prop}(h:p:=by simp only[execOp,yh,ql2,c8,e6,hvx,dh,xci,dj,dy]):p:=h
theorem co{p:Prop}(h:p:=by simp[h]):p:=h
theorem qgj{p:Prop}(h:p:=by simp only[Nat.min_def];split<;>omega):p:=h
theorem qgk{p:Prop}(h:p:=by simp[h1]):p:=h
theorem qgl{p:Prop}(h:p:=by simp[go_sem,nq]):p:=h
theorem qgm{p:Prop}(h:p:=by rw[hF];simp):p:=h
theorem qgn{p:Prop}(h:p:=by rw[w6 n hnq,if_neg (by simpa using hg),e8]):p:=h
theorem qgo{p:Prop}(h:p:=by rw[List.length_set];exact qb1 hu rfl):p:=h
theorem qgp{p:Prop}(h:p:=by simpa using ho):p:=h
theorem qgq{p:Prop}(h:p:=by simpa using h3):p:=h
theorem qgr{p:Prop}(h:p:=by have:=W.lt;simp[go_sem,W.len];omega):p:=h
theorem qgs{p:Prop}(h:p:=by simp only[jb,hv,f5]):p:=h
theorem qgt{p:Prop}(h:p:=by simp[execOp,hr]):p:=h
theorem qgu{p:Prop}(h:p:=by have:=ha.2;omega):p:=h
theorem qgv{p:Prop}(h:p:=by simp[go_sem,T.len]):p:=h
theorem qgw{p:Prop}(h:p:=by simp[World.setRow]):p:=h
theorem qgx{p:Prop}(h:p:=by simp only[dh,jp2 hu hms,dj,binOp,Op.equal,Op.maxDepth,jq0 hu];simp):p:=h
theorem qgy{p:Prop}(h:p:=by simpa using ib):p:=h
theorem qgz{p:Prop}(h:p:=by simp[vS]):p:=h
theorem qg0{p:Prop}(h:p:=by simp[hr]):p:=h
theorem qg1{p:Prop}(h:p:=by simp[hh,T.len]):p:=h
theorem qg2{p:Prop}(h:p:=by rw[cz,hTl];omega):p:=h
theorem qg3{p:Prop}(h:p:=by simp[go_sem,qpg]):p:=h
theorem qg4{p:Prop}(h:p:=by simpa[okB,hg]using hI):p:=h
theorem qg5{p:Prop}(h:p:=by simpa[go_sem]using hr):p:=h
theorem qg6{p:Prop}(h:p:=by simp[nv]):p:=h
theorem qg7{p:Prop}(h:p:=by simp[hHd]):p:=h
theorem qg8{p:Prop}(h:p:=by rw[hw g (by simp[jb,h1,hv,Value.ownBlock]),hh]):p:=h
theorem qg9{p:Prop}(h:p:=by simp only[execOp,jy,Instr.alloc,newVar,newRow,dh,hzv,qdj,dy,dj]):p:=h
theorem qha{p:Prop}(h:p:=by simpa using hp):p:=h
theorem qhb{p:Prop}(h:p:=by simp only[N4.add,N4.one];omega):p:=h
theorem qhc{p:Prop}(h:p:=by simp only[N4.add,N4.mul];omega):p:=h
theorem qhd{p:Prop}(h:p:=by rw[List.mem_zipIdx_iff_getElem?];simpa using hr):p:=h
theorem qhe{p:Prop}(h:p:=by simp only[execOp,jy,Instr.box,newVar,newRow,dh,qdj,dy,dj]):p:=h
theorem qhf{p:Prop}(h:p:=by simp only[Instr.loadAt,Instr.sureAddr,dh,dy,dj];exact ph):p:=h
theorem qhg{p:Prop}(h:p:=by simp[n0]):p:=h
theorem qhh{p:Prop}(h:p:=by simp[hl]):p:=h
theorem qhi{p:Prop}(h:p:=by simpa using jr):p:=h
theorem qhj{p:Prop}(h:p:=by simp at hm;omega):p:=h
theorem qhk{p:Prop}(h:p:=by simp[go_sem,hv]):p:=h
theorem qhl{p:Prop}(h:p:=by simp[go_sem,e2]):p:=h
theorem qhm{p:Prop}(h:p:=by rw[←hH];simp):p:=h
theorem qhn{p:Prop}(h:p:=by have:=hi.1;omega):p:=h
theorem qho{p:Prop}(h:p:=by simp only[eqGuard,binOp,dh,Op.equal,Op.maxDepth,jrv hu];simp[eqGuard]):p:=h
theorem qhp{p:Prop}(h:p:=by simp[jb,hv,Value.ownBlock]):p:=h
theorem qhq{p:Prop}(h:p:=by simp only[cz,du,qlq,hzc,mi.1,hjm2];omega):p:=h
theorem qhr{p:Prop}(h:p:=by simp[go_sem,Foot.c]):p:=h
theorem qhs{p:Prop}(h:p:=by rw[←dr];exact hwk.app0 _):p:=h
theorem qht{p:Prop}(h:p:=by simpa using ph):p:=h
theorem qhu{p:Prop}(h:p:=by rw[w6 n hnq,if_pos (by simpa using hg)]):p:=h
theorem qhv{p:Prop}(h:p:=by rw[h4,show k+1+i=k+(i+1)from by omega]):p:=h
theorem qhw{p:Prop}(h:p:=by rw[g];simp):p:=h
theorem qhx{p:Prop}(h:p:=by simp only[cz,du,gd,hkl,vp];omega):p:=h
theorem qhy{p:Prop}(h:p:=by unfold tq;simp[qr7]):p:=h
theorem qhz{p:Prop}(h:p:=by simpa[nv,hc]using mt):p:=h
theorem qh0{p:Prop}(h:p:=by simpa[hy]using hx.symm):p:=h
theorem qh1{p:Prop}(h:p:=by simp only[jb,hslv,f5]):p:=h
theorem qh2{p:Prop}(h:p:=by simp[zeroValue,run_typeInfo _ h1,h3]):p:=h
theorem qh3{p:Prop}(h:p:=by simp[hh,oy]):p:=h
theorem qh4{p:Prop}(h:p:=by simp[Ctx.addBlk]):p:=h
theorem qh5{p:Prop}(h:p:=by simp[AObj.under]):p:=h
theorem qh6{p:Prop}(h:p:=by rw[htz];exact ql4 hv):p:=h
theorem qh7{p:Prop}(h:p:=by cases o.dst<;>simp[Act.put,inv.size]):p:=h
theorem qh8{p:Prop}(h:p:=by unfold mn;split<;>omega):p:=h
theorem qh9{p:Prop}(h:p:=by simpa[hg,jk]using hI):p:=h
theorem qia{p:Prop}(h:p:=by simpa[h2,v6]using hJ):p:=h
theorem qib{p:Prop}(h:p:=by simp only[execOp,jy,zw,dh,jx,dy,dj]):p:=h
theorem qic{p:Prop}(h:p:=by simp[pm,List.zipIdx]):p:=h
theorem qid{p:Prop}(h:p:=by simp[ni]):p:=h
theorem qie{p:Prop}(h:p:=by simp[World.frozen?,hk]):p:=h
theorem qif{p:Prop}(h:p:=by simp[Act.eval,Act.put]):p:=h
theorem qig{p:Prop}(h:p:=by rw[pr];exact k.size):p:=h
theorem qih{p:Prop}(h:p:=by rw[w6 n hc];simp[hg]):p:=h
theorem qii{p:Prop}(h:p:=by simp at h2;grind):p:=h
theorem qij{p:Prop}(h:p:=by simp at h0;grind):p:=h
theorem qik{p:Prop}(h:p:=by simp[jb,Ctx.addSl,Value.ownBlock]):p:=h
theorem qil{p:Prop}(h:p:=by simp[hk]):p:=h
theorem qim{p:Prop}(h:p:=by simp[hi]):p:=h
theorem qin{p:Prop}(h:p:=by simp[Ctx.trunc,hb,h]):p:=h
theorem qio{p:Prop}(h:p:=by rw[px,←qya,il]):p:=h
theorem qip{p:Prop}(h:p:=by rintro rfl;rw[hp]at hi;cases hi):p:=h
theorem qiq{p:Prop}(h:p:=by simp only[dh,g1,dj,binOp,g2,dy]):p:=h
theorem qir{p:Prop}(h:p:=by rw[pi];exact Nat.mod_lt _ kq):p:=h
theorem qis{p:Prop}(h:p:=by rw[hw b' (by simp[jb,h1]),h2]):p:=h
theorem qit{p:Prop}(h:p:=by rw[ht];rfl):p:=h
theorem qiu{p:Prop}(h:p:=by simpa using he):p:=h
theorem qiv{p:Prop}(h:p:=by simpa using hI):p:=h
theorem qiw{p:Prop}(h:p:=by simpa using h4):p:=h
theorem qix{p:Prop}(h:p:=by simpa[go_sem]using hwk.app0 _):p:=h
theorem qiy{p:Prop}(h:p:=by simpa[Array.getD,ib]using h2):p:=h
theorem qiz{p:Prop}(h:p:=by simp[jb,h1,hv,Value.ownBlock]):p:=h
theorem qi0{p:Prop}(h:p:=by simp[ib];rfl):p:=h
theorem qi1{p:Prop}(h:p:=by simp[execOp,hb,jow hf]):p:=h
theorem qi2{p:Prop}(h:p:=by simp[nb,AV.under]):p:=h
theorem qi3{p:Prop}(h:p:=by simp[List.getD,hr]):p:=h
theorem qi4{p:Prop}(h:p:=by cases o.dst<;>exact inv.defers):p:=h
theorem qi5{p:Prop}(h:p:=by simp[l24]):p:=h
theorem qi6{p:Prop}(h:p:=by simp[kc,AV.norm]):p:=h
theorem qi7{p:Prop}(h:p:=by simp[go_sem,LQ.c]):p:=h
theorem qi8{p:Prop}(h:p:=by rw[hr];simp[ly]):p:=h
theorem qi9{p:Prop}(h:p:=by have:=hb64.2;omega):p:=h
theorem qja{p:Prop}(h:p:=by simp[hu,vf hu,go_sem,LT.c]):p:=h
theorem qjb{p:Prop}(h:p:=by obtain⟨_,_,_,_,_,_,h3,_⟩:=hs.obj i _ hi;simpa using h3):p:=h
theorem qjc{p:Prop}(h:p:=by simpa[go_sem]using xzi h hu0 iu b[k] [] (by omega)):p:=h
theorem qjd{p:Prop}(h:p:=by simp[wg,go_sem]):p:=h
theorem qje{p:Prop}(h:p:=by simp[hu]):p:=h
theorem qjf{p:Prop}(h:p:=by simp[h2]):p:=h
theorem qjg{p:Prop}(h:p:=by rw[←ly];simp):p:=h
theorem qjh{p:Prop}(h:p:=by have:=xnj hj;rw[←hE.1]at this;simpa using this):p:=h
theorem qji{p:Prop}(h:p:=by have:=Y.hm;simp[pm,List.zipIdx];exact .inl (by omega)):p:=h
theorem qjj{p:Prop}(h:p:=by rintro⟨h2,h3⟩;have:=h1 h2;rw[this]at h3;cases h3):p:=h
theorem qjk{p:Prop}(h:p:=by simp at hc;omega):p:=h
theorem qjl{p:Prop}(h:p:=by simp at h3;grind):p:=h
theorem qjm{p:Prop}(h:p:=by simp at h2;omega):p:=h
theorem qjn{p:Prop}(h:p:=by rw[←hl];simp):p:=h
theorem qjo{p:Prop}(h:p:=by rw[W.len];omega):p:=h
theorem qjp{p:Prop}(h:p:=by rw[B.len];omega):p:=h
theorem qjq{p:Prop}(h:p:=by simpa[go_sem]using jfk h iu a[i] [] (by omega)):p:=h
theorem qjr{p:Prop}(h:p:=by simp[te]):p:=h
theorem qjs{p:Prop}(h:p:=by simp[xai]):p:=h
theorem qjt{p:Prop}(h:p:=by simp[Instr.indexAt,asIntOf,po h2,qqt,z8 lx,xk]):p:=h
theorem qju{p:Prop}(h:p:=by rw[hb];rfl):p:=h
theorem qjv{p:Prop}(h:p:=by rw[hG,if_pos (by omega)]):p:=h
theorem qjw{p:Prop}(h:p:=by rw[xr6 hL];exact qt):p:=h
theorem qjx{p:Prop}(h:p:=by have h0:=hb.1.1;rw[qe6 (by omega) (by omega)];omega):p:=h
theorem qjy{p:Prop}(h:p:=by first|(simp[hl2,g3];done)|(simp[hl2,g3];omega)):p:=h
theorem qjz{p:Prop}(h:p:=by simpa using hp'):p:=h
theorem qj0{p:Prop}(h:p:=by simp[hh,W.len]):p:=h
theorem qj1{p:Prop}(h:p:=by simp[yw,hN]):p:=h
theorem qj2{p:Prop}(h:p:=by rw[Y.len];exact Y.und _):p:=h
theorem qj3{p:Prop}(h:p:=by simp[Region.wanted,g2]):p:=h
theorem qj4{p:Prop}(h:p:=by simpa using hx):p:=h
theorem qj5{p:Prop}(h:p:=by simpa using hu):p:=h
theorem qj6{p:Prop}(h:p:=by simpa using hq):p:=h
theorem qj7{p:Prop}(h:p:=by simpa using hR):p:=h
theorem qj8{p:Prop}(h:p:=by simpa using hL):p:=h
theorem qj9{p:Prop}(h:p:=by simpa using h8):p:=h
theorem qka{p:Prop}(h:p:=by rw[ho3];omega):p:=h
theorem qkb{p:Prop}(h:p:=by rw[List.mem_zipIdx_iff_getElem?];simpa using hs):p:=h
theorem qkc{p:Prop}(h:p:=by simp only[qlc,m9,hk];exact h3):p:=h
theorem qkd{p:Prop}(h:p:=by rw[←hH];simp;omega):p:=h
theorem qke{p:Prop}(h:p:=by rw[s.size];exact tg):p:=h
theorem qkf{p:Prop}(h:p:=by rw[u6];exact k.size):p:=h
theorem qkg{p:Prop}(h:p:=by rw[hS.st];exact hS.ne):p:=h
theorem qkh{p:Prop}(h:p:=by have:=inv.ok.len;rwa [xbj d.quiet]at this):p:=h
theorem qki{p:Prop}(h:p:=by simp[jb,h1]):p:=h
theorem qkj{p:Prop}(h:p:=by simp[hh,T.len];omega):p:=h
theorem qkk{p:Prop}(h:p:=by simp[hg]):p:=h
theorem qkl{p:Prop}(h:p:=by simp[eqGuard,binOp,Op.shift,Int.not_lt.2 hs]):p:=h
theorem qkm{p:Prop}(h:p:=by simp[Op.operands,hy]):p:=h
theorem qkn{p:Prop}(h:p:=by simp[N4.add,N4.zero]):p:=h
theorem qko{p:Prop}(h:p:=by rw[h4];exact iq.1):p:=h
theorem qkp{p:Prop}(h:p:=by grind[after]):p:=h
theorem qkq{p:Prop}(h:p:=by rintro _ _ ⟨rfl,rfl⟩;exact⟨rfl,rfl⟩):p:=h
theorem qkr{p:Prop}(h:p:=by have:=(xiv ho).2;rwa [xcg]at this):p:=h
theorem qks{p:Prop}(h:p:=by intro h;exact hj h.1):p:=h
theorem qkt{p:Prop}(h:p:=by simp[rows']):p:=h
theorem qku{p:Prop}(h:p:=by simp[W.len]):p:=h
theorem qkv{p:Prop}(h:p:=by rw[inv.size];rw[qq7]at hdok;exact hdok):p:=h
theorem qkw{p:Prop}(h:p:=by rw[hT,dr];exact hwk.app0 _):p:=h
theorem qkx{p:Prop}(h:p:=by rw[hG];simp):p:=h
theorem qky{p:Prop}(h:p:=by unfold maxLen;omega):p:=h
theorem qkz{p:Prop}(h:p:=by simpa[h1]using hI):p:=h
theorem qk0{p:Prop}(h:p:=by simp only[Rows.uptoBulkAll]at hbk;omega):p:=h
theorem qk1{p:Prop}(h:p:=by simp at h2;exact h2):p:=h
theorem qk2{p:Prop}(h:p:=by simp[go_sem];omega):p:=h
theorem qk3{p:Prop}(h:p:=by rw[jo3];rfl):p:=h
theorem qk4{p:Prop}(h:p:=by intro q hq;cases hq):p:=h
theorem qk5{p:Prop}(h:p:=by rw[db,qli];exact hu):p:=h
theorem qk6{p:Prop}(h:p:=by simp[hjlt]):p:=h
theorem qk7{p:Prop}(h:p:=by rw[hkl];exact ib):p:=h
theorem qk8{p:Prop}(h:p:=by rintro _ ⟨e,rfl,_⟩;rw[Ex.c_eq];rfl):p:=h
theorem cq:type_of% @List.getElem?_eq_some_iff:=@List.getElem?_eq_some_iff
theorem ct:type_of% @Nat.le_refl:=@Nat.le_refl
theorem cu:type_of% @List.getElem?_append_left:=@List.getElem?_append_left
theorem cv:type_of% @List.drop_eq_nil_of_le:=@List.drop_eq_nil_of_le
theorem cw:type_of% @List.mem_cons:=@List.mem_cons
theorem cy:type_of% @List.getElem?_append_right:=@List.getElem?_append_right
theorem cz:type_of% @List.length_append:=@List.length_append
theorem c0:type_of% @Bool.and_eq_true:=@Bool.and_eq_true
theorem c7:type_of% @List.mem_of_getElem?:=@List.mem_of_getElem?
theorem c8:type_of% @List.map_cons:=@List.map_cons
theorem c9:type_of% @List.getElem_mem:=@List.getElem_mem
theorem da:type_of% @List.getElem?_eq_getElem:=@List.getElem?_eq_getElem
theorem db:type_of% @Nat.zero_add:=@Nat.zero_add
theorem dh:type_of% @Sem.run_bind:=@Sem.run_bind
theorem di:type_of% @Nat.zero_le:=@Nat.zero_le
theorem dj:type_of% @Result.andThen_ok:=@Result.andThen_ok
theorem dk:type_of% @List.mem_map:=@List.mem_map
theorem dm:type_of% @List.getElem?_set_ne:=@List.getElem?_set_ne
theorem dn:type_of% @Option.map_eq_some_iff:=@Option.map_eq_some_iff
theorem dq:type_of% @List.getElem?_map:=@List.getElem?_map
theorem dr:type_of% @List.append_assoc:=@List.append_assoc
theorem dt:type_of% @List.mem_append:=@List.mem_append
theorem du:type_of% @List.length_take:=@List.length_take
theorem dv:type_of% @List.getElem?_of_mem:=@List.getElem?_of_mem
theorem dw:type_of% @List.all_eq_true:=@List.all_eq_true
theorem dx:type_of% @List.getElem?_take:=@List.getElem?_take
theorem dy:type_of% @Sem.run_pure:=@Sem.run_pure
theorem dz:type_of% @List.map_append:=@List.map_append
theorem d5:type_of% @List.length_cons:=@List.length_cons
theorem d6:type_of% @Nat.add_zero:=@Nat.add_zero
theorem d7:type_of% @Option.some.injEq:=@Option.some.injEq
theorem d8:type_of% @Nat.lt_or_ge:=@Nat.lt_or_ge
theorem d9:type_of% @Nat.le_trans:=@Nat.le_trans
theorem ed:type_of% @Array.getD_eq_getD_getElem?:=@Array.getD_eq_getD_getElem?
theorem ee:type_of% @List.length_nil:=@List.length_nil
theorem ef:type_of% @List.pairwise_cons:=@List.pairwise_cons
theorem eg:type_of% @List.take_succ_eq_append_getElem:=@List.take_succ_eq_append_getElem
theorem eh:type_of% @List.mem_range:=@List.mem_range
theorem ei:type_of% @List.mem_singleton:=@List.mem_singleton
theorem ej:type_of% @List.nil_append:=@List.nil_append
theorem ep:type_of% @List.getElem?_set_self:=@List.getElem?_set_self
theorem ew:type_of% @List.length_map:=@List.length_map
theorem ez:type_of% @List.getElem?_drop:=@List.getElem?_drop
theorem e6:type_of% @List.map_nil:=@List.map_nil
theorem e8:type_of% @List.append_nil:=@List.append_nil
theorem e9:type_of% @List.set_append_left:=@List.set_append_left
theorem fa:type_of% @List.getElem?_eq_none:=@List.getElem?_eq_none
theorem fb:type_of% @Nat.mul_le_mul_right:=@Nat.mul_le_mul_right
theorem fc:type_of% @Array.getElem?_toList:=@Array.getElem?_toList
theorem fe:type_of% @List.mem_filter:=@List.mem_filter
theorem ff:type_of% @Nat.sub_self:=@Nat.sub_self
theorem fg:type_of% @List.getD_eq_getElem?_getD:=@List.getD_eq_getElem?_getD
theorem fh:type_of% @Bool.true_and:=@Bool.true_and
theorem fi:type_of% @Nat.add_mul:=@Nat.add_mul
theorem fj:type_of% @List.sizeOf_lt_of_mem:=@List.sizeOf_lt_of_mem
theorem fk:type_of% @List.eq_nil_of_length_eq_zero:=@List.eq_nil_of_length_eq_zero
theorem fl:type_of% @Bool.and_true:=@Bool.and_true
theorem fm:type_of% @Array.getElem?_eq_getElem:=@Array.getElem?_eq_getElem
theorem fo:type_of% @List.take_of_length_le:=@List.take_of_length_le
theorem fp:type_of% @Nat.le_of_lt:=@Nat.le_of_lt
theorem fq:type_of% @List.set_append_right:=@List.set_append_right
theorem fu:type_of% @List.foldl_cons:=@List.foldl_cons
theorem fv:type_of% @Bool.or_eq_true:=@Bool.or_eq_true
theorem fw:type_of% @Bool.false_eq_true:=@Bool.false_eq_true
theorem fx:type_of% @Option.map_some:=@Option.map_some
theorem fy:type_of% @List.ext_getElem?:=@List.ext_getElem?
theorem f0:type_of% @Array.getElem?_eq_some_iff:=@Array.getElem?_eq_some_iff
theorem f5:type_of% @Option.bind_some:=@Option.bind_some
theorem f8:type_of% @List.length_singleton:=@List.length_singleton
theorem f9:type_of% @Option.getD_some:=@Option.getD_some
theorem gc:type_of% @List.mem_of_mem_take:=@List.mem_of_mem_take
theorem gd:type_of% @List.length_drop:=@List.length_drop
theorem gg:type_of% @List.nodup_cons:=@List.nodup_cons
theorem gh:type_of% @Option.some.inj:=@Option.some.inj
theorem gj:type_of% @Nat.min_eq_left:=@Nat.min_eq_left
theorem gn:type_of% @Bool.eq_false_or_eq_true:=@Bool.eq_false_or_eq_true
theorem gq:type_of% @List.set_set:=@List.set_set
theorem gt:type_of% @Array.getElem?_setIfInBounds_ne:=@Array.getElem?_setIfInBounds_ne
theorem gu:type_of% @Array.ext':=@Array.ext'
theorem gv:type_of% @Array.getElem?_map:=@Array.getElem?_map
theorem gw:type_of% @List.filter_append:=@List.filter_append
theorem qk9:type_of% @List.getElem?_cons_succ:=@List.getElem?_cons_succ
theorem qla:type_of% @List.mem_of_mem_drop:=@List.mem_of_mem_drop
theorem qlb:type_of% @Nat.one_mul:=@Nat.one_mul
theorem qlc:type_of% @List.take_succ_cons:=@List.take_succ_cons
theorem qld:type_of% @Int.toNat_natCast:=@Int.toNat_natCast
theorem qle:type_of% @List.nodup_append:=@List.nodup_append
theorem qlf:type_of% @List.length_filter_le:=@List.length_filter_le
theorem qlg:type_of% @List.cons_append:=@List.cons_append
theorem qlh:type_of% @List.take_append_drop:=@List.take_append_drop
theorem qli:type_of% @Nat.add_assoc:=@Nat.add_assoc
theorem qlj:type_of% @List.size_toArray:=@List.size_toArray
theorem qlk:type_of% @Nat.mul_comm:=@Nat.mul_comm
theorem qll:type_of% @List.all_cons:=@List.all_cons
theorem qlm:type_of% @List.map_take:=@List.map_take
theorem qln:type_of% @List.map_drop:=@List.map_drop
theorem qlo:type_of% @Nat.lt_of_lt_of_le:=@Nat.lt_of_lt_of_le
theorem qlp:type_of% @Prod.mk.injEq:=@Prod.mk.injEq
theorem qlq:type_of% @Array.length_toList:=@Array.length_toList
theorem qlr:type_of% @Array.getElem?_append_left:=@Array.getElem?_append_left
theorem qls:type_of% @Bool.not_eq_true':=@Bool.not_eq_true'
theorem qlt:type_of% @List.map_map:=@List.map_map
theorem qlu:type_of% @Bool.false_and:=@Bool.false_and
theorem qlv:type_of% @List.sum_cons:=@List.sum_cons
theorem qlw:type_of% @Bool.false_or:=@Bool.false_or
theorem qlx:type_of% @List.take_append_of_le_length:=@List.take_append_of_le_length
theorem qly:type_of% @List.take_length:=@List.take_length
theorem qlz:type_of% @Nat.mul_one:=@Nat.mul_one
theorem ql0:type_of% @List.foldl_append:=@List.foldl_append
theorem ql1:type_of% @List.drop_eq_getElem_cons:=@List.drop_eq_getElem_cons
theorem ql2:type_of% @List.map_toArray:=@List.map_toArray
theorem ql3:type_of% @List.take_zero:=@List.take_zero
theorem ql4:type_of% @List.mem_map_of_mem:=@List.mem_map_of_mem
theorem ql5:type_of% @List.not_mem_nil:=@List.not_mem_nil
theorem ql6:type_of% @Bool.or_eq_false_iff:=@Bool.or_eq_false_iff
theorem ql7:type_of% @List.all_nil:=@List.all_nil
theorem ql8:type_of% @List.length_eq_zero_iff:=@List.length_eq_zero_iff
theorem ql9:type_of% @Array.foldl_toList:=@Array.foldl_toList
theorem qma:type_of% @Array.empty_append:=@Array.empty_append
theorem qmb:type_of% @Array.all_eq_true':=@Array.all_eq_true'
theorem qmc:type_of% @Nat.lt_trichotomy:=@Nat.lt_trichotomy
theorem qmd:type_of% @List.map_congr_left:=@List.map_congr_left
theorem qme:type_of% @List.mem_iff_getElem:=@List.mem_iff_getElem
theorem qmf:type_of% @List.any_eq_true:=@List.any_eq_true
theorem qmg:type_of% @List.nodup_nil:=@List.nodup_nil
theorem qmh:type_of% @List.filter_congr:=@List.filter_congr
theorem qmi:type_of% @Classical.byContradiction:=@Classical.byContradiction
theorem qmj:type_of% @ByteArray.size_append:=@ByteArray.size_append
theorem qmk:type_of% @List.mem_or_eq_of_mem_set:=@List.mem_or_eq_of_mem_set
theorem qml:type_of% @Array.eq_empty_of_size_eq_zero:=@Array.eq_empty_of_size_eq_zero
theorem qmm:type_of% @Array.append_empty:=@Array.append_empty
theorem qmn:type_of% @List.getElem?_replicate:=@List.getElem?_replicate
theorem qmo:type_of% @Option.bind_eq_some_iff:=@Option.bind_eq_some_iff
theorem qmp:type_of% @List.pairwise_iff_getElem:=@List.pairwise_iff_getElem
theorem qmq:type_of% @List.getElem_take:=@List.getElem_take
theorem qmr:type_of% @List.filter_eq_nil_iff:=@List.filter_eq_nil_iff
theorem qms:type_of% @List.find?_eq_none:=@List.find?_eq_none
theorem qmt:type_of% @List.getElem?_zip_eq_some:=@List.getElem?_zip_eq_some
theorem qmu:type_of% @Int.eq_ofNat_of_zero_le:=@Int.eq_ofNat_of_zero_le
end Go
namespace Go.Abs
inductive AV where
 |top
 |val (v:Value)
 |nils
 |slice (rows:List (List AV))
 |agg (cells:List AV)
 |tuple (vs:List AV)
 |ptr (i off:Nat)
 |eptr (cells:List AV)
 |mapr (i:Nat)
 |fn (f:Fn) (first caps:List AV)
 |iface (t:TypeId) (v:AV)
 |own (i n:Nat)
 |opt (g:Bool) (v:AV)
 |optr (i n sz r q:Nat)
 |lit (cells:List AV)
instance:Inhabited AV:=⟨.top⟩
structure Ctx where
 D:Nat→Nat→Option Value
 blk:Nat→Option Nat
 sl:Nat→Nat→Option Value
structure Ctx.le(c c':Ctx):Prop where
 D:∀b j v,c.D b j=some v→c'.D b j=some v
 blk:∀i b,c.blk i=some b→c'.blk i=some b
 sl:∀i n v,c.sl i n=some v→c'.sl i n=some v
theorem Ctx.le.refl(c:Ctx):c.le c:=⟨fun _ _ _ h=>h,fun _ _ h=>h,fun _ _ _ h=>h⟩
theorem Ctx.le.trans{a b c:Ctx}(h:a.le b)(k:b.le c):a.le c :=
 ⟨fun _ _ _ x=>k.D _ _ _ (h.D _ _ _ x),fun _ _ x=>k.blk _ _ (h.blk _ _ x),fun _ _ _ x=>k.sl _ _ _ (h.sl _ _ _ x)⟩
def zz:Value→Bool
 | .string s=>decide (s.size≤68719476736)
 |_=>true
inductive DRel(D:Nat→Nat→Option Value):AV→Value→Prop
 |val (v:Value) (h:v.oneCell'=true) (hs:zz v=true:=by first|rfl|assumption):DRel D (.val v) v
 |nil:DRel D (.slice []) (.slice none 0 0)
 |slice (rows:List (List AV)) (b off cap sz:Nat) (g:Nat→Nat→Value) (jq:∀r,r∈rows→r.length=sz) (hB:rows.length≤68719476736) (hc:rows.length≤cap)
   (hD:∀(i j:Nat) (r:List AV) (x:AV),rows[i]?=some r→r[j]?=some x→D b (off+i * sz+j)=some (g i j))
   (h:∀(i j:Nat) (r:List AV) (x:AV),rows[i]?=some r→r[j]?=some x→DRel D x (g i j)) :
   DRel D (.slice rows) (.slice (some ⟨b,off,none⟩) rows.length cap)
 |empty (a:Addr):DRel D (.slice []) (.slice (some a) 0 0)
theorem DRel.mono{D D':Nat→Nat→Option Value}(hD:∀b j v,D b j=some v→D' b j=some v){x:AV}{v:Value}(h:DRel D x v):DRel D' x v:=by
 induction h with
 |val v h hs=>exact .val v h hs
 |nil=>exact .nil
 |slice rows b off cap sz g jq hB hc h1 h2 ih=>exact .slice rows b off cap sz g jq hB hc (fun i j r x hr hx=>hD _ _ _ (h1 i j r x hr hx)) ih
 |empty a=>exact .empty a
theorem DRel.one{D:Nat→Nat→Option Value}{x:AV}{v:Value}(h:DRel D x v):v.oneCell'=true:=by
 cases h with
 |val v h hs=>exact h
 |nil=>rfl
 |slice=>rfl
 |empty=>rfl
inductive Rel(c:Ctx):AV→Value→Prop
 |data {x:AV} {v:Value} (h:DRel c.D x v):Rel c x v
 |top (v:Value):Rel c .top v
 |val (v:Value) (hs:zz v=true:=by first|rfl|assumption):Rel c (.val v) v
 |nils:Rel c .nils (.slice none 0 0)
 |agg (xs:List AV) (vs:Array Value) (hl:vs.size=xs.length) (ho:∀(j:Nat) (v:Value),vs[j]?=some v→v.oneCell'=true)
   (h:∀(j:Nat) (x:AV) (v:Value),xs[j]?=some x→vs[j]?=some v→Rel c x v):Rel c (.agg xs) (.agg vs)
 |tuple (xs:List AV) (vs:Array Value) (hl:vs.size=xs.length)
   (h:∀(j:Nat) (x:AV) (v:Value),xs[j]?=some x→vs[j]?=some v→Rel c x v):Rel c (.tuple xs) (.tuple vs)
 |ptr (i off b:Nat) (h:c.blk i=some b):Rel c (.ptr i off) (.pointer (some ⟨b,off,none⟩))
 |eptr (cells:List AV) (b o:Nat) (g:Nat→Value) (hD:∀(j:Nat) (x:AV),cells[j]?=some x→c.D b (o+j)=some (g j))
   (h:∀(j:Nat) (x:AV),cells[j]?=some x→DRel c.D x (g j)):Rel c (.eptr cells) (.pointer (some ⟨b,o,none⟩))
 |mapr (i b:Nat) (h:c.blk i=some b):Rel c (.mapr i) (.map (some b))
 |fn (f:Fn) (ys xs:List AV) (us vs:Array Value) (pf:us.size=ys.length) (hl:vs.size=xs.length)
   (h':∀(j:Nat) (x:AV) (v:Value),ys[j]?=some x→us[j]?=some v→Rel c x v)
   (h:∀(j:Nat) (x:AV) (v:Value),xs[j]?=some x→vs[j]?=some v→Rel c x v):Rel c (.fn f ys xs) (.func f us vs)
 |iface (t:TypeId) (x:AV) (v:Value) (h:Rel c x v):Rel c (.iface t x) (.iface t v)
 |own (i n:Nat) (v:Value) (h:c.sl i n=some v) (ho:v.oneCell'=true):Rel c (.own i n) v
 |opt (g:Bool) (x:AV) (v:Value) (h:g=true→Rel c x v) (hn:g=false→v=undef):Rel c (.opt g x) v
 |optr (i n sz r q b o len cap:Nat) (h:c.sl i n=some (.slice (some ⟨b,o,none⟩) len cap)):Rel c (.optr i n sz r q) (.pointer (some ⟨b,o+(r * sz+q),none⟩))
 |lit (cells:List AV) (b o cap:Nat) (g:Nat→Value) (hD:∀(j:Nat) (x:AV),cells[j]?=some x→c.D b (o+j)=some (g j))
   (h:∀(j:Nat) (x:AV),cells[j]?=some x→Rel c x (g j)) (ho:∀(j:Nat) (x:AV),cells[j]?=some x→(g j).oneCell'=true):Rel c (.lit cells) (.slice (some ⟨b,o,none⟩) 1 cap)
theorem Rel.mono{c c':Ctx}(hc:c.le c'){x:AV}{v:Value}(h:Rel c x v):Rel c' x v:=by
 induction h with
 |data h=>exact .data (h.mono hc.D)
 |top v=>exact .top v
 |val v hs=>exact .val v hs
 |nils=>exact .nils
 |agg xs vs hl ho h ih=>exact .agg xs vs hl ho ih
 |tuple xs vs hl h ih=>exact .tuple xs vs hl ih
 |ptr i off b h=>exact .ptr i off b (hc.blk _ _ h)
 |eptr cells b o g hD h=>exact .eptr cells b o g (fun j x hx=>hc.D _ _ _ (hD j x hx)) (fun j x hx=>(h j x hx).mono hc.D)
 |mapr i b h=>exact .mapr i b (hc.blk _ _ h)
 |fn f ys xs us vs pf hl h' h ih' ih=>exact .fn f ys xs us vs pf hl ih' ih
 |iface t x v h ih=>exact .iface t x v ih
 |own i n v h ho=>exact .own i n v (hc.sl _ _ _ h) ho
 |opt g x v h hn ih=>exact .opt g x v ih hn
 |optr i n sz r q b o len cap h=>exact .optr i n sz r q b o len cap (hc.sl _ _ _ h)
 |lit cells b o cap g hD h ho ih=>exact .lit cells b o cap g (fun j x hx=>hc.D _ _ _ (hD j x hx)) ih ho
mutual
def AV.under(n:Nat):AV→Bool
 | .top| .val _| .nils| .slice _| .eptr _=>true
 | .agg xs| .tuple xs| .lit xs=>nb n xs
 | .fn _ ys xs=>nb n ys&&nb n xs
 | .ptr i _| .mapr i| .own i _| .optr i _ _ _ _=>i<n
 | .iface _ v=>v.under n
 | .opt g v=>!g||v.under n
def nb(n:Nat):List AV→Bool
 | []=>true
 |x::xs=>x.under n&&nb n xs
end
theorem qca{n:Nat}:∀{xs:List AV},nb n xs=true↔∀x,x∈xs→x.under n=true
 | []=>by simp[nb]
 |x::xs=>by simp[nb,qca (xs:=xs)]
def Ctx.trunc(c:Ctx)(n:Nat):Ctx:={ D:=c.D,blk:=fun i=>if i<n then c.blk i else none,sl:=fun i m=>if i<n then c.sl i m else none }
theorem Rel.trunc{c:Ctx}{n:Nat}{x:AV}{v:Value}(h:Rel c x v):x.under n=true→Rel (c.trunc n) x v:=by
 induction h with
 |data h=>exact fun _=>.data h
 |top v=>exact fun _=>.top v
 |val v hs=>exact fun _=>.val v hs
 |nils=>exact fun _=>.nils
 |agg xs vs hl ho h ih =>
  intro hb;simp only[AV.under,qca]at hb;exact .agg xs vs hl ho fun j x v hx hv=>ih j x v hx hv (hb x (c7 hx))
 |tuple xs vs hl h ih =>
  intro hb;simp only[AV.under,qca]at hb;exact .tuple xs vs hl fun j x v hx hv=>ih j x v hx hv (hb x (c7 hx))
 |ptr i off b h =>
  intro hb;simp[AV.under]at hb;exact .ptr i off b qin
 |eptr cells b o g hD h=>exact fun _=>.eptr cells b o g hD h
 |mapr i b h =>
  intro hb;simp[AV.under]at hb;exact .mapr i b qin
 |fn f ys xs us vs pf hl h' h ih' ih =>
  intro hb;simp only[AV.under,qca,c0]at hb;exact .fn f ys xs us vs pf hl (fun j x v hx hv=>ih' j x v hx hv (hb.1 x (c7 hx))) fun j x v hx hv=>ih j x v hx hv (hb.2 x (c7 hx))
 |iface t x v h ih=>exact fun hb=>.iface t x v (ih (by simpa[AV.under]using hb))
 |own i n v h ho =>
  intro hb;simp[AV.under]at hb;exact .own i n v qin ho
 |opt g x v h hn ih=>exact fun hb=>.opt g x v (fun hg=>ih hg (by simpa[AV.under,hg]using hb)) hn
 |optr i n sz r q b o len cap h =>
  intro hb;simp[AV.under]at hb;exact .optr i n sz r q b o len cap qin
 |lit cells b o cap g hD h ho ih =>
  intro hb;simp only[AV.under,qca]at hb;exact .lit cells b o cap g hD (fun j x hx=>ih j x hx (hb x (c7 hx))) ho
theorem Rel.under{c:Ctx}{n:Nat}(hd:∀i,n≤i→c.blk i=none∧∀m,c.sl i m=none){x:AV}{v:Value}(h:Rel c x v):x.under n=true:=by
 induction h with
 |data h=>cases h<;>rfl
 |top v=>rfl
 |val v hs=>rfl
 |nils=>rfl
 |fn f ys xs us vs pf hl h' h ih' ih =>
  simp only[AV.under,qca,c0];constructor
  ·intro x hx;obtain⟨j,hj⟩:=dv hx;have ib:j<us.size:=by rw[pf];exact(cq.1 hj).1
   exact ih' j x us[j] hj bp
  ·intro x hx;obtain⟨j,hj⟩:=dv hx;have ib:j<vs.size:=by rw[hl];exact(cq.1 hj).1
   exact ih j x vs[j] hj bp
 |agg xs vs hl ho h ih|tuple xs vs hl h ih =>
  simp only[AV.under,qca];intro x hx;obtain⟨j,hj⟩:=dv hx;have ib:j<vs.size:=by rw[hl];exact(cq.1 hj).1
  exact ih j x vs[j] hj bp
 |ptr i off b h|mapr i b h =>
  simp only[AV.under,decide_eq_true_eq];rcases d8 i n with h1|h1
  ·exact h1
  ·rw[(hd i h1).1]at h;cases h
 |eptr cells b o g hD h=>rfl
 |iface t x v h ih=>exact ih
 |own i m v h ho =>
  simp only[AV.under,decide_eq_true_eq];rcases d8 i n with h1|h1
  ·exact h1
  ·rw[(hd i h1).2]at h;cases h
 |opt g x v h hn ih =>
  cases g with
  |false=>rfl
  |true=>simpa[AV.under]using ih rfl
 |optr i m sz r q b o len cap h =>
  simp only[AV.under,decide_eq_true_eq];rcases d8 i n with h1|h1
  ·exact h1
  ·rw[(hd i h1).2]at h;cases h
 |lit cells b o cap g hD h ho ih =>
  simp only[AV.under,qca];intro x hx;obtain⟨j,hj⟩:=dv hx;exact ih j x hj
inductive AObj where
 |none
 |cells (xs:List AV)
 |map (es:List (AV×AV))
 |arr (e:TypeId) (sz:Nat) (rows:List (List AV))
 |uarr (e:TypeId) (sz:Nat) (rows:List (List AV))
 |oarr (e:TypeId) (sz:Nat) (rows:List (List AV))
 |iter (s:ByteArray) (pos:Nat)
 |raw (g:Nat) (f:Array Value→Obj) (xs:List AV)
instance:Inhabited AObj:=⟨.none⟩
abbrev gz:=List AObj
def jb(c:Ctx)(i:Nat):AObj→Option Nat
 | .none=>Option.none
 | .cells _| .map _| .iter _ _| .raw _ _ _=>c.blk i
 | .arr _ _ rows| .uarr _ _ rows| .oarr _ _ rows=>(c.sl i rows.length).bind Value.ownBlock
def AObj.shares(o:AObj)(j:Nat):Prop :=
 match o with
 | .arr _ sz rows=>j<rows.length * sz
 |_=>False
def ObjR(c:Ctx)(w:World)(i:Nat):AObj→Prop
 | .none=>True
 | .cells xs=>∃b vs T,c.blk i=some b∧w.heap[b]?=some (.cells vs T (0,0))∧vs.size=xs.length ∧
   ∀(j:Nat) (x:AV) (v:Value),xs[j]?=some x→vs[j]?=some v→Rel c x v∧v.oneCell'=true
 | .map es=>∃b lz clock,c.blk i=some b∧w.heap[b]?=some (.map lz clock)∧lz.size=es.length ∧
   ∀(j:Nat) (k x:AV) (ce:MapEntry),es[j]?=some (k,x)→lz[j]?=some ce→Rel c k ce.key∧Rel c x ce.val
 | .iter s pos=>∃b,c.blk i=some b∧w.heap[b]?=some (.stringIter s pos)
 | .raw g f xs=>c.blk i=some g∧∃vs,w.heap[g]?=some (f vs)∧vs.size=xs.length∧∀(j:Nat) (x:AV) (v:Value),xs[j]?=some x→vs[j]?=some v→Rel c x v
 | .arr e sz rows=>∃v vs,c.sl i rows.length=some v∧v.oneCell'=true∧(∀m,rows.length<m→c.sl i m=Option.none)∧w.ownsRow 0 e sz v rows.length vs∧rows.length≤68719476736∧(∀r,r∈rows→r.length=sz) ∧
   (∀(i' j:Nat) (r:List AV) (x:AV),rows[i']?=some r→r[j]?=some x→∃u,vs[i' * sz+j]?=some u∧DRel c.D x u) ∧
   ∀b j,v.ownBlock=some b→j<rows.length * sz→∃u,c.D b j=some u
 | .uarr e sz rows=>∃v vs,c.sl i rows.length=some v∧v.oneCell'=true∧(∀m,rows.length<m→c.sl i m=Option.none)∧w.ownsRow 0 e sz v rows.length vs∧rows.length≤68719476736∧(∀r,r∈rows→r.length=sz) ∧
   (∀(i' j:Nat) (r:List AV) (x:AV),rows[i']?=some r→r[j]?=some x→∃u,vs[i' * sz+j]?=some u∧DRel c.D x u)
 | .oarr e sz rows=>∃v vs,c.sl i rows.length=some v∧v.oneCell'=true∧(∀m,rows.length<m→c.sl i m=Option.none)∧w.ownsRow 0 e sz v rows.length vs∧rows.length≤68719476736∧(∀r,r∈rows→r.length=sz) ∧
   (∀(i' j:Nat) (r:List AV) (x:AV),rows[i']?=some r→r[j]?=some x→∃u,vs[i' * sz+j]?=some u∧Rel c x u∧u.oneCell'=true)
structure HSim(c:Ctx)(h:gz)(w:World):Prop where
 data:∀b j v,c.D b j=some v→w.cell? ⟨b,j,none⟩=some v
 dom:∀i,h.length≤i→c.blk i=none∧∀m,c.sl i m=none
 obj:∀i o,h[i]?=some o→ObjR c w i o
 apart:∀i j o o' b,h[i]?=some o→h[j]?=some o'→jb c i o=some b→jb c j o'=some b→i=j
 sep:∀i o b j v,h[i]?=some o→jb c i o=some b→c.D b j=some v→o.shares j
structure Ent where
 N:Nat
 c:Ctx
 h:gz
 w:World
structure Ent.ok(E:Ent)(c:Ctx)(h:gz)(w:World):Prop where
 edom:∀i,E.h.length≤i→E.c.blk i=none∧∀m,E.c.sl i m=none
 ext:E.c.le c
 blk0:∀n,n<E.h.length→c.blk n=E.c.blk n
 len:E.h.length≤h.length
 os:w.os=E.w.os
 tape:w.tape=E.w.tape
 output:w.output=E.w.output
 size:E.w.heap.size≤w.heap.size
 frame:∀b,b<E.w.heap.size→(∀i o,E.h[i]?=some o→jb E.c i o≠some b)→w.heap[b]?=E.w.heap[b]?
 newobj:∀i o b,h[i]?=some o→jb c i o=some b→(∃o0,E.h[i]?=some o0∧jb E.c i o0=some b)∨E.w.heap.size≤b
 dold:∀b j v,c.D b j=some v→E.c.D b j=some v∨E.w.heap.size≤b∨∃i o,E.h[i]?=some o∧jb E.c i o=some b
theorem Ent.ok.refl{c:Ctx}{h:gz}{w:World}(N:Nat)(hs:HSim c h w):(⟨N,c,h,w⟩:Ent).ok c h w :=
 ⟨hs.dom,.refl c,fun _ _=>rfl,ct _,rfl,rfl,rfl,ct _,fun _ _ _=>rfl,fun _ o _ ho hb=>.inl ⟨o,ho,hb⟩,fun _ _ _ h=>.inl h⟩
theorem Ent.ok.trans{E:Ent}{c c':Ctx}{h h':gz}{w w':World}{N:Nat}(k:E.ok c h w)(k':(⟨N,c,h,w⟩:Ent).ok c' h' w'):E.ok c' h' w' where
 edom:=k.edom
 ext:=k.ext.trans k'.ext
 blk0:=fun n hn=>(k'.blk0 n (qlo hn k.len)).trans (k.blk0 n hn)
 len:=d9 k.len k'.len
 os:=k'.os.trans k.os
 tape:=k'.tape.trans k.tape
 output:=k'.output.trans k.output
 size:=d9 k.size k'.size
 frame:=fun b hb iz=>(k'.frame b (qlo hb k.size) fun i o ho hbk=>by
   rcases k.newobj i o b ho hbk with⟨o0,h0,h1⟩|h2
   ·exact iz i o0 h0 h1
   ·omega).trans (k.frame b hb iz)
 newobj:=fun i o b ho hb=>by
  rcases k'.newobj i o b ho hb with⟨o0,h0,h1⟩|h2
  ·rcases k.newobj i o0 b h0 h1 with h3|h3
   ·exact .inl h3
   ·exact .inr h3
  ·exact .inr (d9 k.size h2)
 dold:=fun b j v hD=>by
  rcases k'.dold b j v hD with h|h|⟨i,o,h1,h2⟩
  ·exact k.dold b j v h
  ·exact .inr (.inl (d9 k.size h))
  ·rcases k.newobj i o b h1 h2 with⟨o0,g0,g1⟩|g
   ·exact .inr (.inr ⟨i,o0,g0,g1⟩)
   ·exact .inr (.inl g)
inductive AEnd where
 |ret (v:AV)
 |panic (v:AV)
def EndR(c:Ctx):AEnd→Ending→Prop
 | .ret x,.returned v=>Rel c x v
 | .panic x,.panicked [⟨v,false,false⟩]=>Rel c x v
 |_,_=>False
def RelL(c:Ctx)(xs:List AV)(vs:Array Value):Prop:=vs.size=xs.length∧∀(j:Nat) (x:AV) (v:Value),xs[j]?=some x→vs[j]?=some v→Rel c x v
def qwf(P:Program)(f:FuncId):Prop:=∃fn,P.funcs[f]?=some fn∧fn.body.isSome=true∧(fn.name == "runtime.NumGoroutine")=false
def ACalls(P:Program)(f:FuncId)(args:List AV)(h:gz)(R:AEnd→gz→Prop):Prop :=
 qwf P f∧∀(c:Ctx) (w:World) (vs:Array Value),HSim c h w→RelL c args vs →
  Calls P f vs w fun e w'=>∃r h' c',R r h'∧EndR c' r e∧HSim c' h' w'∧(⟨0,c,h,w⟩:Ent).ok c' h' w'
def APure(P:Program)(f:FuncId)(args:List AV)(r:AV):Prop:=∀h,ACalls P f args h fun e h'=>e=.ret r∧h'=h
theorem ACalls.mono{P:Program}{f:FuncId}{args:List AV}{h:gz}{R R':AEnd→gz→Prop}(k:ACalls P f args h R)(hr:∀r h',R r h'→R' r h'):ACalls P f args h R' :=
 ⟨k.1,fun c w vs hs ha=>(k.2 c w vs hs ha).mono fun _ _ ⟨r,h',c',a,b⟩=>⟨r,h',c',hr _ _ a,b⟩⟩
structure Env where
 t:List (Nat×AV)
 h:gz
def kj:List (Nat×AV)→Nat→AV
 | [],_=>.top
 |(j,x)::l,i=>bif j == i then x else kj l i
def tr:Value→AV
 | .slice none 0 0=>.nils
 | .string s=>if s.size≤68719476736 then .val (.string s)else .top
 |v=>.val v
theorem xba(c:Ctx)(v:Value):Rel c (tr v) v:=by
 unfold tr;split
 ·exact .nils
 ·split
  ·rename_i h;exact .val _ (by simp[zz,h])
  ·exact .top _
 ·rename_i h1 h2;refine .val _ ?_;unfold zz;split
  ·exact(h2 _ rfl).elim
  ·rfl
def xgj(l:List Value):Bool:=l.all (·.oneCell')
def qqq:Value→AV
 | .agg ⟨vs⟩=>match xgj vs with
  |true=>.agg (vs.map tr)
  |false=>.val (.agg ⟨vs⟩)
 |v=>tr v
theorem xtk(c:Ctx)(v:Value):Rel c (qqq v) v:=by
 unfold qqq;split
 ·rename_i vs;split
  ·rename_i h;simp only[xgj,dw]at h;refine .agg _ _ ae (fun j v hv=>h v (c7 bx)) fun j x v hx hv=>?_;simp only[dq,dn]at hx;obtain⟨u,hu,rfl⟩:=hx;have:vs[j]?=some v:=bx;rw[hu]at this;cases this;exact xba c _
  ·exact .val _
 ·exact xba c _
def Env.get(e:Env):Operand→AV
 | .tmp i=>kj e.t i
 | .const v=>qqq v
 | .global _=>.top
 | .func f=>.fn (.func f) [] []
def Env.put(e:Env):Option Tmp→AV→Env
 |some d,x=>{ e with t:=(d,x)::e.t }
 |none,_=>e
structure Sim(N:Nat)(c:Ctx)(e:Env)(a:Act)(w:World):Prop where
 defers:a.defers=[]
 size:a.tmps.size=N
 tmps:∀i,Rel c (kj e.t i) (a.tmps.getD i undef)
 hs:HSim c e.h w
theorem Sim.eval{N:Nat}{c:Ctx}{e:Env}{a:Act}{w:World}(s:Sim N c e a w)(x:Operand):Rel c (e.get x) (a.eval x):=by
 cases x with
 |tmp i=>exact s.tmps i
 |const v=>exact xtk c v
 |global g=>exact .top _
 |func f=>exact .fn _ [] [] #[] #[] rfl rfl ae ae
theorem Sim.put{N:Nat}{c c':Ctx}{e:Env}{h':gz}{a:Act}{w w':World}(s:Sim N c e a w)(hc:c.le c')(hs:HSim c' h' w'){d:Option Tmp}(hd:∀i,d=some i→i<N){x:AV}{v:Value}
  (hx:Rel c' x v):Sim N c' (({ e with h:=h' }:Env).put d x) (a.put d v) w':=by
 cases d with
 |none=>exact⟨s.defers,s.size,fun i=>(s.tmps i).mono hc,hs⟩
 |some d =>
  refine⟨s.defers,by simp[Act.put,s.size],fun i=>?_,hs⟩;have ws:=hd d rfl;have ib:d<a.tmps.size:=by rw[s.size];exact ws
  by_cases hi:d=i
  ·subst hi;simp[Env.put,kj,Act.put,ib,hx]
  ·have h1:(d == i)=false:=qf1;simp only[Env.put,kj,h1,cond_false,Act.put];have:=(s.tmps i).mono hc;simpa[ed,gt hi]using this
inductive AExit where
 |normal
 |exit (id:Nat)
 |ret
 |panic (v:AV)
def XR(c:Ctx):AExit→Exit→Prop
 | .normal,.normal=>True
 | .exit i,.exit j=>i=j
 | .ret,.ret=>True
 | .panic x,.panic [⟨v,false,false⟩]=>Rel c x v
 |_,_=>False
def qna(E:Ent)(Q:AExit→Env→Prop):Exit→Act→World→Prop :=
 fun x a w=>∃x' e c,Q x' e∧XR c x' x∧Sim E.N c e a w∧E.ok c e.h w
def AWp(P:Program)(E:Ent)(code:Code)(Q:AExit→Env→Prop)(e:Env):Prop :=
 ∀c a w,Sim E.N c e a w→E.ok c e.h w→code.wp P (qna E Q) a w
def qrb(P:Program)(E:Ent)(ops:Array Oper)(l:List Oper)(Q:AExit→Env→Prop)(e:Env):Prop :=
 ∀c a w,Sim E.N c e a w→E.ok c e.h w→wpList P ops (qna E Q) l a w
section
def AV.Wk(x y:AV):Prop:=∀c v,Rel c x v→Rel c y v
theorem AV.Wk.refl(x:AV):x.Wk x:=fun _ _ h=>h
theorem AV.Wk.trans{x y z:AV}(h:x.Wk y)(k:y.Wk z):x.Wk z:=fun c v r=>k c v (h c v r)
theorem AV.Wk.top(x:AV):x.Wk .top:=fun _ v _=>.top v
theorem AV.Wk.nils:AV.nils.Wk (.slice []):=fun _ _ h=>by
 cases h with
 |data h=>cases h
 |nils=>exact .data .nil
theorem AV.Wk.opt(x:AV):(AV.opt true x).Wk x:=fun _ _ h=>by
 cases h with
 |data h=>cases h
 |opt g x v h hn=>exact h rfl
def wkL:List AV→List AV→Prop
 | [],[]=>True
 |x::xs,y::ys=>x.Wk y∧wkL xs ys
 |_,_=>False
theorem wkL.refl:∀xs,wkL xs xs
 | []=>trivial
 |x::xs=>⟨.refl x,wkL.refl xs⟩
theorem wkL.length:∀{xs ys:List AV},wkL xs ys→xs.length=ys.length
 | [],[],_=>rfl
 |_::_,_::_,h=>by simp[wkL.length h.2]
theorem wkL.get:∀{xs ys:List AV},wkL xs ys→∀(j:Nat) (y:AV),ys[j]?=some y→∃x,xs[j]?=some x∧x.Wk y
 | [],[],_,j,y,h=>by simp at h
 |x::xs,z::ys,h,0,y,hj=>by simp at hj;subst hj;exact⟨x,ae,h.1⟩
 |x::xs,z::ys,h,j+1,y,hj=>by
  obtain⟨x',h1,h2⟩:=h.2.get j y bf;exact⟨x',av,h2⟩
theorem AV.Wk.agg{xs ys:List AV}(h:wkL xs ys):(AV.agg xs).Wk (.agg ys):=fun c v r=>by
 cases r with
 |data h=>cases h
 |agg xs vs hl ho hr =>
  refine .agg ys vs (by rw[hl,h.length]) ho fun j y v hy hv=>?_;obtain⟨x,hx,hw⟩:=h.get j y hy;exact hw c v (hr j x v hx hv)
theorem AV.Wk.tuple{xs ys:List AV}(h:wkL xs ys):(AV.tuple xs).Wk (.tuple ys):=fun c v r=>by
 cases r with
 |data h=>cases h
 |tuple xs vs hl hr =>
  refine .tuple ys vs (by rw[hl,h.length]) fun j y v hy hv=>?_;obtain⟨x,hx,hw⟩:=h.get j y hy;exact hw c v (hr j x v hx hv)
theorem AV.Wk.iface{x y:AV}(t:TypeId)(h:x.Wk y):(AV.iface t x).Wk (.iface t y):=fun c v r=>by
 cases r with
 |data h=>cases h
 |iface t x v hr=>exact .iface t y v (h c v hr)
def ObjWk:AObj→AObj→Prop
 | .cells xs,.cells ys=>wkL xs ys
 |_,.none=>True
 |o,o'=>o=o'
theorem ObjWk.refl(o:AObj):ObjWk o o:=by
 cases o<;>simp[ObjWk];exact wkL.refl _
def hwk:gz→gz→Prop
 |_,[]=>True
 |o::l,o'::l'=>ObjWk o o'∧hwk l l'
 | [],_::_=>False
theorem hwk.refl:∀h,hwk h h
 | []=>trivial
 |o::l=>⟨.refl o,hwk.refl l⟩
theorem hwk.app{l l':gz}(k:hwk l l'):∀h,hwk (h++l) (h++l')
 | []=>k
 |o::h=>⟨.refl o,hwk.app k h⟩
theorem hwk.app0{l:gz}:∀h,hwk (h++l) h
 | []=>by cases l<;>trivial
 |o::h=>⟨.refl o,hwk.app0 h⟩
theorem hwk.get:∀{h h':gz},hwk h h'→∀(i:Nat) (o':AObj),h'[i]?=some o'→∃o,h[i]?=some o∧ObjWk o o'
 |h,[],_,i,o',hi=>by simp at hi
 | [],_::_,k,_,_,_=>k.elim
 |o::l,p::l',k,0,o',hi=>by simp at hi;subst hi;exact⟨o,ae,k.1⟩
 |o::l,p::l',k,i+1,o',hi=>by
  obtain⟨q,h1,h2⟩:=k.2.get i o' qf1;exact⟨q,av,h2⟩
def AObj.under(n:Nat):AObj→Bool
 | .cells xs=>nb n xs
 | .map es=>es.all fun p=>p.1.under n&&p.2.under n
 | .raw _ _ xs=>nb n xs
 | .oarr _ _ rows=>rows.all fun r=>nb n r
 |_=>true
def hUnder(n:Nat):gz→Bool
 | []=>true
 |o::l=>o.under n&&hUnder n l
theorem qcb{n:Nat}:∀{h:gz},hUnder n h=true↔∀o,o∈h→o.under n=true
 | []=>by simp[hUnder]
 |o::l=>by simp[hUnder,qcb (h:=l)]
theorem tn{n:Nat}:∀{h l:gz},hUnder n (h++l)=(hUnder n h&&hUnder n l)
 | [],l=>by simp[hUnder]
 |o::h,l=>by simp[hUnder,tn (h:=h),Bool.and_assoc]
mutual
theorem AV.under_mono{n m:Nat}(hm:n≤m):∀(x:AV),x.under n=true→x.under m=true
 | .top,_| .val _,_| .nils,_| .slice _,_| .eptr _,_=>rfl
 | .agg xs,h| .tuple xs,h| .lit xs,h=>by simp only[AV.under]at h⊢;exact qct hm xs h
 | .fn _ ys xs,h=>by simp only[AV.under,c0]at h⊢;exact⟨qct hm ys h.1,qct hm xs h.2⟩
 | .ptr i _,h| .mapr i,h| .own i _,h| .optr i _ _ _ _,h=>by simp only[AV.under,decide_eq_true_eq]at h⊢;omega
 | .iface _ v,h=>by simp only[AV.under]at h⊢;exact AV.under_mono hm v h
 | .opt g v,h=>by
  cases g with
  |false=>rfl
  |true=>simp only[AV.under,Bool.not_true,qlw]at h⊢;exact AV.under_mono hm v h
theorem qct{n m:Nat}(hm:n≤m):∀(xs:List AV),nb n xs=true→nb m xs=true
 | [],_=>rfl
 |x::xs,h=>by
  simp only[nb,c0]at h⊢;exact⟨AV.under_mono hm x h.1,qct hm xs h.2⟩
end
theorem ww{n m:Nat}(hm:n≤m){h:gz}(k:hUnder n h=true):hUnder m h=true:=by
 rw[qcb]at k⊢;intro o ho;have:=k o ho;cases o with
 |none=>rfl
 |cells xs=>exact qct hm xs this
 |map es =>
  simp only[AObj.under,dw,c0]at this⊢;exact fun p hp=>⟨AV.under_mono hm _ (this p hp).1,AV.under_mono hm _ (this p hp).2⟩
 |arr e sz rows=>rfl
 |uarr e sz rows=>rfl
 |oarr e sz rows =>
  simp only[AObj.under,dw]at this⊢;exact fun r hr=>qct hm r (this r hr)
 |iter s pos=>rfl
 |raw g f xs=>exact qct hm xs this
theorem HSim.hUnder{c:Ctx}{h:gz}{w:World}(s:HSim c h w):Abs.hUnder h.length h=true:=by
 rw[qcb];intro o ho;obtain⟨i,hi⟩:=dv ho;have k:=s.obj i o hi;cases o with
 |none=>rfl
 |arr=>rfl
 |uarr=>rfl
 |iter=>rfl
 |oarr e sz rows =>
  obtain⟨v,vs,h1,ly,hm,h2,h3,h4,h5⟩:=k;simp only[AObj.under,dw,qca];intro r hr x hx;obtain⟨i',ke⟩:=dv hr;obtain⟨j,hj⟩:=dv hx;obtain⟨u,_,hu,_⟩:=h5 i' j r x ke hj;exact hu.under s.dom
 |raw g f xs =>
  obtain⟨h1,vs,h2,h3,h4⟩:=k;simp only[AObj.under,qca];intro x hx;obtain⟨j,hj⟩:=dv hx;have ib:j<vs.size:=by rw[h3];exact(cq.1 hj).1
  exact(h4 j x vs[j] hj bp).under s.dom
 |cells xs =>
  obtain⟨b,vs,T,h1,h2,h3,h4⟩:=k;simp only[AObj.under,qca];intro x hx;obtain⟨j,hj⟩:=dv hx;have ib:j<vs.size:=by rw[h3];exact(cq.1 hj).1
  exact(h4 j x vs[j] hj bp).1.under s.dom
 |map es =>
  obtain⟨b,lz,clock,h1,h2,h3,h4⟩:=k;simp only[AObj.under,dw,c0];intro p hp;obtain⟨j,hj⟩:=dv hp;have ib:j<lz.size:=by rw[h3];exact(cq.1 hj).1
  have:=h4 j p.1 p.2 lz[j] hj bp;exact⟨this.1.under s.dom,this.2.under s.dom⟩
theorem xf3{c:Ctx}{n i:Nat}(hi:i<n)(o:AObj):jb (c.trunc n) i o=jb c i o:=by
 cases o<;>simp[jb,Ctx.trunc,hi]
theorem xfj{c:Ctx}{i:Nat}{o o':AObj}(k:ObjWk o o'){b:Nat}(h:jb c i o'=some b):jb c i o=some b:=by
 cases o<;>cases o'<;>simp_all[ObjWk,jb]
theorem ObjWk.shares{o o':AObj}(k:ObjWk o o'){c:Ctx}{i b:Nat}(hb:jb c i o'=some b)(j:Nat)(h:o.shares j):o'.shares j:=by
 cases o<;>cases o'<;>simp_all[ObjWk,AObj.shares,jb]
def Wk(E:Ent)(e e1:Env):Prop:=∀c a w,Sim E.N c e a w→E.ok c e.h w→∃c1,Sim E.N c1 e1 a w∧E.ok c1 e1.h w
theorem Wk.refl(E:Ent)(e:Env):Wk E e e:=fun c _ _ h k=>⟨c,h,k⟩
theorem Wk.trans{E:Ent}{e e1 e2:Env}(h:Wk E e e1)(k:Wk E e1 e2):Wk E e e2:=fun c a w s o =>
 let ⟨c1,s1,o1⟩:=h c a w s o
 k c1 a w s1 o1
def wkT(n:Nat)(t:List (Nat×AV)):List (Nat×AV)→Prop
 | []=>True
 |(i,x)::l=>(kj t i).Wk x∧x.under n=true∧wkT n t l
theorem wkT.look{n:Nat}{t:List (Nat×AV)}:∀{l:List (Nat×AV)},wkT n t l→∀i,(kj t i).Wk (kj l i)∧(kj l i).under n=true
 | [],_,i=>⟨.top _,rfl⟩
 |(j,x)::l,h,i=>by
  by_cases hj:j=i
  ·subst hj;simp only[kj,beq_self_eq_true,cond_true];exact⟨h.1,h.2.1⟩
  ·have:(j == i)=false:=bf;simp only[kj,this,cond_false];exact wkT.look h.2.2 i
theorem Wk.mk{E:Ent}{e e1:Env}(hn:E.h.length≤e1.h.length)(hh:hwk e.h e1.h)(hu:hUnder e1.h.length e1.h=true)(ht:wkT e1.h.length e.t e1.t):Wk E e e1:=by
 intro c a w s o;have qw8:∀(i:Nat) (o':AObj),e1.h[i]?=some o'→i<e1.h.length:=fun i o' hi=>(cq.1 hi).1;refine⟨c.trunc e1.h.length,⟨s.defers,s.size,fun i=>?_,?_⟩,?_⟩
 ·have:=ht.look i;exact(this.1 c _ (s.tmps i)).trunc this.2
 ·refine⟨s.hs.data,fun i hi=>⟨by simp[Ctx.trunc,Nat.not_lt.2 hi],fun m=>by simp[Ctx.trunc,Nat.not_lt.2 hi]⟩,fun i o' hi=>?_,fun i j o' p b hi hj hb il=>?_,fun i o' b j v hi hb hD=>?_⟩
  ·have ib:=qw8 i o' hi;obtain⟨p,hp,hw⟩:=hh.get i o' hi;have k:=s.hs.obj i p hp;have hun:o'.under e1.h.length=true:=qcb.1 hu o' (c7 hi);cases o' with
   |none=>trivial
   |cells ys =>
    cases p with
    |cells xs =>
     obtain⟨b,vs,T,h1,h2,h3,h4⟩:=k;simp only[ObjWk]at hw;simp only[AObj.under,qca]at hun;refine⟨b,vs,T,qfy,h2,by rw[h3,hw.length],fun j y v hy hv=>?_⟩;obtain⟨x,hx,hwk⟩:=hw.get j y hy;have:=h4 j x v hx hv;exact⟨(hwk c v this.1).trunc (hun y (c7 hy)),this.2⟩
    |_=>simp[ObjWk]at hw
   |map es =>
    have:p=.map es:=qf6;subst this;obtain⟨b,lz,clock,h1,h2,h3,h4⟩:=k;simp only[AObj.under,dw,c0]at hun;refine⟨b,lz,clock,qfy,h2,h3,fun j kk x ce hy hv=>?_⟩;have:=h4 j kk x ce hy hv;have hm:=hun _ (c7 hy);exact⟨this.1.trunc hm.1,this.2.trunc hm.2⟩
   |iter s pos =>
    have:p=.iter s pos:=qf6;subst this;obtain⟨b,h1,h2⟩:=k;exact⟨b,qfy,h2⟩
   |raw g f xs =>
    have:p=.raw g f xs:=qf6;subst this;obtain⟨h1,vs,h2,h3,h4⟩:=k;simp only[AObj.under,qca]at hun;exact⟨qfy,vs,h2,h3,fun j x v hx hv=>(h4 j x v hx hv).trunc (hun x (c7 hx))⟩
   |arr t sz rows =>
    have:p=.arr t sz rows:=qf6;subst this;obtain⟨v,vs,h1,ho,hm,h2⟩:=k;exact⟨v,vs,qfy,ho,fun m pc=>by simp[Ctx.trunc,ib,hm m pc],h2⟩
   |uarr t sz rows =>
    have:p=.uarr t sz rows:=qf6;subst this;obtain⟨v,vs,h1,ho,hm,h2⟩:=k;exact⟨v,vs,qfy,ho,fun m pc=>by simp[Ctx.trunc,ib,hm m pc],h2⟩
   |oarr t sz rows =>
    have:p=.oarr t sz rows:=qf6;subst this;obtain⟨v,vs,h1,ho,hm,h2,h3,h4,h5⟩:=k;simp only[AObj.under,dw,qca]at hun;refine⟨v,vs,qfy,ho,fun m pc=>by simp[Ctx.trunc,ib,hm m pc],h2,h3,h4,fun i' j r x hr hx=>?_⟩;obtain⟨u,g1,g2,g3⟩:=h5 i' j r x hr hx;exact⟨u,g1,g2.trunc (hun r (c7 hr) x (c7 hx)),g3⟩
  ·obtain⟨o1,h1,w1⟩:=hh.get i o' hi;obtain⟨o2,h2,w2⟩:=hh.get j p hj;rw[xf3 (qw8 i o' hi)]at hb;rw[xf3 (qw8 j p hj)]at il;exact s.hs.apart i j o1 o2 b h1 h2 (xfj w1 hb) (xfj w2 il)
  ·obtain⟨o1,h1,w1⟩:=hh.get i o' hi;rw[xf3 (qw8 i o' hi)]at hb;exact w1.shares hb j (s.hs.sep i o1 b j v h1 (xfj w1 hb) hD)
 ·refine⟨o.edom,⟨o.ext.D,fun i b hb=>?_,fun i n v hv=>?_⟩,fun n ib=>by simp only[Ctx.trunc];rw[if_pos aa];exact o.blk0 n ib,hn,o.os,o.tape,o.output,o.size,o.frame,fun i o' b hi hb=>?_,o.dold⟩
  ·have hi:i<e1.h.length:=by
    rcases d8 i e1.h.length with h|h
    ·exact h
    ·rw[(o.edom i (d9 hn h)).1]at hb;cases hb
   simp[Ctx.trunc,hi,o.ext.blk i b hb]
  ·have hi:i<e1.h.length:=by
    rcases d8 i e1.h.length with h|h
    ·exact h
    ·rw[(o.edom i (d9 hn h)).2]at hv;cases hv
   simp[Ctx.trunc,hi,o.ext.sl i n v hv]
  ·obtain⟨o1,h1,w1⟩:=hh.get i o' hi;rw[xf3 (qw8 i o' hi)]at hb;exact o.newobj i o1 b h1 (xfj w1 hb)
section rules
variable {P:Program} {E:Ent} {Q:AExit→Env→Prop} {e:Env}
def AExit.then(K:Env→Prop)(Q:AExit→Env→Prop):AExit→Env→Prop
 | .normal,e=>K e
 |x,e=>Q x e
def AExit.inBlock(id:Nat)(Q:AExit→Env→Prop):AExit→Env→Prop
 | .exit i,e=>if i=id then Q .normal e else Q (.exit i) e
 |x,e=>Q x e
theorem AWp.mono{c:Code}{Q':AExit→Env→Prop}(h:AWp P E c Q e)(hq:∀x e,Q x e→Q' x e):AWp P E c Q' e :=
 fun k a w s o=>wp_mono (h k a w s o) fun _ _ _ ⟨x',e',c',q,r⟩=>⟨x',e',c',hq _ _ q,r⟩
theorem AWp.wk{c:Code}{e1:Env}(hw:Wk E e e1)(h:AWp P E c Q e1):AWp P E c Q e :=
 fun k a w s o=>let ⟨c1,s1,o1⟩:=hw k a w s o;h c1 a w s1 o1
theorem xd8(h:Q .normal e):AWp P E .skip Q e:=fun c _ _ s o=>wp_skip ⟨.normal,e,c,h,trivial,s,o⟩
theorem xk8(h:Q .ret e):AWp P E .ret Q e:=fun c _ _ s o=>wp_ret ⟨.ret,e,c,h,trivial,s,o⟩
theorem je8{id:Nat}(h:Q (.exit id) e):AWp P E (.exit id) Q e:=fun c _ _ s o=>wp_exit ⟨.exit id,e,c,h,rfl,s,o⟩
theorem ln{x y:Code}(h:AWp P E x (AExit.then (AWp P E y Q) Q) e):AWp P E (.seq x y) Q e:=fun c a w s o=>by
 refine wp_seq (wp_mono (h c a w s o) ?_);rintro ex a' w' ⟨x',e',c',hq,hx,jd,ok'⟩;cases x' with
 |normal=>cases ex<;>simp only[XR]at hx;exact hq c' a' w' jd ok'
 |exit i=>cases ex<;>simp only[XR]at hx;exact⟨.exit i,e',c',hq,hx,jd,ok'⟩
 |ret=>cases ex<;>simp only[XR]at hx;exact⟨.ret,e',c',hq,trivial,jd,ok'⟩
 |panic v =>
  cases ex with
  |panic ch=>exact⟨.panic v,e',c',hq,hx,jd,ok'⟩
  |_=>simp only[XR]at hx
theorem jef{id:Nat}{b:Code}(h:AWp P E b (AExit.inBlock id Q) e):AWp P E (.block id b) Q e:=fun c a w s o=>by
 refine wp_block (wp_mono (h c a w s o) ?_);rintro ex a' w' ⟨x',e',c',hq,hx,jd,ok'⟩;cases x' with
 |normal=>cases ex<;>simp only[XR]at hx;exact⟨.normal,e',c',hq,trivial,jd,ok'⟩
 |exit i =>
  cases ex with
  |exit j =>
   simp only[XR]at hx;subst hx;simp only[Exit.inBlock];simp only[AExit.inBlock]at hq;split
   ·rename_i hi;rw[if_pos hi]at hq;exact⟨.normal,e',c',hq,trivial,jd,ok'⟩
   ·rename_i hi;rw[if_neg hi]at hq;exact⟨.exit i,e',c',hq,rfl,jd,ok'⟩
  |_=>simp only[XR]at hx
 |ret=>cases ex<;>simp only[XR]at hx;exact⟨.ret,e',c',hq,trivial,jd,ok'⟩
 |panic v =>
  cases ex with
  |panic ch=>exact⟨.panic v,e',c',hq,hx,jd,ok'⟩
  |_=>simp only[XR]at hx
theorem Rel.bool{c:Ctx}{b:Bool}{v:Value}(h:Rel c (.val (.bool b)) v):v=.bool b:=by
 cases h with
 |data h=>cases h;rfl
 |val=>rfl
theorem xah{x:Operand}{t f:Code}{b:Bool}(hb:e.get x=.val (.bool b))(ht:b=true→AWp P E t Q e)(hf:b=false→AWp P E f Q e):AWp P E (.cond x t f) Q e :=
 fun c a w s o=>wp_cond_split (Rel.bool (hb▸s.eval x)) (fun h=>ht h c a w s o) (fun h=>hf h c a w s o)
theorem jof{ι:Type}{c:Code}{Q:Exit→Act→World→Prop}{a:Act}{w:World}(I:ι→Act→World→Prop)(μ:ι→Nat)(i0:ι)(h₀:I i0 a w)
  (round:∀i a w,I i a w→c.wp P (Exit.then (fun a' w'=>∃j,I j a' w'∧μ j<μ i) Q) a w):(Code.loop c).wp P Q a w:=by
 intro b k cs;have key:∀n i a w,μ i=n→I i a w→∃e a' w',Q e a' w'∧Arrives P (lone (b.at a (.code c::.inLoop c::k)) cs w) b k cs e a' w':=by
  intro n
  induction n using Nat.strongRecOn with
  |_ n ih =>
   intro i a w hn hI;obtain⟨e,a₁,w₁,hq,qnb⟩:=round i a w hI b (.inLoop c::k) cs;cases e with
   |normal =>
    obtain⟨j,hI₁,ib⟩:=hq;obtain⟨e₂,a₂,w₂,hq₂,harr₂⟩:=ih (μ j) (hn▸ib) j a₁ w₁ rfl hI₁;exact⟨e₂,a₂,w₂,hq₂,.of_steps (Steps.trans qnb (.one step_inLoop)) harr₂⟩
   |exit id=>exact⟨_,a₁,w₁,hq,.pass (x:=.inLoop c) rfl (fun _ _=>.inl ae) qnb⟩
   |goto l=>exact⟨_,a₁,w₁,hq,.pass (x:=.inLoop c) rfl (fun _ _=>.inl ae) qnb⟩
   |ret=>exact⟨_,a₁,w₁,hq,.pass (x:=.inLoop c) rfl (fun _ _=>.inl ae) qnb⟩
   |panic ch=>exact⟨_,a₁,w₁,hq,.pass (x:=.inLoop c) rfl (fun _ _=>.inl ae) qnb⟩
   |outgrown=>exact⟨_,a₁,w₁,hq,.pass (x:=.inLoop c) rfl (fun _ _=>.inl ae) qnb⟩
 obtain⟨e,a',w',hq,qnb⟩:=key _ i0 a w rfl h₀;exact⟨e,a',w',hq,.of_steps (.one step_loop) qnb⟩
theorem xmf{ι:Type}{b:Code}(I:ι→Prop)(S:ι→Env)(μ:ι→Nat)(i0:ι)(h0:I i0)(hw:Wk E e (S i0))
  (round:∀i,I i→AWp P E b (AExit.then (fun e'=>∃j,I j∧μ j<μ i∧Wk E e' (S j)) Q) (S i)):AWp P E (.loop b) Q e:=fun c a w s o=>by
 refine jof (ι:=ι) (fun i a w=>I i∧∃c,Sim E.N c (S i) a w∧E.ok c (S i).h w) μ i0 ⟨h0,hw c a w s o⟩ ?_;rintro i a w ⟨hI,c,s,o⟩;refine wp_mono (round i hI c a w s o) ?_;rintro ex a' w' ⟨x',e',c',hq,hx,jd,ok'⟩;cases x' with
 |normal =>
  cases ex<;>simp only[XR]at hx;obtain⟨j,hj,ib,hwk⟩:=hq;exact⟨j,⟨hj,hwk c' a' w' jd ok'⟩,ib⟩
 |exit i=>cases ex<;>simp only[XR]at hx;exact⟨.exit i,e',c',hq,hx,jd,ok'⟩
 |ret=>cases ex<;>simp only[XR]at hx;exact⟨.ret,e',c',hq,trivial,jd,ok'⟩
 |panic v =>
  cases ex with
  |panic ch=>exact⟨.panic v,e',c',hq,hx,jd,ok'⟩
  |_=>simp only[XR]at hx
theorem xfx{id:Nat}{ops:Array Oper}(h:qrb P E ops ops.toList Q e):AWp P E (.region id ops false) Q e :=
 fun c a w s o=>wp_region_list (h c a w s o)
theorem xsw{ops:Array Oper}(h:Q .normal e):qrb P E ops [] Q e:=fun c _ _ s o=>⟨.normal,e,c,h,trivial,s,o⟩
end rules
end
end Go.Abs
