/- Parts of the proof. -/
import Derived.Test.YtehhdlgjfdnafaaGreatDoorXB11
namespace Go.Proofs.YtehhdlgjfdnafaaGreatDoor
variable{p:Prop}
set_option maxHeartbeats 90000000
set_option maxRecDepth 100000
open Go.Lib (hid)
open Go.ChangeShapes Go.WideShapes Go.ChangeAt Go.RowKit List
set_option linter.unusedVariables false
set_option linter.unusedSimpArgs false
def bp.wz (ρ:bp)(l:aI)(lg dp:Bool):Array Value:= #[.slice (some ⟨ρ.gl,0,none⟩) ρ.n ρ.c,.int .i64 ((ρ.n:Int) - l.length),.bool lg,.bool dp]
structure bp.fU (ρ:bp) (w:World) (l:aI) (lg dp:Bool):Prop where
 blk:av w ρ.g 79 (ρ.wz l lg dp)
 lt:ρ.gl < ρ.g
 cell:∀k t,ρ.AK[k]?=some t->w.cell? ⟨ρ.gl,k*4,none⟩=some (.int .u8 t.w.k)/\w.cell? ⟨ρ.gl,k*4+1,none⟩=some (.string ⟨t.w.s.toArray⟩)/\w.cell? ⟨ρ.gl,k*4+2,none⟩=some (.int .i64 t.w.n)/\w.cell? ⟨ρ.gl,k*4+3,none⟩=some (.int .i64 t.p)
 of:(dX.good l).of ρ.ws
 small:ρ.n<=5000
 AL:∀t∈ρ.AK,0<=t.w.n/\t.w.n<=9223372036854775807
 env:∃B,B<=ρ.g/\Env B w
section
variable {ρ:bp} {w w':World} {l l':aI} {lg dp lg' dp':Bool}
theorem bp.fU.later (h:ρ.fU w l lg dp)(hb:Below w.heap.size w w'):ρ.fU w' l lg dp:=
 ⟨h.blk.later hb,h.lt,λ k t hk=>by
   have hl:ρ.gl < w.heap.size:=Nat.lt_trans h.lt h.blk.lt
   have c:=λ o=>hb.cell (p:=⟨ρ.gl,o,none⟩) hl
   obtain⟨h1,h2,h3,h4⟩:=h.cell k t hk
   exact⟨(c _).trans h1,(c _).trans h2,(c _).trans h3,(c _).trans h4⟩,h.of,h.small,h.AL,by obtain⟨B,h1,h2⟩:=h.env;exact⟨B,h1,h2.later hb⟩⟩
theorem bp.fU.nt (h:ρ.fU w l lg dp):ρ.g < w.heap.size:=h.blk.lt
theorem bp.fU.set (h:ρ.fU w l lg dp)(hw:av w' ρ.g 79 (ρ.wz l' lg' dp'))(hg:w.grownBy w' (some ρ.g))(ho:(dX.good l').of ρ.ws):ρ.fU w' l' lg' dp':=
 ⟨hw,h.lt,λ k t hk=>by
   have hl:ρ.gl < w.heap.size:=Nat.lt_trans h.lt h.blk.lt
   have c:=cell_of_heap (hg.block ρ.gl hl (λ e=>by injection e with e;have:=h.lt;omega))
   obtain⟨h1,h2,h3,h4⟩:=h.cell k t hk
   exact⟨(c _).trans h1,(c _).trans h2,(c _).trans h3,(c _).trans h4⟩,ho,h.small,h.AL,by obtain⟨B,h1,h2⟩:=h.env;exact⟨B,h1,h2.grown hg h1⟩⟩
theorem bp.fU.left (h:ρ.fU w l lg dp):0 < l.length/\l.length<=ρ.n:=by have:=dX.Ij h.of;simpa [bp.ws,bp.n,dX.left] using this
theorem bp.fU.far {q:Nat}(h:ρ.fU w l lg dp)(hq:ρ.g < q)(i:Nat)(u:Value):ρ.fU (w.setCell ⟨q,i,none⟩ u) l lg dp:=
 ⟨h.blk.far (p:=⟨q,i,none⟩) Tad u,h.lt,λ k t hk=>by
   have c:=cell_of_heap (Below.heap_setCell w ⟨q,i,none⟩ u ρ.gl (by have:=h.lt;simp;omega))
   obtain⟨h1,h2,h3,h4⟩:=h.cell k t hk
   exact⟨(c _).trans h1,(c _).trans h2,(c _).trans h3,(c _).trans h4⟩,h.of,h.small,h.AL,by obtain⟨B,h1,h2⟩:=h.env;exact⟨B,h1,h2.grown (bu (aB (Below.refl _ _)) i u) Taa⟩⟩
theorem bp.fU.next (h:ρ.fU w l lg dp):∃t r,ρ.AK[ρ.n - l.length]?=some t/\l=t.w::r:=by
 obtain⟨h1,h2⟩:=h.left;have hlt:ρ.n - l.length < ρ.AK.length:=by unfold bp.n at*;omega
 obtain⟨t,r,hl,hk⟩:=dX.of_next h.of;refine⟨_,r,getElem?_eq_getElem hlt,?_⟩;have e:ρ.ws.length - l.length=ρ.n - l.length:=by simp[bp.ws,bp.n]
 exact ZdM
end
structure aY (ρ:bp) (W w':World) (l:aI) (lg dp:Bool):Prop where
 at_:ρ.fU w' l lg dp
 grown:W.grownBy w' (some ρ.g)
section
variable {ρ:bp} {W w w':World} {l l':aI} {lg dp lg' dp':Bool}
theorem aY.refl (h:ρ.fU w l lg dp):aY ρ w w l lg dp:=⟨h,aB (Below.refl _ _)⟩
theorem aY.aC (h:ρ.fU w l lg dp)(hb:Below w.heap.size w w'):aY ρ w w' l lg dp:=⟨h.later hb,aB hb⟩
theorem aY.later (h:aY ρ W w l lg dp)(hb:Below w.heap.size w w'):aY ρ W w' l lg dp:=⟨h.at_.later hb,ai h.grown (aB hb)⟩
theorem aY.trans (h:aY ρ W w l lg dp)(k:aY ρ w w' l' lg' dp'):aY ρ W w' l' lg' dp':=⟨k.at_,ai h.grown k.grown⟩
theorem aY.lt (h:aY ρ W w l lg dp):ρ.g < w.heap.size:=h.at_.nt
theorem aY.size (h:aY ρ W w l lg dp):W.heap.size<=w.heap.size:=h.grown.size
theorem aY.far {q:Nat}(h:aY ρ W w l lg dp)(hW:ρ.g < W.heap.size)(hq:W.heap.size<=q)(i:Nat)(u:Value):aY ρ W (w.setCell ⟨q,i,none⟩ u) l lg dp:=by exact Zcq
theorem aY.blk {q:Nat} {t:TypeId} {cs:Array Value}(h:aY ρ W w l lg dp)(hq:av W q t cs)(hg:q≠ρ.g):av w q t cs:=hq.grown h.grown λ e=>hg Ta3
theorem aY.own {W0:World} {row:Option Nat}(h:aY ρ W0 w l lg dp)(hg:ρ.g < W0.heap.size)(k:w.grownBy w' row)(hr:∀G,row=some G->W0.heap.size<=G):aY ρ W0 w' l lg dp:=by
 have hk:∀i,i < w.heap.size->some i≠row->w'.heap[i]?=w.heap[i]?:=k.block;have hne:∀i,i < W0.heap.size->some i≠row:=λ i hi e=>by have:=hr i e.symm;omega
 refine⟨⟨(hk _ h.at_.nt (hne _ hg)).trans h.at_.blk,h.at_.lt,λ i t hi=>?_,h.at_.of,h.at_.small,h.at_.AL,by obtain⟨B,h1,h2⟩:=h.at_.env;exact⟨B,h1,h2.below ⟨k.os,k.tape,k.output,k.size,λ i hi=>hk i (by have:=h2.size;omega) (hne i Taa)⟩⟩⟩,k.os.trans h.grown.os,k.tape.trans h.grown.tape,k.output.trans h.grown.output,Nat.le_trans h.grown.size k.size,λ i hi hig=>(hk i (Nat.lt_of_lt_of_le hi h.grown.size) (hne i hi)).trans (h.grown.block i hi hig)⟩;have hl:ρ.gl < W0.heap.size:=Nat.lt_trans h.at_.lt hg;have c:=cell_of_heap (hk ρ.gl (Nat.lt_of_lt_of_le hl h.grown.size) (hne _ hl));obtain⟨h1,h2,h3,h4⟩:=h.at_.cell i t hi;exact Zdk
end
structure QM (ρ:bp) (w:World) (t:np) (pl:Nat):Prop where
 c0:w.cell? ⟨ρ.g,0,none⟩=some (.slice (some ⟨ρ.gl,0,none⟩) ρ.n ρ.c)
 c1:w.cell? ⟨ρ.g,1,none⟩=some (.int .i64 pl)
 d0:w.cell? ⟨ρ.gl,pl*4,none⟩=some (.int .u8 t.w.k)
 d1:w.cell? ⟨ρ.gl,pl*4+1,none⟩=some (.string ⟨t.w.s.toArray⟩)
 d2:w.cell? ⟨ρ.gl,pl*4+2,none⟩=some (.int .i64 t.w.n)
 d3:w.cell? ⟨ρ.gl,pl*4+3,none⟩=some (.int .i64 t.p)
variable{ρ:bp}{w w':World}{pl:Nat}
theorem QM.later{t:np} (h:QM ρ w t pl)(hb:Below w.heap.size w w'):QM ρ w' t pl:=by obtain⟨h0,h1,h3,h4,h5,h6⟩:=h;exact⟨(hb.cell (ax h0)).trans h0,(hb.cell (ax h1)).trans h1,(hb.cell (ax h3)).trans h3,(hb.cell (ax h4)).trans h4,(hb.cell (ax h5)).trans h5,(hb.cell (ax h6)).trans h6⟩
def bp.tok (ρ:bp)(l:aI):np:=(ρ.AK[ρ.n - l.length]?).getD ⟨⟨0,[],0⟩,0⟩
def bp.placeOf (ρ:bp)(n:Nat):Nat:=((ρ.AK[ρ.n - n]?).map (·.p)).getD 0
variable{l:aI}{lg dp:Bool}
theorem bp.fU.mh(h:ρ.fU w l lg dp):∃(t:np) (r:aI) (pl:Nat),t=ρ.tok l/\l=t.w::r/\pl < ρ.n/\ρ.n<=5000/\(pl:Int)=(ρ.n:Int) - l.length/\t.p=ρ.placeOf l.length/\0<=t.w.n/\t.w.n<=9223372036854775807/\QM ρ w t pl:=by
 obtain⟨t,r,ht,hl⟩:=h.next;obtain⟨d0,d1,d2,d3⟩:=h.cell _ t ht;have sD:=h.left;have c0:=h.blk.cell 0;have c1:=h.blk.cell 1;have e:((ρ.n:Int) - l.length)=((ρ.n - l.length:Nat):Int):=by omega
 have hn:=h.AL t (mem_of_getElem? ht);refine⟨t,r,ρ.n - l.length,by unfold bp.tok;rw[ht];rfl,hl,by omega,h.small,by omega,by unfold bp.placeOf;rw[ht];rfl,hn.1,hn.2,c0,?_,d0,d1,d2,d3⟩;rw[c1];show some (Value.int .i64 ((ρ.n:Int) - l.length))=_;rw[e]
theorem bp.fU.facts(h:ρ.fU w l lg dp):
  w.cell? ⟨ρ.g,0,none⟩=some (.slice (some ⟨ρ.gl,0,none⟩) ρ.n ρ.c)/\w.cell? ⟨ρ.g,1,none⟩=some (.int .i64 ((ρ.n:Int) - l.length))/\w.cell? ⟨ρ.g,2,none⟩=some (.bool lg)/\w.cell? ⟨ρ.g,3,none⟩=some (.bool dp)/\
  w.frozen? ⟨ρ.g,1,none⟩=false/\w.frozen? ⟨ρ.g,2,none⟩=false/\w.frozen? ⟨ρ.g,3,none⟩=false:=
 ⟨h.blk.cell 0,h.blk.cell 1,h.blk.cell 2,h.blk.cell 3,h.blk.frozen 1,h.blk.frozen 2,h.blk.frozen 3⟩
theorem uR:(Tryz.prog.info? 81).map (·.size)=some 4:=by exact Zhj
theorem ie (ρ:bp)(w:World)(l:aI)(lg dp:Bool)(h:ρ.fU w l lg dp):
  Calls Tryz.prog 29 #[ρ.ptr] w λ e w'=>e=.returned (.agg (cn (ρ.tok l)))/\Below w.heap.size w w':=by obtain⟨t,r,pl,qD,hl,hlt,hsm,hpl,Bw,Ai,vv,hp⟩:=h.mh;have U3:=hp.later (aa w zg);rw[<- qD];have hb:=(aa w (.cells (cn t) 81)).drew;have HT:=(av.new w 81 (cn t)).drew;clear qD hl h hpl Bw Ai vv;unfold bp.ptr;obtain⟨c0,c1,d0,d1,d2,d3⟩:=hp;obtain⟨y0,y1,z0,z1,z2,z3⟩:=U3;unfold zg at y0 y1 z0 z1 z2 z3;go_enter Tryz.func29,Tryz.ntmps29;go_wp2_with fail;go_region;clear c0 c1 d0 d1 d2 d3 y0 y1 z0 z1 z2 z3;obtain⟨u0,u1,u2,u3,_⟩:=aN HT;have yP:av (w.alloc (.cells #[.int .u8 t.w.k,.string ⟨t.w.s.toArray⟩,.int .i64 t.w.n,.int .i64 t.p] 81)).drew w.heap.size 81 (cn t):=HT;clear HT;unfold cn at u0 u1 u2 u3 hb;generalize (w.alloc _).drew=W at*;go_wp2_with fail;exact bodyPost_ret (v:=.agg (cn t)) (results_cell_row Tryz.results29 _ _ w.heap.size 81 (cn t) (0,0) _ rfl yP Tryz.underlying81 rfl uR) rfl ⟨rfl,hb⟩
theorem zB (a b c d:Value):(∀w:World,(Instr.field 81 (.agg #[a,b,c,d]) 0).run Tryz.prog w=.ok a w)/\(∀w:World,(Instr.field 81 (.agg #[a,b,c,d]) 1).run Tryz.prog w=.ok b w)/\(∀w:World,(Instr.field 81 (.agg #[a,b,c,d]) 2).run Tryz.prog w=.ok c w)/\(∀w:World,(Instr.field 81 (.agg #[a,b,c,d]) 3).run Tryz.prog w=.ok d w):=⟨λ _=>by kernel_rfl,λ _=>by kernel_rfl,λ _=>by kernel_rfl,λ _=>by kernel_rfl⟩
def rG (p:Nat):PanicEntry:= { v:=.iface 75 (.agg #[.int .i64 p]),recovered:=false }
def ig (ρ:bp)(w:World)(n:Nat)(e:Ending)(w':World):Prop:=e=.panicked [rG (ρ.placeOf n)]/\w.grownBy w' (some ρ.g)
theorem jH (ρ:bp)(w:World)(l:aI)(lg dp:Bool)(h:ρ.fU w l lg dp):
  Calls Tryz.prog 30 #[ρ.ptr] w (ig ρ w l.length):=by obtain⟨t,r,pl,qD,hl,hlt,hsm,hpl,Bw,_,_,hp⟩:=h.mh;have eN:=ie ρ w l lg dp h;rw[<- qD] at eN;unfold ig;rw[<- Bw];clear qD hl hpl Bw hp;go_enter Tryz.func30,Tryz.ntmps30;go_wp2_with fail;refine eN.mono ?_;rintro e w1 ⟨rfl,b1⟩;unfold cn;have VQ:=zB (.int .u8 t.w.k) (.string ⟨t.w.s.toArray⟩) (.int .i64 t.w.n) (.int .i64 t.p);go_wp2_with fail;exact aj rfl ⟨rfl,aB b1⟩
variable{α:Type}
def GP(ρ:bp)(W:World)(P:Ps α)(l:aI)(Q:α->aI->Value->World->Prop)(e:Ending)(w':World):Prop:=
 match P l with
 | .ok (x,r)=>∃v,e=.returned v/\Q x r v w'
 | .error n=>ig ρ W n e w'
section
variable {α β:Type} {ρ:bp} {W w w':World} {P:Ps α} {l r:aI} {Q:α->aI->Value->World->Prop}
theorem GP.ok {x:α} {v:Value}(h:P l=.ok (x,r))(k:Q x r v w'):GP ρ W P l Q (.returned v) w':=by unfold GP;rw[h];exact⟨v,rfl,k⟩
theorem GP.err {n:Nat} {e:Ending}(h:P l=.error n)(k:ig ρ W n e w'):GP ρ W P l Q e w':=by unfold GP;rw[h];exact k
theorem GP.cases {e:Ending}(h:GP ρ W P l Q e w'):(∃x r v,P l=.ok (x,r)/\e=.returned v/\Q x r v w')\/∃n,P l=.error n/\ig ρ W n e w':=by
 unfold GP at h
 cases hp:P l with
 | error n=>rw[hp] at h;exact .inr ⟨n,rfl,h⟩
 | ok y=>obtain⟨x,r⟩:=y;rw[hp] at h;obtain⟨v,h1,h2⟩:=h;exact .inl ⟨x,r,v,rfl,h1,h2⟩
end
theorem Z7 (ρ:bp)(w:World)(l:aI)(lg dp:Bool)(h:ρ.fU w l lg dp)(s:ByteArray):
  Calls Tryz.prog 74 #[ρ.ptr,.string s] w λ e w'=>e=.returned (.bool (ar s.data.toList l))/\Below w.heap.size w w':=by
 obtain⟨t,r,pl,qD,hl,hlt,hsm,hpl,Bw,Ai,vv,hp⟩:=h.mh;have eN:=ie ρ w l lg dp h;rw[<- qD] at eN;have hHD:ar s.data.toList l=((t.w.k==1 || t.w.k==4)&&(t.w.s==s.toList)):=by rw[hl,<- KG];rfl
 have wQ:=hid hHD;clear hHD qD hl hpl Bw Ai vv hp hlt hsm h;generalize ar s.data.toList l=R at*;go_enter Tryz.func74,Tryz.ntmps74;go_wp2_with fail;refine eN.mono ?_;rintro e w1 ⟨rfl,b1⟩;unfold cn;have hb:=λ o=>af.then b1 (aa w1 o)
 go_wp2_with fail
 all_goals
  go_ret;refine⟨cW ?_,hb _⟩;rw[wQ.out];generalize (t.w.s==s.toList)=X;cases X <;> rw[Bool.eq_iff_iff] <;> simp <;> omega
def iJ (s:List UInt8)(l:aI):aI:=if ar s l then l.tail else l
theorem tL (s:List UInt8)(l:aI):may s l=.ok (ar s l,iJ s l):=by unfold may iJ;cases ar s l <;> rfl
theorem bp.fU.step {ρ:bp} {w:World} {l:aI} {t:Wd} {lg dp:Bool}(h:ρ.fU w (t::l) lg dp)(ht:t.k≠0):
  aY ρ w (w.setCell ⟨ρ.g,1,none⟩ (.int .i64 ((ρ.n:Int) - l.length))) l lg dp:=by exact Zdc
theorem br (ρ:bp)(w:World)(l:aI)(lg dp:Bool)(h:ρ.fU w l lg dp)(s:ByteArray):
  Calls Tryz.prog 28 #[ρ.ptr,.string s] w λ e w'=>e=.returned (.bool (ar s.data.toList l))/\aY ρ w w' (iJ s.data.toList l) lg dp:=by
 have hw:=Z7 ρ w l lg dp h s;have CE:ρ.ptr=.pointer (some ⟨ρ.g,0,none⟩):=rfl;cases hh:ar s.data.toList l
 ·rw[hh] at hw;rw[show iJ s.data.toList l=l by unfold iJ;rw[hh];rfl];have HH:=hid h;clear h hh;go_enter Tryz.func28,Tryz.ntmps28;go_wp2_with fail;refine hw.mono ?_;rintro e w1 ⟨rfl,b1⟩;go_wp2_with fail;go_ret;exact⟨rfl,aY.aC HH.out b1⟩
 ·rw[hh] at hw;obtain⟨t,r,rfl,ht⟩:=eK hh;rw[show iJ s.data.toList (t::r)=r by unfold iJ;rw[hh];rfl];have HH:=hid h;have HK:=hid (Cu ht);have hsm:=h.small;clear ht hh h;go_enter Tryz.func28,Tryz.ntmps28;go_wp2_with fail;refine hw.mono ?_;rintro e w1 ⟨rfl,b1⟩;obtain⟨c0,c1,c2,c3,f1,f2,f3⟩:=(HH.out.later b1).facts;have sD:=(HH.out.later b1).left;have e1:(ρ.n:Int) - ((r.length:Int)+1)+1=(ρ.n:Int) - r.length:=by omega
  simp only[length_cons] at sD;rw[CE];go_wp2_with fail;go_ret;have hd:=bp.fU.step (HH.out.later b1) HK.out;exact⟨rfl,(aY.aC HH.out b1).trans hd⟩
variable{s:List UInt8}
theorem IK{ks:List (List UInt8)} (h:ar s l=false):kP (s::ks) l=kP ks l:=by simp only[kP,h];rfl
theorem Bz{ks:List (List UInt8)} (h:ar s l=true):kP (s::ks) l=.ok (s,l.tail):=by simp only[kP,h,if_true]
theorem ck(h:ar s l=false):iJ s l=l:=by unfold iJ;rw[h];rfl
theorem cw(h:ar s l=true):iJ s l=l.tail:=by unfold iJ;rw[h];rfl
theorem zgM.Kb1(h:p:=by
 have hm:=br ρ wr l lg dp HD.out.at_ ⟨s.toArray⟩;rw[show(⟨s.toArray⟩:ByteArray).data.toList=s by simp] at hm;cases hh:ar s l
 ·have wQ:=hid hh;rw[hh,ck hh] at hm;clear hh;go_wp2_with fail;refine hm.mono ?_;clear hm;rintro e w1 ⟨rfl,d1⟩;go_wp2_with fail;go_roundw;case rel=>exact⟨i+1,by omega,by go_num,HD.out.trans d1,by rw[HS.out,Er.out,IK wQ.out]⟩
  case measure=>exact Zcu
 ·have wQ:=hid hh;rw[hh,cw hh] at hm;clear hh;go_wp2_with fail;refine hm.mono ?_;clear hm;rintro e w1 ⟨rfl,d1⟩;go_wp2_with fail;go_ret;exact GP.ok (by rw[HS.out,Er.out,Bz wQ.out]) ⟨rfl,HD.out.trans d1⟩):p:=h
theorem qE (ρ:bp)(w:World)(l:aI)(lg dp:Bool)(h:ρ.fU w l lg dp)(ks:List (List UInt8))(b n:Nat)(hn:ks.length=n)(hb:av w b 9 (aP ks))(hbg:ρ.g≠b)(hsm:n<=10):
  Calls Tryz.prog 111 #[ρ.ptr,.slice (some ⟨b,0,none⟩) n n] w (GP ρ w (kP ks) l λ s r v w'=>v=strOf s/\aY ρ w w' r lg dp):=by
 have HH:=hid h;have HB:=hid hb;clear h hb;go_enter Tryz.func111,Tryz.ntmps111;go_wp2_with fail;go_loopw [9] (λ u wr=>∃(i:Nat),i<=n/\u=.int .i64 i/\aY ρ w wr l lg dp/\kP ks l=kP (ks.drop i) l) (λ u _=>n - (intOf u).toNat);case atStart=>exact⟨0,Nat.zero_le _,rfl,aY.refl HH.out,rfl⟩
 case round=>
  obtain⟨i,hi,rfl,hD,hst⟩:=hrel;have HD:=hid hD;have HS:=hid hst;clear hD hst;by_cases hlt:i < n
  ·open zgM in exact Zeg
  ·obtain rfl:i=n:=by omega
   have Er:=hid (show ks.drop i=[] from drop_eq_nil_of_le Taa);have hf:=jH ρ wr l lg dp HD.out.at_;go_wp2_with fail;refine hf.mono ?_;clear hf;rintro e w1 ⟨rfl,hg2⟩;go_wp2_with fail;exact aj rfl (GP.err (n:=l.length) (by rw[HS.out,Er.out];rfl) ⟨rfl,ai HD.out.grown hg2⟩)
theorem YU(h:ar s l=true):must s l=.ok ((),l.tail):=by simp only[must,h,if_true]
theorem Z9(h:ar s l=false):must s l=.error l.length:=by simp only[must,h];rfl
variable{r:aI}
theorem YV{x:List UInt8}(h:kP [s] l=.ok (x,r)):must s l=.ok ((),r):=by
 cases hh:ar s l
 ·rw[IK hh] at h;cases h
 ·rw[Bz hh] at h;injection h with h;injection h with h1 h2;rw[YU hh,h2]
variable{n:Nat}
theorem IL(h:kP [s] l=.error n):must s l=.error n:=by
 cases hh:ar s l
 ·rw[IK hh] at h;injection h with h;rw[Z9 hh,h]
 ·rw[Bz hh] at h;cases h
theorem zgN.Kb1(h:p:=by
 have hb1:=aa wr (.cells (aP [s]) 9);have hm:=qE ρ _ l' lg dp (HD.out.at_.later hb1) [s] wr.heap.size 1 rfl (av.new wr _ _) (by have:=HD.out.lt;omega) Taa;have jB:=hid hb1;clear hb1;unfold aP strOf at hm;simp only[map_cons,map_nil] at hm;go_wp2_with fail;refine hm.mono ?_;clear hm;intro e w1 hp;rcases hp.cases with ⟨x,r,v,az,rfl,rfl,d1⟩|⟨m,au,rfl,hg⟩
 ·clear hp;go_wp2_with fail;go_roundw;case rel=>exact⟨i+1,r,by omega,by go_num,(HD.out.later jB.out).trans d1,by rw[HS.out,Er.out];exact ag (YV az)⟩
  case measure=>exact Zcu
 ·clear hp;go_wp2_with fail;exact aj rfl (GP.err (n:=m) (by rw[HS.out,Er.out];exact ak (IL au)) ⟨rfl,ai (HD.out.later jB.out).grown hg⟩)):p:=h
theorem aW (ρ:bp)(w:World)(l:aI)(lg dp:Bool)(h:ρ.fU w l lg dp)(ks:List (List UInt8))(b n:Nat)(hn:ks.length=n)(hb:av w b 9 (aP ks))(hbg:ρ.g≠b)(hsm:n<=10):
  Calls Tryz.prog 110 #[ρ.ptr,.slice (some ⟨b,0,none⟩) n n] w (GP ρ w (gK ks) l λ s r v w'=>v=.tuple #[]/\aY ρ w w' r lg dp):=by
 have HH:=hid h;have HB:=hid hb;clear h hb;go_enter Tryz.func110,Tryz.ntmps110;go_wp2_with fail;go_loopw [8] (λ u wr=>∃(i:Nat) (l':aI),i<=n/\u=.int .i64 i/\aY ρ w wr l' lg dp/\gK ks l=gK (ks.drop i) l') (λ u _=>n - (intOf u).toNat);case atStart=>exact⟨0,l,Nat.zero_le _,rfl,aY.refl HH.out,rfl⟩
 case round=>
  obtain⟨i,l',hi,rfl,hD,hst⟩:=hrel;have HD:=hid hD;have HS:=hid hst;clear hD hst;by_cases hlt:i < n
  ·open zgN in exact Zeg
  ·obtain rfl:i=n:=by omega
   have hd:ks.drop i=[]:=drop_eq_nil_of_le Taa;rw[hd] at HS;go_wp2_with fail;go_end0;exact GP.ok HS.out ⟨rfl,HD.out⟩
def fq (ρ:bp)(W:World)(lg dp:Bool)(P:Ps Tr)(l:aI)(e:Ending)(w':World):Prop:=
 GP ρ W P l (λ t r v w'=>∃y:Ex,v=dN y/\t.at_ w' (eC W.heap.size w') y/\aY ρ W w' r lg dp) e w'
def apX:Nat->FuncId
 | 0=>154
 | 1=>180
 | 2=>202
 | 3=>222
 | 4=>232
 | 5=>237
 | 6=>240
 | _=>241
def QN (ρ:bp)(m:Nat):Prop:=∀(lv:Nat) (l:aI) (W:World) (lg dp:Bool),lv<=7->8*l.length+(7 - lv)< m->ρ.fU W l lg dp->Calls Tryz.prog (apX lv) #[ρ.ptr] W (fq ρ W lg dp (aU lv) l)
variable{m k:Nat}
theorem QN.less(h:QN ρ m)(hk:k<=m):QN ρ k:=λ lv l W lg dp h1 h2 h3=>h lv l W lg dp h1 Taa h3
def dF:Array Value:= #[.int .u8 0,.int .u8 0,.int .i64 0,.string ⟨#[]⟩,.string ⟨#[]⟩,.int .i64 0,.slice none 0 0]
theorem aF:(Tryz.prog.info? 36).map (·.size)=some 7:=by exact Zhj
theorem cL (y:Ex):(aT y).toArray.all (·.oneCell')=true:=by simp[aT,Value.oneCell']
variable{W:World}{P:Ps Tr}{t:Tr}{y:Ex}
theorem bV(hg:ρ.g < w.heap.size)(hd:aY ρ w W r lg dp)(ht:t.at_ W (eC (w.heap.size+1) W) y)(hp:P l=.ok (t,r)):fq ρ w lg dp P l (.returned (dN y)) (W.setRow w.heap.size (aT y).toArray):=
 GP.ok hp ⟨y,rfl,(Tr.at_.keep (iI W (Nat.lt_succ_self _) _) t y ht).more (Nat.le_succ _),hd.own hg (cH W w.heap.size _) (λ G e=>by injection e with e;omega)⟩
theorem bt(hp:P l=.error n)(hg:w.grownBy W (some ρ.g))(k:W.grownBy w' (some ρ.g)):fq ρ w lg dp P l (.panicked [rG (ρ.placeOf n)]) w':=GP.err hp ⟨rfl,ai hg k⟩
variable{op:Int}
theorem QO{p q:Ps Tr} (h:ar s l=false):Kn s op p q l=q l:=by unfold Kn;exact Zgz
theorem IM{p q:Ps Tr} (h:ar s l=true):Kn s op p q l=(do let x <- p;return nr op [x]) l.tail:=by unfold Kn;exact Zgw
theorem oB(h:ar s l=true):l.tail.length+1=l.length:=by obtain⟨t,r,rfl,_⟩:=eK h;simp
theorem zeF.Kbd(h:p:=by refine bodyPost_ret (v:=dN y) (results_cell_row Tryz.results202 _ _ w.heap.size 36 (aT y).toArray (0,0) _ rfl HR.out Tryz.underlying36 rfl aF) rfl ?_;exact bV bj eP.out jg.out ((QO wQ.out).trans jh.out)):p:=h
theorem zgm.KbR(h:p:=by
 have jg:=hid ((hat.more (by have:=d1.size;omega:w.heap.size+1<=w1.heap.size)).later (aa w2 (.cells (aT y).toArray 36)));have HY:=hid (yS (S:=eC (w.heap.size+1) (w2.alloc (.cells (aT y).toArray 36))) 4 (av.new w2 36 (aT y).toArray) ⟨hs2,by simp⟩ jg.out);have jh:=hid az;clear hp d1 d2 hat az IH HQ HD hsz jg;unfold dN aT at*;go_wp2_with (first
  |(refine wpList_store_row rfl 36 (.tmp 2) (.tmp 8) rfl w.heap.size (aT (sX 4 w2.heap.size 1)).toArray rfl rfl 36 dF jS.out aF rfl (cL _) ?_
    have HR:=hid (jS.out.row (aT (sX 4 w2.heap.size 1)).toArray)))
 refine bodyPost_ret (v:=dN (sX 4 w2.heap.size 1)) (results_cell_row Tryz.results202 _ _ w.heap.size 36 (aT (sX 4 w2.heap.size 1)).toArray (0,0) _ rfl HR.out Tryz.underlying36 rfl aF) rfl ?_;exact bV bj eP.out HY.out ((IM wQ.out).trans (ag jh.out))):p:=h
theorem zh2.KcA(h:p:=by
 rw[Bq];rw[show(⟨#[110,111,116]⟩:ByteArray).data.toList=ei from rfl] at hm;clear h hb;unfold dF at hm hsz;cases hh:ar ei l
 ·rw[hh,ck hh] at hm;have wQ:=hid hh;clear hh;go_enter Tryz.func202,Tryz.ntmps202;go_wp2_with fail;refine hm.mono ?_;clear hm;rintro e w1 ⟨rfl,d1⟩;go_wp2_with fail;refine(IH 3 l w1 lg dp Taa Taa d1.at_).mono ?_;intro e w2 hp;rcases hp.cases with ⟨t,r,v,az,rfl,y,rfl,hat,d2⟩|⟨n,au,rfl,hg⟩
  ·open zeF in exact Zb7
  ·exact ZdS
 ·rw[hh,cw hh] at hm;have wQ:=hid hh;have Wh:=oB hh;clear hh;go_enter Tryz.func202,Tryz.ntmps202;go_wp2_with fail;refine hm.mono ?_;clear hm;rintro e w1 ⟨rfl,d1⟩;go_wp2_with fail;refine(IH 2 l.tail w1 lg dp Taa Taa d1.at_).mono ?_;intro e w2 hp;rcases hp.cases with ⟨t,r,v,az,rfl,y,rfl,hat,d2⟩|⟨n,au,rfl,hg⟩
  ·open zgm in exact ZdL
  ·exact ZdK):p:=h
theorem akO (ρ:bp)(w:World)(l:aI)(lg dp:Bool)(h:ρ.fU w l lg dp)(IH:QN ρ (8*l.length+5)):
  Calls Tryz.prog 202 #[ρ.ptr] w (fq ρ w lg dp (aU 2) l):=by have bj:=h.nt;have hb:=aa w (.cells dF 36);have hm:=br ρ _ l lg dp (h.later hb) ⟨#[110,111,116]⟩;open zh2 in exact Zgl
theorem zeG.Kbd(h:p:=by refine bodyPost_ret (v:=dN y) (results_cell_row Tryz.results240 _ _ w.heap.size 36 (aT y).toArray (0,0) _ rfl HR.out Tryz.underlying36 rfl aF) rfl ?_;exact bV bj eP.out jg.out ((QO wQ.out).trans jh.out)):p:=h
theorem zgn.KbR(h:p:=by
 have jg:=hid ((hat.more (by have:=d1.size;omega:w.heap.size+1<=w1.heap.size)).later (aa w2 (.cells (aT y).toArray 36)));have HY:=hid (yS (S:=eC (w.heap.size+1) (w2.alloc (.cells (aT y).toArray 36))) 3 (av.new w2 36 (aT y).toArray) ⟨hs2,by simp⟩ jg.out);have jh:=hid az;clear hp d1 d2 hat az IH HQ HD hsz jg;unfold dN aT at*;go_wp2_with (first
  |(refine wpList_store_row rfl 36 (.tmp 2) (.tmp 8) rfl w.heap.size (aT (sX 3 w2.heap.size 1)).toArray rfl rfl 36 dF jS.out aF rfl (cL _) ?_
    have HR:=hid (jS.out.row (aT (sX 3 w2.heap.size 1)).toArray)))
 refine bodyPost_ret (v:=dN (sX 3 w2.heap.size 1)) (results_cell_row Tryz.results240 _ _ w.heap.size 36 (aT (sX 3 w2.heap.size 1)).toArray (0,0) _ rfl HR.out Tryz.underlying36 rfl aF) rfl ?_;exact bV bj eP.out HY.out ((IM wQ.out).trans (ag jh.out))):p:=h
theorem zh3.KcA(h:p:=by
 rw[Ii];rw[show(⟨#[45]⟩:ByteArray).data.toList=dB from rfl] at hm;clear h hb;unfold dF at hm hsz;cases hh:ar dB l
 ·rw[hh,ck hh] at hm;have wQ:=hid hh;clear hh;go_enter Tryz.func240,Tryz.ntmps240;go_wp2_with fail;refine hm.mono ?_;clear hm;rintro e w1 ⟨rfl,d1⟩;go_wp2_with fail;refine(IH 7 l w1 lg dp Taa Taa d1.at_).mono ?_;intro e w2 hp;rcases hp.cases with ⟨t,r,v,az,rfl,y,rfl,hat,d2⟩|⟨n,au,rfl,hg⟩
  ·open zeG in exact Zb7
  ·exact ZdS
 ·rw[hh,cw hh] at hm;have wQ:=hid hh;have Wh:=oB hh;clear hh;go_enter Tryz.func240,Tryz.ntmps240;go_wp2_with fail;refine hm.mono ?_;clear hm;rintro e w1 ⟨rfl,d1⟩;go_wp2_with fail;refine(IH 6 l.tail w1 lg dp Taa Taa d1.at_).mono ?_;intro e w2 hp;rcases hp.cases with ⟨t,r,v,az,rfl,y,rfl,hat,d2⟩|⟨n,au,rfl,hg⟩
  ·open zgn in exact ZdL
  ·exact ZdK):p:=h
theorem akP (ρ:bp)(w:World)(l:aI)(lg dp:Bool)(h:ρ.fU w l lg dp)(IH:QN ρ (8*l.length+1)):
  Calls Tryz.prog 240 #[ρ.ptr] w (fq ρ w lg dp (aU 6) l):=by have bj:=h.nt;have hb:=aa w (.cells dF 36);have hm:=br ρ _ l lg dp (h.later hb) ⟨#[45]⟩;open zh3 in exact Zgl
def opC (x:List UInt8×Int):List Value:=[.string ⟨x.1.toArray⟩,.int .u8 x.2]
def opsV (ks:List (List UInt8×Int)):Array Value:=(ks.flatMap opC).toArray
variable{b:Nat}{T:TypeId}{ks:List (List UInt8×Int)}{i:Nat}{o:Int}
theorem CZ(h:av w b T (opsV ks))   (hi:ks[i]?=some (s,o)):w.cell? ⟨b,i*2,none⟩=some (.string ⟨s.toArray⟩)/\w.cell? ⟨b,i*2+1,none⟩=some (.int .u8 o):=by
 have f:=uA (f:=opC) (size:=2) (λ _=>rfl) ks i (s,o) hi;constructor
 ·rw[h.cell];have:=f 0 _ rfl;simpa [opsV] using this
 ·rw[h.cell];have:=f 1 _ rfl;simpa [opsV] using this
theorem OW (ρ:bp)(w:World)(l:aI)(lg dp:Bool)(h:ρ.fU w l lg dp)(s:List UInt8)(o:Int)(pb:Nat)(hp:av w pb 77 #[ρ.ptr]):
  Calls Tryz.prog 201 #[.agg #[.string ⟨s.toArray⟩,.int .u8 o],.pointer (some ⟨pb,0,none⟩)] w λ e w'=>e=.returned (.bool (ar s l))/\aY ρ w w' (iJ s l) lg dp:=by have hb:=aa w (.cells #[.string ⟨s.toArray⟩,.int .u8 o] 199);have hm:=br ρ _ l lg dp (h.later hb) ⟨s.toArray⟩;rw[show(⟨s.toArray⟩:ByteArray).data.toList=s by simp] at hm;have HD:=hid (aY.aC h hb);have c0:=hp.cell 0;simp only[getElem?_toArray,getElem?_cons_zero] at c0;have hpl:=hp.lt;clear h hb;go_enter Tryz.func201,Tryz.ntmps201;go_wp2_with fail;refine hm.mono ?_;clear hm;rintro e w1 ⟨rfl,d1⟩;go_wp2_with fail;go_ret;exact⟨rfl,HD.out.trans d1⟩
theorem QP(h:ar s l=false):eR ((s,o)::ks) l=eR ks l:=by simp[eR,h]
theorem Li(h:ar s l=true):eR ((s,o)::ks) l=some o:=by simp[eR,h]
def afc (ρ:bp)(w:World)(ks:List (List UInt8×Int))(l:aI)(lg dp:Bool)(e:Ending)(w':World):Prop:=
 (eR ks l=none/\e=.returned (.int .i64 (-1))/\aY ρ w w' l lg dp)\/∃(i:Nat) (s:List UInt8) (o:Int),ks[i]?=some (s,o)/\eR ks l=some o/\ar s l=true/\e=.returned (.int .i64 i)/\aY ρ w w' l.tail lg dp
theorem OX (ρ:bp)(w:World)(l:aI)(lg dp:Bool)(h:ρ.fU w l lg dp)(ks:List (List UInt8×Int))(b n pb:Nat)(hn:ks.length=n)(hb:av w b 199 (opsV ks))(hbg:b≠ρ.g)(hp:av w pb 77 #[ρ.ptr])(hpg:pb≠ρ.g)(hsm:n<=10):
  Calls Tryz.prog 200 #[.slice (some ⟨b,0,none⟩) n n,.func (.func 201) #[] #[.pointer (some ⟨pb,0,none⟩)]] w (afc ρ w ks l lg dp):=by
 have HH:=hid h;have HB:=hid hb;have HP:=hid hp;clear h hb hp;have en:∀args w,(callFunc 201 args).run Tryz.prog w=.ok (.enter 201 args) w:=enters_of Tryz.func201 Tac rfl;go_enter Tryz.func200,Tryz.ntmps200;go_wp2_with fail;go_loopw [8] (λ u wr=>∃(i:Nat),i<=n/\u=.int .i64 i/\aY ρ w wr l lg dp/\eR ks l=eR (ks.drop i) l) (λ u _=>n - (intOf u).toNat);case atStart=>exact⟨0,Nat.zero_le _,rfl,aY.refl HH.out,rfl⟩
 case round=>
  obtain⟨i,hi,rfl,hD,hst⟩:=hrel;have HD:=hid hD;have HS:=hid hst;clear hD hst;by_cases hlt:i < n
  ·obtain⟨⟨s,o⟩,hs⟩:∃x,ks[i]?=some x:=⟨_,getElem?_eq_getElem Taa⟩;obtain⟨c0,c1⟩:=CZ (HD.out.blk HB.out hbg) hs;have Er:=hid (tD hs);have HSS:=hid hs;clear hs;have hm:=OW ρ wr l lg dp HD.out.at_ s o pb (HD.out.blk HP.out hpg);cases hh:ar s l
   ·have wQ:=hid hh;rw[hh,ck hh] at hm;clear hh;go_wp2_with fail;refine hm.mono ?_;clear hm;rintro e w1 ⟨rfl,d1⟩;go_wp2_with fail;go_roundw;case rel=>exact⟨i+1,by omega,by go_num,HD.out.trans d1,by rw[HS.out,Er.out,QP wQ.out]⟩
    case measure=>exact Zcu
   ·have wQ:=hid hh;rw[hh,cw hh] at hm;clear hh;go_wp2_with fail;refine hm.mono ?_;clear hm;rintro e w1 ⟨rfl,d1⟩;go_wp2_with fail;go_ret;exact .inr ⟨i,s,o,HSS.out,by rw[HS.out,Er.out,Li wQ.out],wQ.out,rfl,HD.out.trans d1⟩
  ·obtain rfl:i=n:=by omega
   have Er:=hid (show ks.drop i=[] from drop_eq_nil_of_le Taa);go_wp2_with fail;go_ret;exact .inl ⟨by rw[HS.out,Er.out];rfl,rfl,HD.out⟩
variable{d:TypeDesc}{q:Nat}
theorem nH{P:Program}{ρ:Operand->Value}{o:Oper}{w:World}{x:Operand}{T:TypeId}{d:TypeDesc}{q:Nat}{y:Ex}(ho:o.op=.load T x)(hx:ρ x=.pointer (some ⟨q,0,none⟩))(hb:av w q T (aT y).toArray)(hu:P.underlying T=some d)(hd:(match d with | .struct _ | .array _ _=>true | _=>false)=true)(hi:(P.info? T).map (·.size)=some 7):(execOp ρ o).run P w=.ok (.value (dN y)) w:=by unfold execOp;simp only[ho,hx,Instr.loadAt,Instr.sureAddr,Sem.run_bind,Sem.run_pure,Result.andThen_ok,run_loadVar_row w q T T (aT y).toArray (0,0) d hb hu hd hi];rfl
theorem Lp(hg:ρ.g < w.heap.size)(hq:w.heap.size<=q)(hd:aY ρ w W r lg dp)(ht:t.at_ W (eC (q+1) W) y)(hp:P l=.ok (t,r)):fq ρ w lg dp P l (.returned (dN y)) (W.setRow q (aT y).toArray):=
 GP.ok hp ⟨y,rfl,(Tr.at_.keep (iI W (Nat.lt_succ_self _) _) t y ht).more Taa,hd.own hg (cH W q _) (λ G e=>by injection e with e;omega)⟩
variable{B:Nat}
theorem aff(cs:Array Value):∀b,Bx B q w b->(∀o,(w.setRow q cs).cell? ⟨b,o,none⟩=w.cell? ⟨b,o,none⟩)/\Bx B q (w.setRow q cs) b:=λ b hb=>
 ⟨cell_of_heap (setRow_other w q b cs hb.2.2),hb.1,by rw[size_setRow];exact hb.2.1,hb.2.2⟩
structure rX (ρ:bp) (w:World) (lg dp:Bool) (lv:Nat) (l:aI) (q qx pb b:Nat) (wr:World) (l':aI) (t:Tr) (y:Ex):Prop where
 did:aY ρ w wr l' lg dp
 blk:av wr qx 36 (aT y).toArray
 res:av wr q 36 dF
 uS:av wr pb 77 #[ρ.ptr]
 opk:av wr b 199 (opsV (opsL lv))
 tr:t.at_ wr (Bx (q+1) qx wr) y
 todo:kD (aU (lv+1)) lv l=KB (aU (lv+1)) lv t l'
 le:l'.length<=l.length
variable{wr w1 W1 W1':World}{lv:Nat}{l' r2:aI}{qx pb g0:Nat}{t' t2:Tr}{y' y2:Ex}
theorem rX.round(bj:ρ.g < w.heap.size)(Ei:w.heap.size<=q)(hqq:q+1<=qx)(Ie:pb≠qx)(hpg:pb≠ρ.g)(lO:b≠qx)(hbg:b≠ρ.g)(A:rX ρ w lg dp lv l q qx pb b wr l' t' y')(d1:aY ρ wr w1 l'.tail lg dp)(h1:af w1 W1)
  (QI:t2.at_ W1' (eC W1.heap.size W1') y2) (d2:aY ρ W1 W1' r2 lg dp) (h2:af W1' W) (hN:av W g0 36 (aT y'++aT y2).toArray) (hg0:W1'.heap.size<=g0) (hop:eR (opsL lv) l'=some o) (az:aU (lv+1) l'.tail=.ok (t2,r2)):
  rX ρ w lg dp lv l q qx pb b (W.setRow qx (aT (sX o g0 2)).toArray) r2 (nr o [t',t2]) (sX o g0 2):=by
 have hz1:=d1.size;have hz2:w1.heap.size<=W1.heap.size:=h1.size;have hz3:=d2.size;have hz4:W1'.heap.size<=W.heap.size:=h2.size;have hqb:=A.blk.lt;have wy:=hN.lt;have step:∀ {k:Nat} {T:TypeId} {cs:Array Value},av wr k T cs->k≠ρ.g->av W k T cs:=λ h hk=>(((h.grown d1.grown Tad).later h1).grown d2.grown Tad).later h2
 have hX:=step A.blk Taa;have hD:=(((A.did.trans d1).later h1).trans d2).later h2
 have hT:(nr o [t',t2]).at_ W (Bx (q+1) qx W) (sX o g0 2):=by
  refine Nx o hN ⟨by omega,by omega,by omega⟩ ?_ ?_
  ·exact Tr.at_.keep (gX h2) _ _ (Tr.at_.keep (iM d2.grown Taa) _ _ (Tr.at_.keep (gX h1) _ _ (Tr.at_.keep (iM d1.grown Taa) _ _ A.tr)))
  ·exact Tr.at_.keep (Qh Taa Taa) _ _ (QI.later h2)
 refine⟨hD.own bj (cH W qx _) (λ G e=>by injection e with e;omega),hX.row _,(step A.res Taa).gU Taa _,(step A.uS hpg).gU Ie _,(step A.opk hbg).gU lO _,Tr.at_.keep (aff _) _ _ hT,?_,?_⟩
 ·rw[A.todo,qp (cg _),hop];exact ag az
 ·have h3:=(cg (lv+1)).len az;have h4:=A.le;have h5:l'.tail.length<=l'.length:=by simp
  omega
theorem rX.done(A:rX ρ w lg dp lv l q qx pb b wr l' t y)(hop:eR (opsL lv) l'=none):kD (aU (lv+1)) lv l=.ok (t,l'):=by rw[A.todo,qp (cg _),hop]
theorem rX.fail(A:rX ρ w lg dp lv l q qx pb b wr l' t y)(hop:eR (opsL lv) l'=some o)(h:aU (lv+1) l'.tail=.error n):kD (aU (lv+1)) lv l=.error n:=by rw[A.todo,qp (cg _),hop];exact ak h
theorem uT (ρ:bp)(w:World)(l:aI)(lg dp:Bool)(h:ρ.fU w l lg dp)(lv:Nat)(fb:FuncId)(en:∀args w,(callFunc fb args).run Tryz.prog w=.ok (.enter fb args) w)
  (IH:∀(l':aI) (W:World),l'.length<=l.length->ρ.fU W l' lg dp->Calls Tryz.prog fb #[ρ.ptr] W (fq ρ W lg dp (aU (lv+1)) l')) (b n:Nat) (hn:(opsL lv).length=n) (hb:av w b 199 (opsV (opsL lv))) (hbg:b≠ρ.g) (hsm:n<=10):
  Calls Tryz.prog 179 #[ρ.ptr,.func (.func fb) #[ρ.ptr] #[],.slice (some ⟨b,0,none⟩) n n] w (fq ρ w lg dp (kD (aU (lv+1)) lv) l):=by
 have bj:=h.nt;have hbl:=hb.lt;have jK:=af.then (aa w (.cells #[ρ.ptr] 77)) (aa _ (.cells dF 36));have HP:=hid ((av.new w 77 #[ρ.ptr]).alloc (.cells dF 36));have hq0:=av.new (w.alloc (.cells #[ρ.ptr] 77)) 36 dF;rw[show(w.alloc (.cells #[ρ.ptr] 77)).heap.size=w.heap.size+1 by simp] at hq0;have HQ:=hid hq0;have hsz:((w.alloc (.cells #[ρ.ptr] 77)).alloc (.cells dF 36)).heap.size=w.heap.size+2:=by simp
 have HD:=hid (aY.aC h jK);have HO:=hid (hb.later jK);have hih:=IH l _ (Nat.le_refl _) (h.later jK);have HIH:=hid IH;clear h hb jK hq0 IH;unfold dF at hih hsz;go_enter Tryz.func179,Tryz.ntmps179;go_wp2_with fail;refine hih.mono ?_;clear hih;intro e w2 hp;rcases hp.cases with ⟨t,r,v,az,rfl,y,rfl,hat,d2⟩|⟨m,au,rfl,hg⟩;case inr=>have HG:=hid HD.out.grown;have HE:=hid au;clear hp HQ HD HO HP HIH hsz au;go_wp2_with fail;exact aj rfl (bt (ak HE.out) HG.out hg)
 have hs2:w.heap.size+2<=w2.heap.size:=by have:=d2.size;omega
 have hA:rX ρ w lg dp lv l (w.heap.size+1) w2.heap.size w.heap.size b (w2.alloc (.cells (aT y).toArray 36)) r t y:=
  ⟨(HD.out.trans d2).later (aa _ _),av.new w2 _ _,(d2.blk HQ.out Taa).alloc _,(d2.blk HP.out Taa).alloc _,(d2.blk HO.out hbg).alloc _,Tr.at_.keep (yR _ Taa) _ _ hat,by rw[Ik];exact ag az,(cg _).len az⟩
 have HA:=hid hA;clear hA hp hat d2 az HQ HD HO HP hsz;unfold dN aT at*;go_upto_region 2 with fail;generalize w2.alloc _=W at*;generalize w2.heap.size=qx at*;go_loopg [] l.length (λ k wr=>∃l' t' y',l'.length<=k/\rX ρ w lg dp lv l (w.heap.size+1) qx w.heap.size b wr l' t' y');case atStart=>exact⟨_,_,_,HA.out.le,HA.out⟩
 case round=>
  obtain⟨l',t',y',hk,hA'⟩:=hrel;have OZ:=hid hA';clear hA' HA;have JM:w.heap.size+2<=qx:=hs2;go_wp2_with fail;refine(OX ρ wr l' lg dp OZ.out.did.at_ (opsL lv) b n w.heap.size hn OZ.out.opk hbg OZ.out.uS Taa hsm).mono ?_;intro e w1 hp;rcases hp with ⟨hop,rfl,d1⟩|⟨i,s,o,hi,hop,hh,rfl,d1⟩
  ·have HX:=hid (d1.blk OZ.out.blk Taa);have HQ:=hid (d1.blk OZ.out.res Taa);have HT:=hid (Tr.at_.keep (ku (Nat.le_refl _)) _ _ (Tr.at_.keep (iM d1.grown Taa) _ _ OZ.out.tr));have HD:=hid (OZ.out.did.trans d1);have jh:=hid (rX.done OZ.out hop);clear d1 hop OZ;go_wp2_with (first
    |(refine wpList_load_row rfl 36 (.tmp 7) rfl qx rfl 36 (aT y').toArray (0,0) _ HX.out Tryz.underlying36 rfl aF ?_)
    |(refine wpList_store_row rfl 36 (.tmp 6) (.tmp 16) rfl (w.heap.size+1) (aT y').toArray rfl rfl 36 dF HQ.out aF rfl (cL _) ?_
      have HR:=hid (HQ.out.row (aT y').toArray)))
   refine bodyPost_ret (v:=dN y') (results_cell_row Tryz.results179 _ _ (w.heap.size+1) 36 (aT y').toArray (0,0) _ rfl HR.out Tryz.underlying36 rfl aF) rfl ?_;exact Lp bj Taa HD.out HT.out jh.out
  ·have Qb:i < n:=by have:=(List.getElem?_eq_some_iff.1 hi).1;omega
   have vX:decide ((i:Int)< 0)=false:=by simp
   have hx1:=d1.blk OZ.out.blk Taa;have hc1:=(CZ (d1.blk OZ.out.opk hbg) hi).2;have awJ:=ax hc1;have HX:=hid hx1;have HC:=hid hc1;have Yr:=hid hop;have fT:=hid d1;have hhl:=oB hh;have hll:=OZ.out.le;clear hop hi hh d1 hx1 hc1;have acR:∀w' w'',(av w' qx 36 (aT y').toArray/\w'.cell? ⟨b,i*2+1,none⟩=some (.int .u8 o))->af w' w''->(av w'' qx 36 (aT y').toArray/\w''.cell? ⟨b,i*2+1,none⟩=some (.int .u8 o)):=λ w' w'' hh hl=>⟨hh.1.later hl,(hl.cell (ax hh.2)).trans hh.2⟩
   have Dc:=hid acR;clear acR
   cases zj:aU (lv+1) l'.tail with
   | ok x=>
     obtain⟨t2,r2⟩:=x;have Dd:=hid zj;clear zj;go_wp2_with fail;refine EK (P:=Tryz.prog) (H:=λ W=>av W qx 36 (aT y').toArray/\W.cell? ⟨b,i*2+1,none⟩=some (.int .u8 o)) (val:=dN) (e:=36) (k:=2) (cs:=λ z=>(aT y'++aT z).toArray) (bv:=λ _ s=> .agg #[.int .u8 o,.int .u8 0,.int .i64 0,.string ⟨#[]⟩,.string ⟨#[]⟩,.int .i64 0,s]) (Post:=λ z W W'=>t2.at_ W' (eC W.heap.size W') z/\aY ρ W W' r2 lg dp) (w0:=w1) (s0:=2) (s1:=8) (s2:=7) (s3:=1) (d0:=17) (d1:=18) (d2:=19) (d3:=20) (d4:=21) (d5:=22) (d6:=23) (d7:=24) (d8:=25) (d9:=26) (vs0:=.slice (some ⟨b,0,none⟩) n n) (vs1:=.int .i64 i) (vs2:=.pointer (some ⟨qx,0,none⟩)) (vs3:=.func (.func fb) #[ρ.ptr] #[]) (u0:=.slice (some ⟨b,0,none⟩) n n) (u1:=.int .i64 i) (u2:=.pointer (some ⟨b,i*2,none⟩)) (u3:=.pointer (some ⟨b,i*2+1,none⟩)) (u4:=.int .u8 o) (u5:=dN y') (u6:=.func (.func fb) #[ρ.ptr] #[]) (F:=fb) (args:= #[ρ.ptr]) Tac Tac Tac Tac rfl rfl rfl rfl ⟨HX.out,HC.out⟩ Dc.out ?_ ?_ ?_ ?_ ?_ ?_ ?_ ?_ ?_ ?_ Tac ?_ ?_ ?_
     ·exact Zb8
     ·exact Zb8
     ·intro ρ' w' hH hc h' nK;simp[go_sem,h',nK,Qb]
     ·exact Zb8
     ·exact Ze6
     ·exact Zdo
     ·exact Zb8
     ·intro ρ' w' hc h';simp[go_sem,h',hc.const,hc.func,en]
     ·intro ρ' w' z h' nK;simp[go_sem,h',nK,dN,aT]
     ·intro ρ' w' z g0' h' nK;simp[go_sem,h',nK]
     ·rintro z w' w'' ⟨hh1,hh2⟩ ⟨_,dd⟩;exact⟨hh1.grown dd.grown Tad,(cell_of_heap (dd.grown.block b (ax hh2) Tad) _).trans hh2⟩
     ·intro w' hw';refine(HIH.out l'.tail w' Taa (fT.out.at_.later hw')).mono ?_;exact Zc6
     intro z g0 W1 W1' W2 vt ⟨QI,d2⟩ hl2 hN hg0;have hR:=rX.round bj Taa Taa Taa Taa Taa hbg OZ.out fT.out vt QI d2 hl2 hN hg0 Yr.out Dd.out;have HR:=hid hR;have Lf:=((HX.out.later vt).grown d2.grown Tad).later hl2;have qW:=hid Lf;have vx:=(cg (lv+1)).len Dd.out;clear hR Lf vt QI d2 hl2 hN hg0 Yr Dc HX HC;simp only[Act.put,Uac];go_wp2_with (first
      |(refine wpList_store_row rfl 36 (.tmp 7) (.tmp 26) rfl qx (aT (sX o g0 2)).toArray rfl rfl 36 (aT y').toArray qW.out aF rfl (cL _) ?_))
     go_roundg (l'.tail.length);case measure=>omega
     case rel=>exact⟨_,_,_,vx,HR.out⟩
   | error m=>
     have Dd:=hid zj;clear zj;go_wp2_with fail;refine vh (P:=Tryz.prog) (H:=λ W=>av W qx 36 (aT y').toArray/\W.cell? ⟨b,i*2+1,none⟩=some (.int .u8 o)) (E:=λ C W=>C=[rG (ρ.placeOf m)]/\w.grownBy W (some ρ.g)) (w0:=w1) (s0:=2) (s1:=8) (s2:=7) (s3:=1) (d0:=17) (d1:=18) (d2:=19) (d3:=20) (d4:=21) (d5:=22) (d6:=23) (d7:=24) (d8:=25) (d9:=26) (vs0:=.slice (some ⟨b,0,none⟩) n n) (vs1:=.int .i64 i) (vs2:=.pointer (some ⟨qx,0,none⟩)) (vs3:=.func (.func fb) #[ρ.ptr] #[]) (u0:=.slice (some ⟨b,0,none⟩) n n) (u1:=.int .i64 i) (u2:=.pointer (some ⟨b,i*2,none⟩)) (u3:=.pointer (some ⟨b,i*2+1,none⟩)) (u4:=.int .u8 o) (u5:=dN y') (u6:=.func (.func fb) #[ρ.ptr] #[]) (F:=fb) (args:= #[ρ.ptr]) Tac Tac Tac Tac rfl rfl rfl rfl ⟨HX.out,HC.out⟩ Dc.out Zb8 Zb8 ?_ Zb8 Ze6 Zdo Zb8 ?_ Tac ?_ ?_
     ·intro ρ' w' hH hc h' nK;simp[go_sem,h',nK,Qb]
     ·intro ρ' w' hc h';simp[go_sem,h',hc.const,hc.func,en]
     ·intro w' hw';refine(HIH.out l'.tail w' Taa (fT.out.at_.later hw')).mono ?_;intro e w'' hp;rcases hp.cases with ⟨t3,r3,v,az,_⟩|⟨m',au,rfl,hg⟩
      ·rw[Dd.out] at az;cases az
      ·rw[Dd.out] at au;injection au with au;subst au;exact⟨_,rfl,rfl,ai ((OZ.out.did.trans fT.out).later hw').grown hg⟩
     ·rintro C a W hd ⟨rfl,hg⟩;have hE:=bt (lg:=lg) (dp:=dp) (rX.fail OZ.out Yr.out Dd.out) (aB (Below.refl _ _)) hg;simp only[Exit.inBlock,Exit.then];exact aj hd hE
theorem ay (s:List UInt8)(l:aI):gK [s] l=must s l:=by
 show(must s >>= λ _=>pure ()) l=must s l;rw[gS]
 cases must s l with
 | error n=>rfl
 | ok x=>rfl
variable{x:Tr}{r1:aI}
theorem YY{b:Bool} (h:aU 4 l=.ok (x,r))(h1:may lQ r=.ok (true,r1))(h2:may ei r1=.ok (b,r2)):(∀r3,must bK r2=.ok ((),r3)->sj (aU 4) l=.ok (nr (if b then 19 else 18) [x],r3))/\(∀n,must bK r2=.error n->sj (aU 4) l=.error n):=by unfold sj;rw[ag h,ag h1];simp only[if_true];rw[ag h2];exact⟨λ r3 h3=>by rw[ag h3];rfl,λ n h3=>ak h3⟩
theorem afh(h:aU 4 l=.ok (x,r))(h1:may lQ r=.ok (false,r1)):sj (aU 4) l=yX (aU 4) x r1:=by unfold sj;rw[ag h,ag h1];rfl
structure ni (ρ:bp) (w:World) (lg dp:Bool) (q qx:Nat) (wr:World) (l':aI) (t:Tr) (y:Ex):Prop where
 did:aY ρ w wr l' lg dp
 blk:av wr qx 36 (aT y).toArray
 res:av wr q 36 dF
 tr:t.at_ wr (Bx (q+1) qx wr) y
section
variable {ρ:bp} {w wr w':World} {lg dp:Bool} {q qx:Nat} {l' l2:aI} {t:Tr} {y:Ex}
theorem ni.later (A:ni ρ w lg dp q qx wr l' t y)(h:Below wr.heap.size wr w'):ni ρ w lg dp q qx w' l' t y:=⟨A.did.later h,A.blk.later h,A.res.later h,Tr.at_.keep (gX h) _ _ A.tr⟩
theorem ni.go (A:ni ρ w lg dp q qx wr l' t y)(d:aY ρ wr w' l2 lg dp)(hq:ρ.g < q)(JM:ρ.g < qx):ni ρ w lg dp q qx w' l2 t y:=⟨A.did.trans d,d.blk A.blk Taa,d.blk A.res Taa,Tr.at_.keep (iM d.grown Taa) _ _ A.tr⟩
end
theorem zer.Ka7(h:p:=by
 rcases hp.cases with ⟨_,r3,v,az,rfl,rfl,d5⟩|⟨m,au,rfl,hg⟩
 ·have jW:must bK r1=.ok ((),r3):=by rw[<- ay];exact az
  have et:=hid (HC.out.1 r3 jW);have Xj:=aa w5 (.cells (aT y).toArray 36);have YZ:=qX.out.go d5 Taa Taa;have EL:=hid YZ;have hA6:=YZ.later Xj;have O6:=YZ.blk.lt;have hq6:=YZ.res.lt;have hT:=yS (S:=Bx (w.heap.size+1) qx (w5.alloc (.cells (aT y).toArray 36))) 18 (av.new w5 36 (aT y).toArray) ⟨by omega,by simp,by omega⟩ hA6.tr;have HT:=hid (Tr.at_.keep (ku (Nat.le_refl _)) _ _ hT);have BB:=hid hA6;clear hp az jW Xj YZ hA6 hT qX d5 HC;unfold aT at HT BB EL;go_wp2_with (first
   |(refine wpList_load_row rfl 36 (.tmp 3) rfl qx rfl 36 (aT y).toArray (0,0) _ EL.out.blk Tryz.underlying36 rfl aF ?_
     unfold aT)
   |(refine wpList_store_row rfl 36 (.tmp 2) (.tmp 19) rfl w.heap.size (aT (sX 18 w5.heap.size 1)).toArray rfl rfl 36 dF BB.out.res aF rfl (cL _) ?_
     have HR:=hid (BB.out.res.row (aT (sX 18 w5.heap.size 1)).toArray)))
  refine bodyPost_ret (v:=dN (sX 18 w5.heap.size 1)) (results_cell_row Tryz.results222 _ _ w.heap.size 36 (aT (sX 18 w5.heap.size 1)).toArray (0,0) _ rfl HR.out Tryz.underlying36 rfl aF) rfl ?_;exact bV bj BB.out.did HT.out et.out
 ·have jW:must bK r1=.error m:=by rw[<- ay];exact au
  exact ZeG):p:=h
theorem zes.Ka7(h:p:=by
 rcases hp.cases with ⟨_,r3,v,az,rfl,rfl,d5⟩|⟨m,au,rfl,hg⟩
 ·have jW:must bK r1.tail=.ok ((),r3):=by rw[<- ay];exact az
  have et:=hid (HC.out.1 r3 jW);have Xj:=aa w5 (.cells (aT y).toArray 36);have YZ:=qX.out.go d5 Taa Taa;have EL:=hid YZ;have hA6:=YZ.later Xj;have O6:=YZ.blk.lt;have hq6:=YZ.res.lt;have hT:=yS (S:=Bx (w.heap.size+1) qx (w5.alloc (.cells (aT y).toArray 36))) 19 (av.new w5 36 (aT y).toArray) ⟨by omega,by simp,by omega⟩ hA6.tr;have HT:=hid (Tr.at_.keep (ku (Nat.le_refl _)) _ _ hT);have BB:=hid hA6;clear hp az jW Xj YZ hA6 hT qX d5 HC;unfold aT at HT BB EL;go_wp2_with (first
   |(refine wpList_load_row rfl 36 (.tmp 3) rfl qx rfl 36 (aT y).toArray (0,0) _ EL.out.blk Tryz.underlying36 rfl aF ?_
     unfold aT)
   |(refine wpList_store_row rfl 36 (.tmp 2) (.tmp 19) rfl w.heap.size (aT (sX 19 w5.heap.size 1)).toArray rfl rfl 36 dF BB.out.res aF rfl (cL _) ?_
     have HR:=hid (BB.out.res.row (aT (sX 19 w5.heap.size 1)).toArray)))
  refine bodyPost_ret (v:=dN (sX 19 w5.heap.size 1)) (results_cell_row Tryz.results222 _ _ w.heap.size 36 (aT (sX 19 w5.heap.size 1)).toArray (0,0) _ rfl HR.out Tryz.underlying36 rfl aF) rfl ?_;exact bV bj BB.out.did HT.out et.out
 ·have jW:must bK r1.tail=.error m:=by rw[<- ay];exact au
  exact ZeG):p:=h
theorem zh4.KcA(h:p:=by
 have hm:=IH 4 l _ lg dp Taa Taa (h.later hb);rw[xy];clear h hb;unfold dF at hm hsz;go_enter Tryz.func222,Tryz.ntmps222;go_wp2_with fail;refine hm.mono ?_;clear hm;intro e w2 hp;rcases hp.cases with ⟨t,r,v,az,rfl,y,rfl,hat,d2⟩|⟨m,au,rfl,hg⟩;case inr=>have HG:=hid HD.out.grown;have HE:=hid au;clear hp HQ HD IH hsz au;go_wp2_with fail;exact aj rfl (bt (ak HE.out) HG.out hg)
 have hs2:w.heap.size+1<=w2.heap.size:=by have:=d2.size;omega
 have hA:ni ρ w lg dp w.heap.size w2.heap.size (w2.alloc (.cells (aT y).toArray 36)) r t y:=
  ⟨(HD.out.trans d2).later (aa _ _),av.new w2 _ _,(d2.blk HQ.out Taa).alloc _,Tr.at_.keep (yR _ Taa) _ _ hat⟩
 have HA:=hid hA;have jh:=hid az;have vx:=(cg 4).len az;clear hA hp hat d2 az HQ HD hsz;unfold dN aT at*;go_upto_region 2 with fail;generalize w2.alloc _=W at*;generalize w2.heap.size=qx at*;have hm:=br ρ W r lg dp HA.out.did.at_ ⟨#[105,115]⟩;rw[show(⟨#[105,115]⟩:ByteArray).data.toList=lQ from rfl] at hm;cases hh:ar lQ r
 ·rw[hh,ck hh] at hm;have HNO:=hid (afh jh.out (by rw[tL,hh,ck hh]));clear hh;go_wp2_with fail;refine hm.mono ?_;clear hm;rintro e w3 ⟨rfl,d3⟩;have hA3:=(HA.out.go d3 Taa Taa).later (aa w3 (.cells (opsV (opsL 3)) 199));have mU:=hid hA3;have hs3:w.heap.size+1<=w3.heap.size:=by have:=HA.out.did.size;have:=HA.out.blk.lt;have:=d3.size;omega
  have hqo:qx < w3.heap.size:=Nat.lt_of_lt_of_le HA.out.blk.lt d3.size;have HO:=hid (av.new w3 199 (opsV (opsL 3)));rw[show opsV (opsL 3)= #[.string ⟨#[61]⟩,.int .u8 10,.string ⟨#[60,62]⟩,.int .u8 11,.string ⟨#[60]⟩,.int .u8 12,.string ⟨#[60,61]⟩,.int .u8 13,.string ⟨#[62]⟩,.int .u8 14,.string ⟨#[62,61]⟩,.int .u8 15] from rfl] at mU HO;clear hA3 d3 HA;go_upto_region 9 with fail;generalize w3.alloc _=W3 at*;generalize w3.heap.size=ob at*;go_loopw [28] (λ u wr=>∃i:Nat,i<=6/\u=.int .i64 i/\ni ρ w lg dp w.heap.size qx wr r t y/\av wr ob 199 (opsV (opsL 3))/\eR (opsL 3) r=eR ((opsL 3).drop i) r) (λ u _=>6 - (intOf u).toNat);case atStart=>exact⟨0,Nat.zero_le _,rfl,mU.out,HO.out,rfl⟩
  case round=>
   obtain⟨i,hi,rfl,hA4,hO4,hst⟩:=hrel;have qX:=hid hA4;have HO4:=hid hO4;have HS:=hid hst;clear hA4 hO4 hst mU HO;have Ei:=qX.out.blk.lt;have how:=HO4.out.lt;by_cases hlt:i < 6
   ·obtain⟨⟨s,o⟩,hs⟩:∃x,(opsL 3)[i]?=some x:=⟨_,getElem?_eq_getElem (show i <(opsL 3).length from hlt)⟩;obtain⟨c0,c1⟩:=CZ HO4.out hs;have Er:=hid (tD hs);clear hs;have SP:=aa wr (.cells #[.string ⟨s.toArray⟩,.int .u8 o] 199);have HN:=hid (av.new wr 199 #[.string ⟨s.toArray⟩,.int .u8 o]);have BB:=hid (qX.out.later SP);have HO6:=hid (HO4.out.later SP);have hm:=br ρ _ r lg dp (qX.out.did.at_.later SP) ⟨s.toArray⟩;rw[show(⟨s.toArray⟩:ByteArray).data.toList=s by simp] at hm;clear SP;cases hh:ar s r
    ·have wQ:=hid hh;rw[hh,ck hh] at hm;clear hh;go_wp2_with fail;refine hm.mono ?_;clear hm;rintro e w4 ⟨rfl,d4⟩;go_wp2_with fail;go_roundw;case rel=>exact⟨i+1,by omega,by go_num,BB.out.go d4 Taa Taa,d4.blk HO6.out Taa,by rw[HS.out,Er.out,QP wQ.out]⟩
     case measure=>exact Zcu
    ·have Yr:=hid (show eR (opsL 3) r=some o by rw[HS.out,Er.out,Li hh]);have hhl:=oB hh;rw[hh,cw hh] at hm;clear hh;go_wp2_with fail;refine hm.mono ?_;clear hm;rintro e w4 ⟨rfl,d4⟩;have hnw:wr.heap.size≠ρ.g:=by omega
     have Ej:=hid (BB.out.go d4 Taa Taa);have HN8:=hid (d4.blk HN.out hnw);have zZ:wr.heap.size≠qx:=by omega
     clear BB HO6 HN qX HO4 HS Er d4 c0 c1;generalize wr.heap.size=nb at*;have Dc:=hid (show∀w' w'',(av w' qx 36 (aT y).toArray/\w'.cell? ⟨nb,1,none⟩=some (.int .u8 o))->af w' w''->(av w'' qx 36 (aT y).toArray/\w''.cell? ⟨nb,1,none⟩=some (.int .u8 o))from λ w' w'' hh hl=>⟨hh.1.later hl,(hl.cell (ax hh.2)).trans hh.2⟩);have HC:=hid (show w4.cell? ⟨nb,1,none⟩=some (.int .u8 o)from HN8.out.cell 1)
     cases zj:aU 4 r.tail with
     | ok x=>
       obtain⟨t2,r2⟩:=x;have Dd:=hid zj;have et:=hid (show sj (aU 4) l=.ok (nr o [t,t2],r2) by rw[HNO.out];unfold yX;rw[Yr.out];simp only;rw[ag zj];rfl);clear zj;go_wp2_with fail;refine IQ (P:=Tryz.prog) (H:=λ W=>av W qx 36 (aT y).toArray/\W.cell? ⟨nb,1,none⟩=some (.int .u8 o)) (val:=dN) (e:=36) (k:=2) (cs:=λ z=>(aT y++aT z).toArray) (bv:=λ _ s=> .agg #[.int .u8 o,.int .u8 0,.int .i64 0,.string ⟨#[]⟩,.string ⟨#[]⟩,.int .i64 0,s]) (Post:=λ z W W'=>t2.at_ W' (eC W.heap.size W') z/\aY ρ W W' r2 lg dp) (w0:=w4) (s0:=6) (s1:=3) (s2:=0) (d0:=36) (d1:=37) (d2:=38) (d3:=39) (d4:=40) (d5:=41) (d6:=42) (vs0:=.pointer (some ⟨nb,0,none⟩)) (vs1:=.pointer (some ⟨qx,0,none⟩)) (vs2:=ρ.ptr) (u0:=.pointer (some ⟨nb,1,none⟩)) (u1:=.int .u8 o) (u2:=dN y) (u3:=ρ.ptr) (F:=232) (args:= #[ρ.ptr]) Tac Tac Tac Tac rfl rfl rfl ⟨Ej.out.blk,HC.out⟩ Dc.out ?_ ?_ ?_ ?_ ?_ ?_ ?_ Tac ?_ ?_ ?_
       ·exact Zb8
       ·exact Ze6
       ·exact Zdo
       ·exact Zb8
       ·intro ρ' w' hc h';simp[go_sem,h',hc.const,hc.func]
       ·intro ρ' w' z h' nK;simp[go_sem,h',nK,dN,aT]
       ·intro ρ' w' z g0' h' nK;simp[go_sem,h',nK]
       ·rintro z w' w'' ⟨hh1,hh2⟩ ⟨_,dd⟩;exact⟨hh1.grown dd.grown Tad,(cell_of_heap (dd.grown.block nb (ax hh2) Tad) _).trans hh2⟩
       ·intro w' hw';refine(IH 4 r.tail w' lg dp Taa Taa (Ej.out.did.at_.later hw')).mono ?_;exact Zc6
       intro z g0 W1 W1' W2 vt ⟨QI,d2⟩ hl2 hN hg0;have hA9:=((Ej.out.later vt).go d2 Taa Taa).later hl2;have wy:=hN.lt;have hz3:=d2.size;have hz2:w4.heap.size<=W1.heap.size:=vt.size;have hz4:W1'.heap.size<=W2.heap.size:=hl2.size;have hq4:=Ej.out.blk.lt;have hQ4:=Ej.out.res.lt;have hT:=Nx (S:=Bx (w.heap.size+1) qx W2) o hN ⟨by omega,wy,by omega⟩ hA9.tr (Tr.at_.keep (Qh Taa Taa) _ _ (QI.later hl2));have HT:=hid (Tr.at_.keep (ku (Nat.le_refl _)) _ _ hT);have fB:=hid hA9;clear hA9 hT vt QI d2 hl2 hN hg0 Yr Dc HC HN8 Ej wy hz3 hz2 hz4;simp only[Act.put,Uac];go_wp2_with (first
        |(refine wpList_store_row rfl 36 (.tmp 2) (.tmp 42) rfl w.heap.size (aT (sX o g0 2)).toArray rfl rfl 36 dF fB.out.res aF rfl (cL _) ?_
          have HR:=hid (fB.out.res.row (aT (sX o g0 2)).toArray)))
       refine bodyPost_ret (v:=dN (sX o g0 2)) (results_cell_row Tryz.results222 _ _ w.heap.size 36 (aT (sX o g0 2)).toArray (0,0) _ rfl HR.out Tryz.underlying36 rfl aF) rfl ?_;exact bV bj fB.out.did HT.out et.out
     | error m=>
       have Dd:=hid zj;have et:=hid (show sj (aU 4) l=.error m by rw[HNO.out];unfold yX;rw[Yr.out];simp only;rw[ak zj]);clear zj;go_wp2_with fail;refine wD (P:=Tryz.prog) (H:=λ W=>av W qx 36 (aT y).toArray/\W.cell? ⟨nb,1,none⟩=some (.int .u8 o)) (E:=λ C W=>C=[rG (ρ.placeOf m)]/\w.grownBy W (some ρ.g)) (w0:=w4) (s0:=6) (s1:=3) (s2:=0) (d0:=36) (d1:=37) (d2:=38) (d3:=39) (d4:=40) (d5:=41) (d6:=42) (vs0:=.pointer (some ⟨nb,0,none⟩)) (vs1:=.pointer (some ⟨qx,0,none⟩)) (vs2:=ρ.ptr) (u0:=.pointer (some ⟨nb,1,none⟩)) (u1:=.int .u8 o) (u2:=dN y) (u3:=ρ.ptr) (F:=232) (args:= #[ρ.ptr]) Tac Tac Tac Tac rfl rfl rfl ⟨Ej.out.blk,HC.out⟩ Dc.out Zb8 Ze6 Zdo Zb8 ?_ Tac ?_ ?_
       ·intro ρ' w' hc h';simp[go_sem,h',hc.const,hc.func]
       ·intro w' hw';refine(IH 4 r.tail w' lg dp Taa Taa (Ej.out.did.at_.later hw')).mono ?_;intro e w'' hp;rcases hp.cases with ⟨t3,r3,v,az,_⟩|⟨m',au,rfl,hg⟩
        ·rw[Dd.out] at az;cases az
        ·rw[Dd.out] at au;injection au with au;subst au;exact⟨_,rfl,rfl,ai (Ej.out.did.later hw').grown hg⟩
       ·rintro C a W hd ⟨rfl,hg⟩;have hE:=bt (lg:=lg) (dp:=dp) et.out (aB (Below.refl _ _)) hg;simp only[Exit.inBlock,Exit.then];exact aj (P:=Tryz.prog) (fn:=Tryz.f222) hd hE
   ·obtain rfl:i=6:=by omega
    have et:=hid (show sj (aU 4) l=.ok (t,r) by rw[HNO.out];unfold yX;rw[HS.out];rfl);have HT:=hid (Tr.at_.keep (ku (Nat.le_refl _)) _ _ qX.out.tr);go_wp2_with (first
     |(refine wpList_load_row rfl 36 (.tmp 3) rfl qx rfl 36 (aT y).toArray (0,0) _ qX.out.blk Tryz.underlying36 rfl aF ?_)
     |(refine wpList_store_row rfl 36 (.tmp 2) (.tmp 44) rfl w.heap.size (aT y).toArray rfl rfl 36 dF qX.out.res aF rfl (cL _) ?_
       have HR:=hid (qX.out.res.row (aT y).toArray)))
    refine bodyPost_ret (v:=dN y) (results_cell_row Tryz.results222 _ _ w.heap.size 36 (aT y).toArray (0,0) _ rfl HR.out Tryz.underlying36 rfl aF) rfl ?_;exact bV bj qX.out.did HT.out et.out
 ·rw[hh,cw hh] at hm;have HI:=hid (show may lQ r=.ok (true,r.tail) by rw[tL,hh,cw hh]);clear hh IH;go_wp2_with fail;refine hm.mono ?_;clear hm;rintro e w3 ⟨rfl,d3⟩;have mU:=hid (HA.out.go d3 Taa Taa);clear HA d3;generalize r.tail=r1 at*;have hm:=br ρ w3 r1 lg dp mU.out.did.at_ ⟨#[110,111,116]⟩;rw[show(⟨#[110,111,116]⟩:ByteArray).data.toList=ei from rfl] at hm;cases hh:ar ei r1
  ·rw[hh,ck hh] at hm;have HC:=hid (YY jh.out HI.out (show may ei r1=.ok (false,r1) by rw[tL,hh,ck hh]));open zer in exact ZbM
  ·rw[hh,cw hh] at hm;have HC:=hid (YY jh.out HI.out (show may ei r1=.ok (true,r1.tail) by rw[tL,hh,cw hh]));open zes in exact ZbM):p:=h
theorem akT (ρ:bp)(w:World)(l:aI)(lg dp:Bool)(h:ρ.fU w l lg dp)(IH:QN ρ (8*l.length+4)):
  Calls Tryz.prog 222 #[ρ.ptr] w (fq ρ w lg dp (aU 3) l):=by have bj:=h.nt;have hb:=aa w (.cells dF 36);open zh4 in exact Zgl
end Go.Proofs.YtehhdlgjfdnafaaGreatDoor
