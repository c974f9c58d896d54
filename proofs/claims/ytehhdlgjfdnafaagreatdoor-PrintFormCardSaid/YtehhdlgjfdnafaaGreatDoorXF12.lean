/- Parts of the proof. -/
import Derived.Test.YtehhdlgjfdnafaaGreatDoorXF11
namespace Go.Proofs.YtehhdlgjfdnafaaGreatDoor
variable{p:Prop}
set_option maxHeartbeats 90000000
set_option maxRecDepth 100000
open Go.Lib (hid)
open Go.ChangeShapes Go.WideShapes Go.ChangeAt Go.RowKit List
set_option linter.unusedVariables false
set_option linter.unusedSimpArgs false
def bw.xm (ρ:bw)(l:aK)(lg dp:Bool):Array Value:= #[.slice (some ⟨ρ.gl,0,none⟩) ρ.n ρ.c,.int .i64 ((ρ.n:Int) - l.length),.bool lg,.bool dp]
structure bw.gh (ρ:bw) (w:World) (l:aK) (lg dp:Bool):Prop where
 blk:av w ρ.g 79 (ρ.xm l lg dp)
 lt:ρ.gl < ρ.g
 cell:∀k t,ρ.BF[k]?=some t->w.cell? ⟨ρ.gl,k*4,none⟩=some (.int .u8 t.w.k)/\w.cell? ⟨ρ.gl,k*4+1,none⟩=some (.string ⟨t.w.s.toArray⟩)/\w.cell? ⟨ρ.gl,k*4+2,none⟩=some (.int .i64 t.w.n)/\w.cell? ⟨ρ.gl,k*4+3,none⟩=some (.int .i64 t.p)
 of:(eu.good l).of ρ.ws
 small:ρ.n<=5000
 yo:∀t∈ρ.BF,0<=t.w.n/\t.w.n<=9223372036854775807
 env:∃B,B<=ρ.g/\Env B w
section
variable {ρ:bw} {w w':World} {l l':aK} {lg dp lg' dp':Bool}
theorem bw.gh.later (h:ρ.gh w l lg dp)(hb:Below w.heap.size w w'):ρ.gh w' l lg dp:=
 ⟨h.blk.later hb,h.lt,λ k t hk=>by
   have hl:ρ.gl < w.heap.size:=Nat.lt_trans h.lt h.blk.lt
   have c:=λ o=>hb.cell (p:=⟨ρ.gl,o,none⟩) hl
   obtain⟨h1,h2,h3,h4⟩:=h.cell k t hk
   exact⟨(c _).trans h1,(c _).trans h2,(c _).trans h3,(c _).trans h4⟩,h.of,h.small,h.yo,by obtain⟨B,h1,h2⟩:=h.env;exact⟨B,h1,h2.later hb⟩⟩
theorem bw.gh.od (h:ρ.gh w l lg dp):ρ.g < w.heap.size:=h.blk.lt
theorem bw.gh.set (h:ρ.gh w l lg dp)(hw:av w' ρ.g 79 (ρ.xm l' lg' dp'))(hg:w.grownBy w' (some ρ.g))(ho:(eu.good l').of ρ.ws):ρ.gh w' l' lg' dp':=
 ⟨hw,h.lt,λ k t hk=>by
   have hl:ρ.gl < w.heap.size:=Nat.lt_trans h.lt h.blk.lt
   have c:=cell_of_heap (hg.block ρ.gl hl (λ e=>by injection e with e;have:=h.lt;omega))
   obtain⟨h1,h2,h3,h4⟩:=h.cell k t hk
   exact⟨(c _).trans h1,(c _).trans h2,(c _).trans h3,(c _).trans h4⟩,ho,h.small,h.yo,by obtain⟨B,h1,h2⟩:=h.env;exact⟨B,h1,h2.grown hg h1⟩⟩
theorem bw.gh.left (h:ρ.gh w l lg dp):0 < l.length/\l.length<=ρ.n:=by have:=eu.Ji h.of;simpa [bw.ws,bw.n,eu.left] using this
theorem bw.gh.far {q:Nat}(h:ρ.gh w l lg dp)(hq:ρ.g < q)(i:Nat)(u:Value):ρ.gh (w.setCell ⟨q,i,none⟩ u) l lg dp:=
 ⟨h.blk.far (p:=⟨q,i,none⟩) Tae u,h.lt,λ k t hk=>by
   have c:=cell_of_heap (Below.heap_setCell w ⟨q,i,none⟩ u ρ.gl (by have:=h.lt;simp;omega))
   obtain⟨h1,h2,h3,h4⟩:=h.cell k t hk
   exact⟨(c _).trans h1,(c _).trans h2,(c _).trans h3,(c _).trans h4⟩,h.of,h.small,h.yo,by obtain⟨B,h1,h2⟩:=h.env;exact⟨B,h1,h2.grown (bE (aD (Below.refl _ _)) i u) Taa⟩⟩
theorem bw.gh.next (h:ρ.gh w l lg dp):∃t r,ρ.BF[ρ.n - l.length]?=some t/\l=t.w::r:=by
 obtain⟨h1,h2⟩:=h.left;have hlt:ρ.n - l.length < ρ.BF.length:=by unfold bw.n at*;omega
 obtain⟨t,r,hl,hk⟩:=eu.of_next h.of;refine⟨_,r,getElem?_eq_getElem hlt,?_⟩;have e:ρ.ws.length - l.length=ρ.n - l.length:=by simp[bw.ws,bw.n]
 exact ZdD
end
structure bh (ρ:bw) (W w':World) (l:aK) (lg dp:Bool):Prop where
 at_:ρ.gh w' l lg dp
 grown:W.grownBy w' (some ρ.g)
section
variable {ρ:bw} {W w w':World} {l l':aK} {lg dp lg' dp':Bool}
theorem bh.refl (h:ρ.gh w l lg dp):bh ρ w w l lg dp:=⟨h,aD (Below.refl _ _)⟩
theorem bh.aF (h:ρ.gh w l lg dp)(hb:Below w.heap.size w w'):bh ρ w w' l lg dp:=⟨h.later hb,aD hb⟩
theorem bh.later (h:bh ρ W w l lg dp)(hb:Below w.heap.size w w'):bh ρ W w' l lg dp:=⟨h.at_.later hb,ai h.grown (aD hb)⟩
theorem bh.trans (h:bh ρ W w l lg dp)(k:bh ρ w w' l' lg' dp'):bh ρ W w' l' lg' dp':=⟨k.at_,ai h.grown k.grown⟩
theorem bh.lt (h:bh ρ W w l lg dp):ρ.g < w.heap.size:=h.at_.od
theorem bh.size (h:bh ρ W w l lg dp):W.heap.size<=w.heap.size:=h.grown.size
theorem bh.far {q:Nat}(h:bh ρ W w l lg dp)(hW:ρ.g < W.heap.size)(hq:W.heap.size<=q)(i:Nat)(u:Value):bh ρ W (w.setCell ⟨q,i,none⟩ u) l lg dp:=by exact Zci
theorem bh.blk {q:Nat} {t:TypeId} {cs:Array Value}(h:bh ρ W w l lg dp)(hq:av W q t cs)(hg:q≠ρ.g):av w q t cs:=hq.grown h.grown λ e=>hg Ta8
theorem bh.own {W0:World} {row:Option Nat}(h:bh ρ W0 w l lg dp)(hg:ρ.g < W0.heap.size)(k:w.grownBy w' row)(hr:∀G,row=some G->W0.heap.size<=G):bh ρ W0 w' l lg dp:=by
 have hk:∀i,i < w.heap.size->some i≠row->w'.heap[i]?=w.heap[i]?:=k.block;have hne:∀i,i < W0.heap.size->some i≠row:=λ i hi e=>by have:=hr i e.symm;omega
 refine⟨⟨(hk _ h.at_.od (hne _ hg)).trans h.at_.blk,h.at_.lt,λ i t hi=>?_,h.at_.of,h.at_.small,h.at_.yo,by obtain⟨B,h1,h2⟩:=h.at_.env;exact⟨B,h1,h2.below ⟨k.os,k.tape,k.output,k.size,λ i hi=>hk i (by have:=h2.size;omega) (hne i Taa)⟩⟩⟩,k.os.trans h.grown.os,k.tape.trans h.grown.tape,k.output.trans h.grown.output,Nat.le_trans h.grown.size k.size,λ i hi hig=>(hk i (Nat.lt_of_lt_of_le hi h.grown.size) (hne i hi)).trans (h.grown.block i hi hig)⟩;have hl:ρ.gl < W0.heap.size:=Nat.lt_trans h.at_.lt hg;have c:=cell_of_heap (hk ρ.gl (Nat.lt_of_lt_of_le hl h.grown.size) (hne _ hl));obtain⟨h1,h2,h3,h4⟩:=h.at_.cell i t hi;exact Zda
end
structure RD (ρ:bw) (w:World) (t:na) (pl:Nat):Prop where
 c0:w.cell? ⟨ρ.g,0,none⟩=some (.slice (some ⟨ρ.gl,0,none⟩) ρ.n ρ.c)
 c1:w.cell? ⟨ρ.g,1,none⟩=some (.int .i64 pl)
 d0:w.cell? ⟨ρ.gl,pl*4,none⟩=some (.int .u8 t.w.k)
 d1:w.cell? ⟨ρ.gl,pl*4+1,none⟩=some (.string ⟨t.w.s.toArray⟩)
 d2:w.cell? ⟨ρ.gl,pl*4+2,none⟩=some (.int .i64 t.w.n)
 d3:w.cell? ⟨ρ.gl,pl*4+3,none⟩=some (.int .i64 t.p)
variable{ρ:bw}{w w':World}{pl:Nat}
theorem RD.later{t:na} (h:RD ρ w t pl)(hb:Below w.heap.size w w'):RD ρ w' t pl:=by obtain⟨h0,h1,h3,h4,h5,h6⟩:=h;exact⟨(hb.cell (ax h0)).trans h0,(hb.cell (ax h1)).trans h1,(hb.cell (ax h3)).trans h3,(hb.cell (ax h4)).trans h4,(hb.cell (ax h5)).trans h5,(hb.cell (ax h6)).trans h6⟩
def bw.tok (ρ:bw)(l:aK):na:=(ρ.BF[ρ.n - l.length]?).getD ⟨⟨0,[],0⟩,0⟩
def bw.placeOf (ρ:bw)(n:Nat):Nat:=((ρ.BF[ρ.n - n]?).map (·.p)).getD 0
variable{l:aK}{lg dp:Bool}
theorem bw.gh.mN(h:ρ.gh w l lg dp):∃(t:na) (r:aK) (pl:Nat),t=ρ.tok l/\l=t.w::r/\pl < ρ.n/\ρ.n<=5000/\(pl:Int)=(ρ.n:Int) - l.length/\t.p=ρ.placeOf l.length/\0<=t.w.n/\t.w.n<=9223372036854775807/\RD ρ w t pl:=by
 obtain⟨t,r,ht,hl⟩:=h.next;obtain⟨d0,d1,d2,d3⟩:=h.cell _ t ht;have tD:=h.left;have c0:=h.blk.cell 0;have c1:=h.blk.cell 1;have e:((ρ.n:Int) - l.length)=((ρ.n - l.length:Nat):Int):=by omega
 have hn:=h.yo t (mem_of_getElem? ht);refine⟨t,r,ρ.n - l.length,by unfold bw.tok;rw[ht];rfl,hl,by omega,h.small,by omega,by unfold bw.placeOf;rw[ht];rfl,hn.1,hn.2,c0,?_,d0,d1,d2,d3⟩;rw[c1];show some (Value.int .i64 ((ρ.n:Int) - l.length))=_;rw[e]
theorem bw.gh.facts(h:ρ.gh w l lg dp):
  w.cell? ⟨ρ.g,0,none⟩=some (.slice (some ⟨ρ.gl,0,none⟩) ρ.n ρ.c)/\w.cell? ⟨ρ.g,1,none⟩=some (.int .i64 ((ρ.n:Int) - l.length))/\w.cell? ⟨ρ.g,2,none⟩=some (.bool lg)/\w.cell? ⟨ρ.g,3,none⟩=some (.bool dp)/\
  w.frozen? ⟨ρ.g,1,none⟩=false/\w.frozen? ⟨ρ.g,2,none⟩=false/\w.frozen? ⟨ρ.g,3,none⟩=false:=
 ⟨h.blk.cell 0,h.blk.cell 1,h.blk.cell 2,h.blk.cell 3,h.blk.frozen 1,h.blk.frozen 2,h.blk.frozen 3⟩
theorem vE:(Tryz.prog.info? 81).map (·.size)=some 4:=by kernel_rfl
theorem iD (ρ:bw)(w:World)(l:aK)(lg dp:Bool)(h:ρ.gh w l lg dp):
  Calls Tryz.prog 29 #[ρ.ptr] w λ e w'=>e=.returned (.agg (cA (ρ.tok l)))/\Below w.heap.size w w':=by obtain⟨t,r,pl,rv,hl,hlt,hsm,hpl,Ch,Bd,Cf,hp⟩:=h.mN;have hp2:=hp.later (aa w zM);rw[<- rv];have hb:=(aa w (.cells (cA t) 81)).drew;have HT:=(av.new w 81 (cA t)).drew;clear rv hl h hpl Ch Bd Cf;unfold bw.ptr;obtain⟨c0,c1,d0,d1,d2,d3⟩:=hp;obtain⟨y0,y1,z0,z1,z2,z3⟩:=hp2;unfold zM at y0 y1 z0 z1 z2 z3;go_enter Tryz.func29,Tryz.ntmps29;go_wp2_with fail;go_region;clear c0 c1 d0 d1 d2 d3 y0 y1 z0 z1 z2 z3;obtain⟨u0,u1,u2,u3,_⟩:=aO HT;have zz:av (w.alloc (.cells #[.int .u8 t.w.k,.string ⟨t.w.s.toArray⟩,.int .i64 t.w.n,.int .i64 t.p] 81)).drew w.heap.size 81 (cA t):=HT;clear HT;unfold cA at u0 u1 u2 u3 hb;generalize (w.alloc _).drew=W at*;go_wp2_with fail;exact bodyPost_ret (v:=.agg (cA t)) (results_cell_row Tryz.results29 _ _ w.heap.size 81 (cA t) (0,0) _ rfl zz Tryz.underlying81 rfl vE) rfl ⟨rfl,hb⟩
theorem Aa (a b c d:Value):(∀w:World,(Instr.field 81 (.agg #[a,b,c,d]) 0).run Tryz.prog w=.ok a w)/\(∀w:World,(Instr.field 81 (.agg #[a,b,c,d]) 1).run Tryz.prog w=.ok b w)/\(∀w:World,(Instr.field 81 (.agg #[a,b,c,d]) 2).run Tryz.prog w=.ok c w)/\(∀w:World,(Instr.field 81 (.agg #[a,b,c,d]) 3).run Tryz.prog w=.ok d w):=⟨λ _=>by kernel_rfl,λ _=>by kernel_rfl,λ _=>by kernel_rfl,λ _=>by kernel_rfl⟩
def sy (p:Nat):PanicEntry:= { v:=.iface 75 (.agg #[.int .i64 p]),recovered:=false }
def iE (ρ:bw)(w:World)(n:Nat)(e:Ending)(w':World):Prop:=e=.panicked [sy (ρ.placeOf n)]/\w.grownBy w' (some ρ.g)
theorem jX (ρ:bw)(w:World)(l:aK)(lg dp:Bool)(h:ρ.gh w l lg dp):
  Calls Tryz.prog 30 #[ρ.ptr] w (iE ρ w l.length):=by obtain⟨t,r,pl,rv,hl,hlt,hsm,hpl,Ch,_,_,hp⟩:=h.mN;have eX:=iD ρ w l lg dp h;rw[<- rv] at eX;unfold iE;rw[<- Ch];clear rv hl hpl Ch hp;go_enter Tryz.func30,Tryz.ntmps30;go_wp2_with fail;refine eX.mono ?_;rintro e w1 ⟨rfl,b1⟩;unfold cA;have Xa:=Aa (.int .u8 t.w.k) (.string ⟨t.w.s.toArray⟩) (.int .i64 t.w.n) (.int .i64 t.p);go_wp2_with fail;exact aj rfl ⟨rfl,aD b1⟩
variable{α:Type}
def GP(ρ:bw)(W:World)(P:Ps α)(l:aK)(Q:α->aK->Value->World->Prop)(e:Ending)(w':World):Prop:=
 match P l with
 | .ok (x,r)=>∃v,e=.returned v/\Q x r v w'
 | .error n=>iE ρ W n e w'
section
variable {α β:Type} {ρ:bw} {W w w':World} {P:Ps α} {l r:aK} {Q:α->aK->Value->World->Prop}
theorem GP.ok {x:α} {v:Value}(h:P l=.ok (x,r))(k:Q x r v w'):GP ρ W P l Q (.returned v) w':=by unfold GP;rw[h];exact⟨v,rfl,k⟩
theorem GP.err {n:Nat} {e:Ending}(h:P l=.error n)(k:iE ρ W n e w'):GP ρ W P l Q e w':=by unfold GP;rw[h];exact k
theorem GP.cases {e:Ending}(h:GP ρ W P l Q e w'):(∃x r v,P l=.ok (x,r)/\e=.returned v/\Q x r v w')\/∃n,P l=.error n/\iE ρ W n e w':=by
 unfold GP at h
 cases hp:P l with
 | error n=>rw[hp] at h;exact .inr ⟨n,rfl,h⟩
 | ok y=>obtain⟨x,r⟩:=y;rw[hp] at h;obtain⟨v,h1,h2⟩:=h;exact .inl ⟨x,r,v,rfl,h1,h2⟩
end
theorem abc (ρ:bw)(w:World)(l:aK)(lg dp:Bool)(h:ρ.gh w l lg dp)(s:ByteArray):
  Calls Tryz.prog 74 #[ρ.ptr,.string s] w λ e w'=>e=.returned (.bool (ar s.data.toList l))/\Below w.heap.size w w':=by
 obtain⟨t,r,pl,rv,hl,hlt,hsm,hpl,Ch,Bd,Cf,hp⟩:=h.mN;have eX:=iD ρ w l lg dp h;rw[<- rv] at eX;have hHD:ar s.data.toList l=((t.w.k==1 || t.w.k==4)&&(t.w.s==s.toList)):=by rw[hl,<- Lt];rfl
 have xA:=hid hHD;clear hHD rv hl hpl Ch Bd Cf hp hlt hsm h;generalize ar s.data.toList l=R at*;go_enter Tryz.func74,Tryz.ntmps74;go_wp2_with fail;refine eX.mono ?_;rintro e w1 ⟨rfl,b1⟩;unfold cA;have hb:=λ o=>af.then b1 (aa w1 o)
 go_wp2_with fail
 all_goals
  go_ret;refine⟨dv ?_,hb _⟩;rw[xA.out];generalize (t.w.s==s.toList)=X;cases X <;> rw[Bool.eq_iff_iff] <;> simp <;> omega
def ja (s:List UInt8)(l:aK):aK:=if ar s l then l.tail else l
theorem uo (s:List UInt8)(l:aK):may s l=.ok (ar s l,ja s l):=by unfold may ja;cases ar s l <;> rfl
theorem bw.gh.step {ρ:bw} {w:World} {l:aK} {t:Wd} {lg dp:Bool}(h:ρ.gh w (t::l) lg dp)(ht:t.k≠0):
  bh ρ w (w.setCell ⟨ρ.g,1,none⟩ (.int .i64 ((ρ.n:Int) - l.length))) l lg dp:=by exact Zc1
theorem bz (ρ:bw)(w:World)(l:aK)(lg dp:Bool)(h:ρ.gh w l lg dp)(s:ByteArray):
  Calls Tryz.prog 28 #[ρ.ptr,.string s] w λ e w'=>e=.returned (.bool (ar s.data.toList l))/\bh ρ w w' (ja s.data.toList l) lg dp:=by
 have hw:=abc ρ w l lg dp h s;have Dj:ρ.ptr=.pointer (some ⟨ρ.g,0,none⟩):=rfl;cases hh:ar s.data.toList l
 ·rw[hh] at hw;rw[show ja s.data.toList l=l by unfold ja;rw[hh];rfl];have HH:=hid h;clear h hh;go_enter Tryz.func28,Tryz.ntmps28;go_wp2_with fail;refine hw.mono ?_;rintro e w1 ⟨rfl,b1⟩;go_wp2_with fail;go_ret;exact⟨rfl,bh.aF HH.out b1⟩
 ·rw[hh] at hw;obtain⟨t,r,rfl,ht⟩:=eU hh;rw[show ja s.data.toList (t::r)=r by unfold ja;rw[hh];rfl];have HH:=hid h;have HK:=hid (CZ ht);have hsm:=h.small;clear ht hh h;go_enter Tryz.func28,Tryz.ntmps28;go_wp2_with fail;refine hw.mono ?_;rintro e w1 ⟨rfl,b1⟩;obtain⟨c0,c1,c2,c3,f1,f2,f3⟩:=(HH.out.later b1).facts;have tD:=(HH.out.later b1).left;have e1:(ρ.n:Int) - ((r.length:Int)+1)+1=(ρ.n:Int) - r.length:=by omega
  simp only[length_cons] at tD;rw[Dj];go_wp2_with fail;go_ret;have hd:=bw.gh.step (HH.out.later b1) HK.out;exact⟨rfl,(bh.aF HH.out b1).trans hd⟩
variable{s:List UInt8}
theorem JD{ks:List (List UInt8)} (h:ar s l=false):jS (s::ks) l=jS ks l:=by simp only[jS,h];rfl
theorem Ci{ks:List (List UInt8)} (h:ar s l=true):jS (s::ks) l=.ok (s,l.tail):=by simp only[jS,h,if_true]
theorem cy(h:ar s l=false):ja s l=l:=by unfold ja;rw[h];rfl
theorem cE(h:ar s l=true):ja s l=l.tail:=by unfold ja;rw[h];rfl
theorem zgj.KbU(h:p:=by
 have hm:=bz ρ wr l lg dp HD.out.at_ ⟨s.toArray⟩;rw[show(⟨s.toArray⟩:ByteArray).data.toList=s by simp] at hm;cases hh:ar s l
 ·have xA:=hid hh;rw[hh,cy hh] at hm;clear hh;go_wp2_with fail;refine hm.mono ?_;clear hm;rintro e w1 ⟨rfl,d1⟩;go_wp2_with fail;go_roundw;case rel=>exact⟨i+1,by omega,by go_num,HD.out.trans d1,by rw[HS.out,Fh.out,JD xA.out]⟩
  case measure=>exact Zcs
 ·have xA:=hid hh;rw[hh,cE hh] at hm;clear hh;go_wp2_with fail;refine hm.mono ?_;clear hm;rintro e w1 ⟨rfl,d1⟩;go_wp2_with fail;go_ret;exact GP.ok (by rw[HS.out,Fh.out,Ci xA.out]) ⟨rfl,HD.out.trans d1⟩):p:=h
theorem ry (ρ:bw)(w:World)(l:aK)(lg dp:Bool)(h:ρ.gh w l lg dp)(ks:List (List UInt8))(b n:Nat)(hn:ks.length=n)(hb:av w b 9 (aR ks))(hbg:ρ.g≠b)(hsm:n<=10):
  Calls Tryz.prog 111 #[ρ.ptr,.slice (some ⟨b,0,none⟩) n n] w (GP ρ w (jS ks) l λ s r v w'=>v=strOf s/\bh ρ w w' r lg dp):=by
 have HH:=hid h;have HB:=hid hb;clear h hb;go_enter Tryz.func111,Tryz.ntmps111;go_wp2_with fail;go_loopw [9] (λ u wr=>∃(i:Nat),i<=n/\u=.int .i64 i/\bh ρ w wr l lg dp/\jS ks l=jS (ks.drop i) l) (λ u _=>n - (intOf u).toNat);case atStart=>exact⟨0,Nat.zero_le _,rfl,bh.refl HH.out,rfl⟩
 case round=>
  obtain⟨i,hi,rfl,hD,hst⟩:=hrel;have HD:=hid hD;have HS:=hid hst;clear hD hst;by_cases hlt:i < n
  ·open zgj in exact Zd6
  ·obtain rfl:i=n:=by omega
   have Fh:=hid (show ks.drop i=[] from drop_eq_nil_of_le Taa);have hf:=jX ρ wr l lg dp HD.out.at_;go_wp2_with fail;refine hf.mono ?_;clear hf;rintro e w1 ⟨rfl,hg2⟩;go_wp2_with fail;exact aj rfl (GP.err (n:=l.length) (by rw[HS.out,Fh.out];rfl) ⟨rfl,ai HD.out.grown hg2⟩)
theorem ZR(h:ar s l=true):must s l=.ok ((),l.tail):=by simp only[must,h,if_true]
theorem abe(h:ar s l=false):must s l=.error l.length:=by simp only[must,h];rfl
variable{r:aK}
theorem ZT{x:List UInt8}(h:jS [s] l=.ok (x,r)):must s l=.ok ((),r):=by
 cases hh:ar s l
 ·rw[JD hh] at h;cases h
 ·rw[Ci hh] at h;injection h with h;injection h with h1 h2;rw[ZR hh,h2]
variable{n:Nat}
theorem JE(h:jS [s] l=.error n):must s l=.error n:=by
 cases hh:ar s l
 ·rw[JD hh] at h;injection h with h;rw[abe hh,h]
 ·rw[Ci hh] at h;cases h
theorem zgk.KbU(h:p:=by
 have hb1:=aa wr (.cells (aR [s]) 9);have hm:=ry ρ _ l' lg dp (HD.out.at_.later hb1) [s] wr.heap.size 1 rfl (av.new wr _ _) (by have:=HD.out.lt;omega) Taa;have pQ:=hid hb1;clear hb1;unfold aR strOf at hm;simp only[map_cons,map_nil] at hm;go_wp2_with fail;refine hm.mono ?_;clear hm;intro e w1 hp;rcases hp.cases with ⟨x,r,v,aC,rfl,rfl,d1⟩|⟨m,au,rfl,hg⟩
 ·clear hp;go_wp2_with fail;go_roundw;case rel=>exact⟨i+1,r,by omega,by go_num,(HD.out.later pQ.out).trans d1,by rw[HS.out,Fh.out];exact ag (ZT aC)⟩
  case measure=>exact Zcs
 ·clear hp;go_wp2_with fail;exact aj rfl (GP.err (n:=m) (by rw[HS.out,Fh.out];exact ak (JE au)) ⟨rfl,ai (HD.out.later pQ.out).grown hg⟩)):p:=h
theorem aY (ρ:bw)(w:World)(l:aK)(lg dp:Bool)(h:ρ.gh w l lg dp)(ks:List (List UInt8))(b n:Nat)(hn:ks.length=n)(hb:av w b 9 (aR ks))(hbg:ρ.g≠b)(hsm:n<=10):
  Calls Tryz.prog 110 #[ρ.ptr,.slice (some ⟨b,0,none⟩) n n] w (GP ρ w (gW ks) l λ s r v w'=>v=.tuple #[]/\bh ρ w w' r lg dp):=by
 have HH:=hid h;have HB:=hid hb;clear h hb;go_enter Tryz.func110,Tryz.ntmps110;go_wp2_with fail;go_loopw [8] (λ u wr=>∃(i:Nat) (l':aK),i<=n/\u=.int .i64 i/\bh ρ w wr l' lg dp/\gW ks l=gW (ks.drop i) l') (λ u _=>n - (intOf u).toNat);case atStart=>exact⟨0,l,Nat.zero_le _,rfl,bh.refl HH.out,rfl⟩
 case round=>
  obtain⟨i,l',hi,rfl,hD,hst⟩:=hrel;have HD:=hid hD;have HS:=hid hst;clear hD hst;by_cases hlt:i < n
  ·open zgk in exact Zd6
  ·obtain rfl:i=n:=by omega
   have hd:ks.drop i=[]:=drop_eq_nil_of_le Taa;rw[hd] at HS;go_wp2_with fail;go_end0;exact GP.ok HS.out ⟨rfl,HD.out⟩
def fC (ρ:bw)(W:World)(lg dp:Bool)(P:Ps Tr)(l:aK)(e:Ending)(w':World):Prop:=
 GP ρ W P l (λ t r v w'=>∃y:Ex,v=eb y/\t.at_ w' (eI W.heap.size w') y/\bh ρ W w' r lg dp) e w'
def ars:Nat->FuncId
 | 0=>154
 | 1=>180
 | 2=>202
 | 3=>222
 | 4=>232
 | 5=>237
 | 6=>240
 | _=>241
def RF (ρ:bw)(m:Nat):Prop:=∀(lv:Nat) (l:aK) (W:World) (lg dp:Bool),lv<=7->8*l.length+(7 - lv)< m->ρ.gh W l lg dp->Calls Tryz.prog (ars lv) #[ρ.ptr] W (fC ρ W lg dp (aW lv) l)
variable{m k:Nat}
theorem RF.less(h:RF ρ m)(hk:k<=m):RF ρ k:=λ lv l W lg dp h1 h2 h3=>h lv l W lg dp h1 Taa h3
def dT:Array Value:= #[.int .u8 0,.int .u8 0,.int .i64 0,.string ⟨#[]⟩,.string ⟨#[]⟩,.int .i64 0,.slice none 0 0]
theorem aI:(Tryz.prog.info? 36).map (·.size)=some 7:=by kernel_rfl
theorem cV (y:Ex):(aU y).toArray.all (·.oneCell')=true:=by simp[aU,Value.oneCell']
variable{W:World}{P:Ps Tr}{t:Tr}{y:Ex}
theorem cm(hg:ρ.g < w.heap.size)(hd:bh ρ w W r lg dp)(ht:t.at_ W (eI (w.heap.size+1) W) y)(hp:P l=.ok (t,r)):fC ρ w lg dp P l (.returned (eb y)) (W.setRow w.heap.size (aU y).toArray):=
 GP.ok hp ⟨y,rfl,(Tr.at_.keep (iZ W (Nat.lt_succ_self _) _) t y ht).more (Nat.le_succ _),hd.own hg (cP W w.heap.size _) (λ G e=>by injection e with e;omega)⟩
theorem bD(hp:P l=.error n)(hg:w.grownBy W (some ρ.g))(k:W.grownBy w' (some ρ.g)):fC ρ w lg dp P l (.panicked [sy (ρ.placeOf n)]) w':=GP.err hp ⟨rfl,ai hg k⟩
variable{op:Int}
theorem RG{p q:Ps Tr} (h:ar s l=false):IQ s op p q l=q l:=by unfold IQ;exact Zgp
theorem JF{p q:Ps Tr} (h:ar s l=true):IQ s op p q l=(do let x <- p;return lO op [x]) l.tail:=by unfold IQ;exact Zgn
theorem pA(h:ar s l=true):l.tail.length+1=l.length:=by obtain⟨t,r,rfl,_⟩:=eU h;simp
theorem zef.Ka7(h:p:=by refine bodyPost_ret (v:=eb y) (results_cell_row Tryz.results202 _ _ w.heap.size 36 (aU y).toArray (0,0) _ rfl HR.out Tryz.underlying36 rfl aI) rfl ?_;exact cm br eZ.out jx.out ((RG xA.out).trans jy.out)):p:=h
theorem zfU.KbK(h:p:=by
 have jx:=hid ((hat.more (by have:=d1.size;omega:w.heap.size+1<=w1.heap.size)).later (aa w2 (.cells (aU y).toArray 36)));have HY:=hid (zD (S:=eI (w.heap.size+1) (w2.alloc (.cells (aU y).toArray 36))) 4 (av.new w2 36 (aU y).toArray) ⟨hs2,by simp⟩ jx.out);have jy:=hid aC;clear hp d1 d2 hat aC IH HQ HD hsz jx;unfold eb aU at*;go_wp2_with (first
  |(refine wpList_store_row rfl 36 (.tmp 2) (.tmp 8) rfl w.heap.size (aU (tR 4 w2.heap.size 1)).toArray rfl rfl 36 dT ku.out aI rfl (cV _) ?_
    have HR:=hid (ku.out.row (aU (tR 4 w2.heap.size 1)).toArray)))
 refine bodyPost_ret (v:=eb (tR 4 w2.heap.size 1)) (results_cell_row Tryz.results202 _ _ w.heap.size 36 (aU (tR 4 w2.heap.size 1)).toArray (0,0) _ rfl HR.out Tryz.underlying36 rfl aI) rfl ?_;exact cm br eZ.out HY.out ((JF xA.out).trans (ag jy.out))):p:=h
theorem zhz.Kct(h:p:=by
 rw[Cb];rw[show(⟨#[110,111,116]⟩:ByteArray).data.toList=eC from rfl] at hm;clear h hb;unfold dT at hm hsz;cases hh:ar eC l
 ·rw[hh,cy hh] at hm;have xA:=hid hh;clear hh;go_enter Tryz.func202,Tryz.ntmps202;go_wp2_with fail;refine hm.mono ?_;clear hm;rintro e w1 ⟨rfl,d1⟩;go_wp2_with fail;refine(IH 3 l w1 lg dp Taa Taa d1.at_).mono ?_;intro e w2 hp;rcases hp.cases with ⟨t,r,v,aC,rfl,y,rfl,hat,d2⟩|⟨n,au,rfl,hg⟩
  ·open zef in exact ZbZ
  ·exact ZdM
 ·rw[hh,cE hh] at hm;have xA:=hid hh;have Xl:=pA hh;clear hh;go_enter Tryz.func202,Tryz.ntmps202;go_wp2_with fail;refine hm.mono ?_;clear hm;rintro e w1 ⟨rfl,d1⟩;go_wp2_with fail;refine(IH 2 l.tail w1 lg dp Taa Taa d1.at_).mono ?_;intro e w2 hp;rcases hp.cases with ⟨t,r,v,aC,rfl,y,rfl,hat,d2⟩|⟨n,au,rfl,hg⟩
  ·open zfU in exact ZdC
  ·exact ZdB):p:=h
theorem amk (ρ:bw)(w:World)(l:aK)(lg dp:Bool)(h:ρ.gh w l lg dp)(IH:RF ρ (8*l.length+5)):
  Calls Tryz.prog 202 #[ρ.ptr] w (fC ρ w lg dp (aW 2) l):=by have br:=h.od;have hb:=aa w (.cells dT 36);have hm:=bz ρ _ l lg dp (h.later hb) ⟨#[110,111,116]⟩;open zhz in exact Zgd
theorem zeg.Ka7(h:p:=by refine bodyPost_ret (v:=eb y) (results_cell_row Tryz.results240 _ _ w.heap.size 36 (aU y).toArray (0,0) _ rfl HR.out Tryz.underlying36 rfl aI) rfl ?_;exact cm br eZ.out jx.out ((RG xA.out).trans jy.out)):p:=h
theorem zfV.KbK(h:p:=by
 have jx:=hid ((hat.more (by have:=d1.size;omega:w.heap.size+1<=w1.heap.size)).later (aa w2 (.cells (aU y).toArray 36)));have HY:=hid (zD (S:=eI (w.heap.size+1) (w2.alloc (.cells (aU y).toArray 36))) 3 (av.new w2 36 (aU y).toArray) ⟨hs2,by simp⟩ jx.out);have jy:=hid aC;clear hp d1 d2 hat aC IH HQ HD hsz jx;unfold eb aU at*;go_wp2_with (first
  |(refine wpList_store_row rfl 36 (.tmp 2) (.tmp 8) rfl w.heap.size (aU (tR 3 w2.heap.size 1)).toArray rfl rfl 36 dT ku.out aI rfl (cV _) ?_
    have HR:=hid (ku.out.row (aU (tR 3 w2.heap.size 1)).toArray)))
 refine bodyPost_ret (v:=eb (tR 3 w2.heap.size 1)) (results_cell_row Tryz.results240 _ _ w.heap.size 36 (aU (tR 3 w2.heap.size 1)).toArray (0,0) _ rfl HR.out Tryz.underlying36 rfl aI) rfl ?_;exact cm br eZ.out HY.out ((JF xA.out).trans (ag jy.out))):p:=h
theorem zhA.Kct(h:p:=by
 rw[Jh];rw[show(⟨#[45]⟩:ByteArray).data.toList=dP from rfl] at hm;clear h hb;unfold dT at hm hsz;cases hh:ar dP l
 ·rw[hh,cy hh] at hm;have xA:=hid hh;clear hh;go_enter Tryz.func240,Tryz.ntmps240;go_wp2_with fail;refine hm.mono ?_;clear hm;rintro e w1 ⟨rfl,d1⟩;go_wp2_with fail;refine(IH 7 l w1 lg dp Taa Taa d1.at_).mono ?_;intro e w2 hp;rcases hp.cases with ⟨t,r,v,aC,rfl,y,rfl,hat,d2⟩|⟨n,au,rfl,hg⟩
  ·open zeg in exact ZbZ
  ·exact ZdM
 ·rw[hh,cE hh] at hm;have xA:=hid hh;have Xl:=pA hh;clear hh;go_enter Tryz.func240,Tryz.ntmps240;go_wp2_with fail;refine hm.mono ?_;clear hm;rintro e w1 ⟨rfl,d1⟩;go_wp2_with fail;refine(IH 6 l.tail w1 lg dp Taa Taa d1.at_).mono ?_;intro e w2 hp;rcases hp.cases with ⟨t,r,v,aC,rfl,y,rfl,hat,d2⟩|⟨n,au,rfl,hg⟩
  ·open zfV in exact ZdC
  ·exact ZdB):p:=h
theorem aml (ρ:bw)(w:World)(l:aK)(lg dp:Bool)(h:ρ.gh w l lg dp)(IH:RF ρ (8*l.length+1)):
  Calls Tryz.prog 240 #[ρ.ptr] w (fC ρ w lg dp (aW 6) l):=by have br:=h.od;have hb:=aa w (.cells dT 36);have hm:=bz ρ _ l lg dp (h.later hb) ⟨#[45]⟩;open zhA in exact Zgd
def opC (x:List UInt8×Int):List Value:=[.string ⟨x.1.toArray⟩,.int .u8 x.2]
def opsV (ks:List (List UInt8×Int)):Array Value:=(ks.flatMap opC).toArray
variable{b:Nat}{T:TypeId}{ks:List (List UInt8×Int)}{i:Nat}{o:Int}
theorem DI(h:av w b T (opsV ks))   (hi:ks[i]?=some (s,o)):w.cell? ⟨b,i*2,none⟩=some (.string ⟨s.toArray⟩)/\w.cell? ⟨b,i*2+1,none⟩=some (.int .u8 o):=by
 have f:=vg (f:=opC) (size:=2) (λ _=>rfl) ks i (s,o) hi;constructor
 ·rw[h.cell];have:=f 0 _ rfl;simpa [opsV] using this
 ·rw[h.cell];have:=f 1 _ rfl;simpa [opsV] using this
theorem PK (ρ:bw)(w:World)(l:aK)(lg dp:Bool)(h:ρ.gh w l lg dp)(s:List UInt8)(o:Int)(pb:Nat)(hp:av w pb 77 #[ρ.ptr]):
  Calls Tryz.prog 201 #[.agg #[.string ⟨s.toArray⟩,.int .u8 o],.pointer (some ⟨pb,0,none⟩)] w λ e w'=>e=.returned (.bool (ar s l))/\bh ρ w w' (ja s l) lg dp:=by have hb:=aa w (.cells #[.string ⟨s.toArray⟩,.int .u8 o] 199);have hm:=bz ρ _ l lg dp (h.later hb) ⟨s.toArray⟩;rw[show(⟨s.toArray⟩:ByteArray).data.toList=s by simp] at hm;have HD:=hid (bh.aF h hb);have c0:=hp.cell 0;simp only[getElem?_toArray,getElem?_cons_zero] at c0;have hpl:=hp.lt;clear h hb;go_enter Tryz.func201,Tryz.ntmps201;go_wp2_with fail;refine hm.mono ?_;clear hm;rintro e w1 ⟨rfl,d1⟩;go_wp2_with fail;go_ret;exact⟨rfl,HD.out.trans d1⟩
theorem RH(h:ar s l=false):eB ((s,o)::ks) l=eB ks l:=by simp[eB,h]
theorem Mb(h:ar s l=true):eB ((s,o)::ks) l=some o:=by simp[eB,h]
def agy (ρ:bw)(w:World)(ks:List (List UInt8×Int))(l:aK)(lg dp:Bool)(e:Ending)(w':World):Prop:=
 (eB ks l=none/\e=.returned (.int .i64 (-1))/\bh ρ w w' l lg dp)\/∃(i:Nat) (s:List UInt8) (o:Int),ks[i]?=some (s,o)/\eB ks l=some o/\ar s l=true/\e=.returned (.int .i64 i)/\bh ρ w w' l.tail lg dp
theorem PL (ρ:bw)(w:World)(l:aK)(lg dp:Bool)(h:ρ.gh w l lg dp)(ks:List (List UInt8×Int))(b n pb:Nat)(hn:ks.length=n)(hb:av w b 199 (opsV ks))(hbg:b≠ρ.g)(hp:av w pb 77 #[ρ.ptr])(hpg:pb≠ρ.g)(hsm:n<=10):
  Calls Tryz.prog 200 #[.slice (some ⟨b,0,none⟩) n n,.func (.func 201) #[] #[.pointer (some ⟨pb,0,none⟩)]] w (agy ρ w ks l lg dp):=by
 have HH:=hid h;have HB:=hid hb;have HP:=hid hp;clear h hb hp;have en:∀args w,(callFunc 201 args).run Tryz.prog w=.ok (.enter 201 args) w:=enters_of Tryz.func201 Tac rfl;go_enter Tryz.func200,Tryz.ntmps200;go_wp2_with fail;go_loopw [8] (λ u wr=>∃(i:Nat),i<=n/\u=.int .i64 i/\bh ρ w wr l lg dp/\eB ks l=eB (ks.drop i) l) (λ u _=>n - (intOf u).toNat);case atStart=>exact⟨0,Nat.zero_le _,rfl,bh.refl HH.out,rfl⟩
 case round=>
  obtain⟨i,hi,rfl,hD,hst⟩:=hrel;have HD:=hid hD;have HS:=hid hst;clear hD hst;by_cases hlt:i < n
  ·obtain⟨⟨s,o⟩,hs⟩:∃x,ks[i]?=some x:=⟨_,getElem?_eq_getElem Taa⟩;obtain⟨c0,c1⟩:=DI (HD.out.blk HB.out hbg) hs;have Fh:=hid (ue hs);have HSS:=hid hs;clear hs;have hm:=PK ρ wr l lg dp HD.out.at_ s o pb (HD.out.blk HP.out hpg);cases hh:ar s l
   ·have xA:=hid hh;rw[hh,cy hh] at hm;clear hh;go_wp2_with fail;refine hm.mono ?_;clear hm;rintro e w1 ⟨rfl,d1⟩;go_wp2_with fail;go_roundw;case rel=>exact⟨i+1,by omega,by go_num,HD.out.trans d1,by rw[HS.out,Fh.out,RH xA.out]⟩
    case measure=>exact Zcs
   ·have xA:=hid hh;rw[hh,cE hh] at hm;clear hh;go_wp2_with fail;refine hm.mono ?_;clear hm;rintro e w1 ⟨rfl,d1⟩;go_wp2_with fail;go_ret;exact .inr ⟨i,s,o,HSS.out,by rw[HS.out,Fh.out,Mb xA.out],xA.out,rfl,HD.out.trans d1⟩
  ·obtain rfl:i=n:=by omega
   have Fh:=hid (show ks.drop i=[] from drop_eq_nil_of_le Taa);go_wp2_with fail;go_ret;exact .inl ⟨by rw[HS.out,Fh.out];rfl,rfl,HD.out⟩
variable{d:TypeDesc}{q:Nat}
theorem oB{P:Program}{ρ:Operand->Value}{o:Oper}{w:World}{x:Operand}{T:TypeId}{d:TypeDesc}{q:Nat}{y:Ex}(ho:o.op=.load T x)(hx:ρ x=.pointer (some ⟨q,0,none⟩))(hb:av w q T (aU y).toArray)(hu:P.underlying T=some d)(hd:(match d with | .struct _ | .array _ _=>true | _=>false)=true)(hi:(P.info? T).map (·.size)=some 7):(execOp ρ o).run P w=.ok (.value (eb y)) w:=by unfold execOp;simp only[ho,hx,Instr.loadAt,Instr.sureAddr,Sem.run_bind,Sem.run_pure,Result.andThen_ok,run_loadVar_row w q T T (aU y).toArray (0,0) d hb hu hd hi];rfl
theorem Mi(hg:ρ.g < w.heap.size)(hq:w.heap.size<=q)(hd:bh ρ w W r lg dp)(ht:t.at_ W (eI (q+1) W) y)(hp:P l=.ok (t,r)):fC ρ w lg dp P l (.returned (eb y)) (W.setRow q (aU y).toArray):=
 GP.ok hp ⟨y,rfl,(Tr.at_.keep (iZ W (Nat.lt_succ_self _) _) t y ht).more Taa,hd.own hg (cP W q _) (λ G e=>by injection e with e;omega)⟩
variable{B:Nat}
theorem agB(cs:Array Value):∀b,Bx B q w b->(∀o,(w.setRow q cs).cell? ⟨b,o,none⟩=w.cell? ⟨b,o,none⟩)/\Bx B q (w.setRow q cs) b:=λ b hb=>
 ⟨cell_of_heap (setRow_other w q b cs hb.2.2),hb.1,by rw[size_setRow];exact hb.2.1,hb.2.2⟩
structure sZ (ρ:bw) (w:World) (lg dp:Bool) (lv:Nat) (l:aK) (q qx pb b:Nat) (wr:World) (l':aK) (t:Tr) (y:Ex):Prop where
 did:bh ρ w wr l' lg dp
 blk:av wr qx 36 (aU y).toArray
 res:av wr q 36 dT
 vF:av wr pb 77 #[ρ.ptr]
 opk:av wr b 199 (opsV (opsL lv))
 tr:t.at_ wr (Bx (q+1) qx wr) y
 todo:jZ (aW (lv+1)) lv l=Lm (aW (lv+1)) lv t l'
 le:l'.length<=l.length
variable{wr w1 W1 W1':World}{lv:Nat}{l' r2:aK}{qx pb g0:Nat}{t' t2:Tr}{y' y2:Ex}
theorem sZ.round(br:ρ.g < w.heap.size)(Fa:w.heap.size<=q)(hqq:q+1<=qx)(Jd:pb≠qx)(hpg:pb≠ρ.g)(my:b≠qx)(hbg:b≠ρ.g)(A:sZ ρ w lg dp lv l q qx pb b wr l' t' y')(d1:bh ρ wr w1 l'.tail lg dp)(h1:af w1 W1)
  (Ry:t2.at_ W1' (eI W1.heap.size W1') y2) (d2:bh ρ W1 W1' r2 lg dp) (h2:af W1' W) (hN:av W g0 36 (aU y'++aU y2).toArray) (hg0:W1'.heap.size<=g0) (hop:eB (opsL lv) l'=some o) (aC:aW (lv+1) l'.tail=.ok (t2,r2)):
  sZ ρ w lg dp lv l q qx pb b (W.setRow qx (aU (tR o g0 2)).toArray) r2 (lO o [t',t2]) (tR o g0 2):=by
 have hz1:=d1.size;have hz2:w1.heap.size<=W1.heap.size:=h1.size;have hz3:=d2.size;have hz4:W1'.heap.size<=W.heap.size:=h2.size;have hqb:=A.blk.lt;have xk:=hN.lt;have step:∀ {k:Nat} {T:TypeId} {cs:Array Value},av wr k T cs->k≠ρ.g->av W k T cs:=λ h hk=>(((h.grown d1.grown Tae).later h1).grown d2.grown Tae).later h2
 have hX:=step A.blk Taa;have hD:=(((A.did.trans d1).later h1).trans d2).later h2
 have hT:(lO o [t',t2]).at_ W (Bx (q+1) qx W) (tR o g0 2):=by
  refine Ow o hN ⟨by omega,by omega,by omega⟩ ?_ ?_
  ·exact Tr.at_.keep (iu h2) _ _ (Tr.at_.keep (je d2.grown Taa) _ _ (Tr.at_.keep (iu h1) _ _ (Tr.at_.keep (je d1.grown Taa) _ _ A.tr)))
  ·exact Tr.at_.keep (QU Taa Taa) _ _ (Ry.later h2)
 refine⟨hD.own br (cP W qx _) (λ G e=>by injection e with e;omega),hX.row _,(step A.res Taa).ig Taa _,(step A.vF hpg).ig Jd _,(step A.opk hbg).ig my _,Tr.at_.keep (agB _) _ _ hT,?_,?_⟩
 ·rw[A.todo,ri (cw _),hop];exact ag aC
 ·have h3:=(cw (lv+1)).len aC;have h4:=A.le;have h5:l'.tail.length<=l'.length:=by simp
  omega
theorem sZ.done(A:sZ ρ w lg dp lv l q qx pb b wr l' t y)(hop:eB (opsL lv) l'=none):jZ (aW (lv+1)) lv l=.ok (t,l'):=by rw[A.todo,ri (cw _),hop]
theorem sZ.fail(A:sZ ρ w lg dp lv l q qx pb b wr l' t y)(hop:eB (opsL lv) l'=some o)(h:aW (lv+1) l'.tail=.error n):jZ (aW (lv+1)) lv l=.error n:=by rw[A.todo,ri (cw _),hop];exact ak h
theorem vG (ρ:bw)(w:World)(l:aK)(lg dp:Bool)(h:ρ.gh w l lg dp)(lv:Nat)(fb:FuncId)(en:∀args w,(callFunc fb args).run Tryz.prog w=.ok (.enter fb args) w)
  (IH:∀(l':aK) (W:World),l'.length<=l.length->ρ.gh W l' lg dp->Calls Tryz.prog fb #[ρ.ptr] W (fC ρ W lg dp (aW (lv+1)) l')) (b n:Nat) (hn:(opsL lv).length=n) (hb:av w b 199 (opsV (opsL lv))) (hbg:b≠ρ.g) (hsm:n<=10):
  Calls Tryz.prog 179 #[ρ.ptr,.func (.func fb) #[ρ.ptr] #[],.slice (some ⟨b,0,none⟩) n n] w (fC ρ w lg dp (jZ (aW (lv+1)) lv) l):=by
 have br:=h.od;have hbl:=hb.lt;have kg:=af.then (aa w (.cells #[ρ.ptr] 77)) (aa _ (.cells dT 36));have HP:=hid ((av.new w 77 #[ρ.ptr]).alloc (.cells dT 36));have hq0:=av.new (w.alloc (.cells #[ρ.ptr] 77)) 36 dT;rw[show(w.alloc (.cells #[ρ.ptr] 77)).heap.size=w.heap.size+1 by simp] at hq0;have HQ:=hid hq0;have hsz:((w.alloc (.cells #[ρ.ptr] 77)).alloc (.cells dT 36)).heap.size=w.heap.size+2:=by simp
 have HD:=hid (bh.aF h kg);have HO:=hid (hb.later kg);have hih:=IH l _ (Nat.le_refl _) (h.later kg);have HIH:=hid IH;clear h hb kg hq0 IH;unfold dT at hih hsz;go_enter Tryz.func179,Tryz.ntmps179;go_wp2_with fail;refine hih.mono ?_;clear hih;intro e w2 hp;rcases hp.cases with ⟨t,r,v,aC,rfl,y,rfl,hat,d2⟩|⟨m,au,rfl,hg⟩;case inr=>have HG:=hid HD.out.grown;have HE:=hid au;clear hp HQ HD HO HP HIH hsz au;go_wp2_with fail;exact aj rfl (bD (ak HE.out) HG.out hg)
 have hs2:w.heap.size+2<=w2.heap.size:=by have:=d2.size;omega
 have hA:sZ ρ w lg dp lv l (w.heap.size+1) w2.heap.size w.heap.size b (w2.alloc (.cells (aU y).toArray 36)) r t y:=
  ⟨(HD.out.trans d2).later (aa _ _),av.new w2 _ _,(d2.blk HQ.out Taa).alloc _,(d2.blk HP.out Taa).alloc _,(d2.blk HO.out hbg).alloc _,Tr.at_.keep (zC _ Taa) _ _ hat,by rw[Jj];exact ag aC,(cw _).len aC⟩
 have HA:=hid hA;clear hA hp hat d2 aC HQ HD HO HP hsz;unfold eb aU at*;go_upto_region 2 with fail;generalize w2.alloc _=W at*;generalize w2.heap.size=qx at*;go_loopg [] l.length (λ k wr=>∃l' t' y',l'.length<=k/\sZ ρ w lg dp lv l (w.heap.size+1) qx w.heap.size b wr l' t' y');case atStart=>exact⟨_,_,_,HA.out.le,HA.out⟩
 case round=>
  obtain⟨l',t',y',hk,hA'⟩:=hrel;have PN:=hid hA';clear hA' HA;have Kz:w.heap.size+2<=qx:=hs2;go_wp2_with fail;refine(PL ρ wr l' lg dp PN.out.did.at_ (opsL lv) b n w.heap.size hn PN.out.opk hbg PN.out.vF Taa hsm).mono ?_;intro e w1 hp;rcases hp with ⟨hop,rfl,d1⟩|⟨i,s,o,hi,hop,hh,rfl,d1⟩
  ·have HX:=hid (d1.blk PN.out.blk Taa);have HQ:=hid (d1.blk PN.out.res Taa);have HT:=hid (Tr.at_.keep (kT (Nat.le_refl _)) _ _ (Tr.at_.keep (je d1.grown Taa) _ _ PN.out.tr));have HD:=hid (PN.out.did.trans d1);have jy:=hid (sZ.done PN.out hop);clear d1 hop PN;go_wp2_with (first
    |(refine wpList_load_row rfl 36 (.tmp 7) rfl qx rfl 36 (aU y').toArray (0,0) _ HX.out Tryz.underlying36 rfl aI ?_)
    |(refine wpList_store_row rfl 36 (.tmp 6) (.tmp 16) rfl (w.heap.size+1) (aU y').toArray rfl rfl 36 dT HQ.out aI rfl (cV _) ?_
      have HR:=hid (HQ.out.row (aU y').toArray)))
   refine bodyPost_ret (v:=eb y') (results_cell_row Tryz.results179 _ _ (w.heap.size+1) 36 (aU y').toArray (0,0) _ rfl HR.out Tryz.underlying36 rfl aI) rfl ?_;exact Mi br Taa HD.out HT.out jy.out
  ·have QM:i < n:=by have:=(List.getElem?_eq_some_iff.1 hi).1;omega
   have xc:decide ((i:Int)< 0)=false:=by simp
   have hx1:=d1.blk PN.out.blk Taa;have hc1:=(DI (d1.blk PN.out.opk hbg) hi).2;have ayf:=ax hc1;have HX:=hid hx1;have HC:=hid hc1;have Zn:=hid hop;have gb:=hid d1;have hhl:=pA hh;have hll:=PN.out.le;clear hop hi hh d1 hx1 hc1;have aed:∀w' w'',(av w' qx 36 (aU y').toArray/\w'.cell? ⟨b,i*2+1,none⟩=some (.int .u8 o))->af w' w''->(av w'' qx 36 (aU y').toArray/\w''.cell? ⟨b,i*2+1,none⟩=some (.int .u8 o)):=λ w' w'' hh hl=>⟨hh.1.later hl,(hl.cell (ax hh.2)).trans hh.2⟩
   have DL:=hid aed;clear aed
   cases zP:aW (lv+1) l'.tail with
   | ok x=>
     obtain⟨t2,r2⟩:=x;have DM:=hid zP;clear zP;go_wp2_with fail;refine FC (P:=Tryz.prog) (H:=λ W=>av W qx 36 (aU y').toArray/\W.cell? ⟨b,i*2+1,none⟩=some (.int .u8 o)) (val:=eb) (e:=36) (k:=2) (cs:=λ z=>(aU y'++aU z).toArray) (bv:=λ _ s=> .agg #[.int .u8 o,.int .u8 0,.int .i64 0,.string ⟨#[]⟩,.string ⟨#[]⟩,.int .i64 0,s]) (Post:=λ z W W'=>t2.at_ W' (eI W.heap.size W') z/\bh ρ W W' r2 lg dp) (w0:=w1) (s0:=2) (s1:=8) (s2:=7) (s3:=1) (d0:=17) (d1:=18) (d2:=19) (d3:=20) (d4:=21) (d5:=22) (d6:=23) (d7:=24) (d8:=25) (d9:=26) (vs0:=.slice (some ⟨b,0,none⟩) n n) (vs1:=.int .i64 i) (vs2:=.pointer (some ⟨qx,0,none⟩)) (vs3:=.func (.func fb) #[ρ.ptr] #[]) (u0:=.slice (some ⟨b,0,none⟩) n n) (u1:=.int .i64 i) (u2:=.pointer (some ⟨b,i*2,none⟩)) (u3:=.pointer (some ⟨b,i*2+1,none⟩)) (u4:=.int .u8 o) (u5:=eb y') (u6:=.func (.func fb) #[ρ.ptr] #[]) (F:=fb) (args:= #[ρ.ptr]) Tac Tac Tac Tac rfl rfl rfl rfl ⟨HX.out,HC.out⟩ DL.out ?_ ?_ ?_ ?_ ?_ ?_ ?_ ?_ ?_ ?_ Tac ?_ ?_ ?_
     ·exact Zb0
     ·exact Zb0
     ·intro ρ' w' hH hc h' oH;simp[go_sem,h',oH,QM]
     ·exact Zb0
     ·exact ZeW
     ·exact Zde
     ·exact Zb0
     ·intro ρ' w' hc h';simp[go_sem,h',hc.const,hc.func,en]
     ·intro ρ' w' z h' oH;simp[go_sem,h',oH,eb,aU]
     ·intro ρ' w' z g0' h' oH;simp[go_sem,h',oH]
     ·rintro z w' w'' ⟨hh1,hh2⟩ ⟨_,dd⟩;exact⟨hh1.grown dd.grown Tae,(cell_of_heap (dd.grown.block b (ax hh2) Tae) _).trans hh2⟩
     ·intro w' hw';refine(HIH.out l'.tail w' Taa (gb.out.at_.later hw')).mono ?_;exact ZcV
     intro z g0 W1 W1' W2 wb ⟨Ry,d2⟩ hl2 hN hg0;have hR:=sZ.round br Taa Taa Taa Taa Taa hbg PN.out gb.out wb Ry d2 hl2 hN hg0 Zn.out DM.out;have HR:=hid hR;have LY:=((HX.out.later wb).grown d2.grown Tae).later hl2;have rN:=hid LY;have wq:=(cw (lv+1)).len DM.out;clear hR LY wb Ry d2 hl2 hN hg0 Zn DL HX HC;simp only[Act.put,Uac];go_wp2_with (first
      |(refine wpList_store_row rfl 36 (.tmp 7) (.tmp 26) rfl qx (aU (tR o g0 2)).toArray rfl rfl 36 (aU y').toArray rN.out aI rfl (cV _) ?_))
     go_roundg (l'.tail.length);case measure=>omega
     case rel=>exact⟨_,_,_,wq,HR.out⟩
   | error m=>
     have DM:=hid zP;clear zP;go_wp2_with fail;refine vV (P:=Tryz.prog) (H:=λ W=>av W qx 36 (aU y').toArray/\W.cell? ⟨b,i*2+1,none⟩=some (.int .u8 o)) (E:=λ C W=>C=[sy (ρ.placeOf m)]/\w.grownBy W (some ρ.g)) (w0:=w1) (s0:=2) (s1:=8) (s2:=7) (s3:=1) (d0:=17) (d1:=18) (d2:=19) (d3:=20) (d4:=21) (d5:=22) (d6:=23) (d7:=24) (d8:=25) (d9:=26) (vs0:=.slice (some ⟨b,0,none⟩) n n) (vs1:=.int .i64 i) (vs2:=.pointer (some ⟨qx,0,none⟩)) (vs3:=.func (.func fb) #[ρ.ptr] #[]) (u0:=.slice (some ⟨b,0,none⟩) n n) (u1:=.int .i64 i) (u2:=.pointer (some ⟨b,i*2,none⟩)) (u3:=.pointer (some ⟨b,i*2+1,none⟩)) (u4:=.int .u8 o) (u5:=eb y') (u6:=.func (.func fb) #[ρ.ptr] #[]) (F:=fb) (args:= #[ρ.ptr]) Tac Tac Tac Tac rfl rfl rfl rfl ⟨HX.out,HC.out⟩ DL.out Zb0 Zb0 ?_ Zb0 ZeW Zde Zb0 ?_ Tac ?_ ?_
     ·intro ρ' w' hH hc h' oH;simp[go_sem,h',oH,QM]
     ·intro ρ' w' hc h';simp[go_sem,h',hc.const,hc.func,en]
     ·intro w' hw';refine(HIH.out l'.tail w' Taa (gb.out.at_.later hw')).mono ?_;intro e w'' hp;rcases hp.cases with ⟨t3,r3,v,aC,_⟩|⟨m',au,rfl,hg⟩
      ·rw[DM.out] at aC;cases aC
      ·rw[DM.out] at au;injection au with au;subst au;exact⟨_,rfl,rfl,ai ((PN.out.did.trans gb.out).later hw').grown hg⟩
     ·rintro C a W hd ⟨rfl,hg⟩;have hE:=bD (lg:=lg) (dp:=dp) (sZ.fail PN.out Zn.out DM.out) (aD (Below.refl _ _)) hg;simp only[Exit.inBlock,Exit.then];exact aj hd hE
theorem aB (s:List UInt8)(l:aK):gW [s] l=must s l:=by
 show(must s >>= λ _=>pure ()) l=must s l;rw[gP]
 cases must s l with
 | error n=>rfl
 | ok x=>rfl
variable{x:Tr}{r1:aK}
theorem ZW{b:Bool} (h:aW 4 l=.ok (x,r))(h1:may mz r=.ok (true,r1))(h2:may eC r1=.ok (b,r2)):(∀r3,must bT r2=.ok ((),r3)->qU (aW 4) l=.ok (lO (if b then 19 else 18) [x],r3))/\(∀n,must bT r2=.error n->qU (aW 4) l=.error n):=by unfold qU;rw[ag h,ag h1];simp only[if_true];rw[ag h2];exact⟨λ r3 h3=>by rw[ag h3];rfl,λ n h3=>ak h3⟩
theorem agD(h:aW 4 l=.ok (x,r))(h1:may mz r=.ok (false,r1)):qU (aW 4) l=wQ (aW 4) x r1:=by unfold qU;rw[ag h,ag h1];rfl
structure nV (ρ:bw) (w:World) (lg dp:Bool) (q qx:Nat) (wr:World) (l':aK) (t:Tr) (y:Ex):Prop where
 did:bh ρ w wr l' lg dp
 blk:av wr qx 36 (aU y).toArray
 res:av wr q 36 dT
 tr:t.at_ wr (Bx (q+1) qx wr) y
section
variable {ρ:bw} {w wr w':World} {lg dp:Bool} {q qx:Nat} {l' l2:aK} {t:Tr} {y:Ex}
theorem nV.later (A:nV ρ w lg dp q qx wr l' t y)(h:Below wr.heap.size wr w'):nV ρ w lg dp q qx w' l' t y:=⟨A.did.later h,A.blk.later h,A.res.later h,Tr.at_.keep (iu h) _ _ A.tr⟩
theorem nV.go (A:nV ρ w lg dp q qx wr l' t y)(d:bh ρ wr w' l2 lg dp)(hq:ρ.g < q)(Kz:ρ.g < qx):nV ρ w lg dp q qx w' l2 t y:=⟨A.did.trans d,d.blk A.blk Taa,d.blk A.res Taa,Tr.at_.keep (je d.grown Taa) _ _ A.tr⟩
end
theorem zd1.Ka1(h:p:=by
 rcases hp.cases with ⟨_,r3,v,aC,rfl,rfl,d5⟩|⟨m,au,rfl,hg⟩
 ·have kA:must bT r1=.ok ((),r3):=by rw[<- aB];exact aC
  have eH:=hid (HC.out.1 r3 kA);have hb5:=aa w5 (.cells (aU y).toArray 36);have ZX:=rO.out.go d5 Taa Taa;have FD:=hid ZX;have hA6:=ZX.later hb5;have hs6:=ZX.blk.lt;have hq6:=ZX.res.lt;have hT:=zD (S:=Bx (w.heap.size+1) qx (w5.alloc (.cells (aU y).toArray 36))) 18 (av.new w5 36 (aU y).toArray) ⟨by omega,by simp,by omega⟩ hA6.tr;have HT:=hid (Tr.at_.keep (kT (Nat.le_refl _)) _ _ hT);have Ck:=hid hA6;clear hp aC kA hb5 ZX hA6 hT rO d5 HC;unfold aU at HT Ck FD;go_wp2_with (first
   |(refine wpList_load_row rfl 36 (.tmp 3) rfl qx rfl 36 (aU y).toArray (0,0) _ FD.out.blk Tryz.underlying36 rfl aI ?_
     unfold aU)
   |(refine wpList_store_row rfl 36 (.tmp 2) (.tmp 19) rfl w.heap.size (aU (tR 18 w5.heap.size 1)).toArray rfl rfl 36 dT Ck.out.res aI rfl (cV _) ?_
     have HR:=hid (Ck.out.res.row (aU (tR 18 w5.heap.size 1)).toArray)))
  refine bodyPost_ret (v:=eb (tR 18 w5.heap.size 1)) (results_cell_row Tryz.results222 _ _ w.heap.size 36 (aU (tR 18 w5.heap.size 1)).toArray (0,0) _ rfl HR.out Tryz.underlying36 rfl aI) rfl ?_;exact cm br Ck.out.did HT.out eH.out
 ·have kA:must bT r1=.error m:=by rw[<- aB];exact au
  exact Zew):p:=h
theorem zd2.Ka1(h:p:=by
 rcases hp.cases with ⟨_,r3,v,aC,rfl,rfl,d5⟩|⟨m,au,rfl,hg⟩
 ·have kA:must bT r1.tail=.ok ((),r3):=by rw[<- aB];exact aC
  have eH:=hid (HC.out.1 r3 kA);have hb5:=aa w5 (.cells (aU y).toArray 36);have ZX:=rO.out.go d5 Taa Taa;have FD:=hid ZX;have hA6:=ZX.later hb5;have hs6:=ZX.blk.lt;have hq6:=ZX.res.lt;have hT:=zD (S:=Bx (w.heap.size+1) qx (w5.alloc (.cells (aU y).toArray 36))) 19 (av.new w5 36 (aU y).toArray) ⟨by omega,by simp,by omega⟩ hA6.tr;have HT:=hid (Tr.at_.keep (kT (Nat.le_refl _)) _ _ hT);have Ck:=hid hA6;clear hp aC kA hb5 ZX hA6 hT rO d5 HC;unfold aU at HT Ck FD;go_wp2_with (first
   |(refine wpList_load_row rfl 36 (.tmp 3) rfl qx rfl 36 (aU y).toArray (0,0) _ FD.out.blk Tryz.underlying36 rfl aI ?_
     unfold aU)
   |(refine wpList_store_row rfl 36 (.tmp 2) (.tmp 19) rfl w.heap.size (aU (tR 19 w5.heap.size 1)).toArray rfl rfl 36 dT Ck.out.res aI rfl (cV _) ?_
     have HR:=hid (Ck.out.res.row (aU (tR 19 w5.heap.size 1)).toArray)))
  refine bodyPost_ret (v:=eb (tR 19 w5.heap.size 1)) (results_cell_row Tryz.results222 _ _ w.heap.size 36 (aU (tR 19 w5.heap.size 1)).toArray (0,0) _ rfl HR.out Tryz.underlying36 rfl aI) rfl ?_;exact cm br Ck.out.did HT.out eH.out
 ·have kA:must bT r1.tail=.error m:=by rw[<- aB];exact au
  exact Zew):p:=h
theorem zhB.Kct(h:p:=by
 have hm:=IH 4 l _ lg dp Taa Taa (h.later hb);rw[ye];clear h hb;unfold dT at hm hsz;go_enter Tryz.func222,Tryz.ntmps222;go_wp2_with fail;refine hm.mono ?_;clear hm;intro e w2 hp;rcases hp.cases with ⟨t,r,v,aC,rfl,y,rfl,hat,d2⟩|⟨m,au,rfl,hg⟩;case inr=>have HG:=hid HD.out.grown;have HE:=hid au;clear hp HQ HD IH hsz au;go_wp2_with fail;exact aj rfl (bD (ak HE.out) HG.out hg)
 have hs2:w.heap.size+1<=w2.heap.size:=by have:=d2.size;omega
 have hA:nV ρ w lg dp w.heap.size w2.heap.size (w2.alloc (.cells (aU y).toArray 36)) r t y:=
  ⟨(HD.out.trans d2).later (aa _ _),av.new w2 _ _,(d2.blk HQ.out Taa).alloc _,Tr.at_.keep (zC _ Taa) _ _ hat⟩
 have HA:=hid hA;have jy:=hid aC;have wq:=(cw 4).len aC;clear hA hp hat d2 aC HQ HD hsz;unfold eb aU at*;go_upto_region 2 with fail;generalize w2.alloc _=W at*;generalize w2.heap.size=qx at*;have hm:=bz ρ W r lg dp HA.out.did.at_ ⟨#[105,115]⟩;rw[show(⟨#[105,115]⟩:ByteArray).data.toList=mz from rfl] at hm;cases hh:ar mz r
 ·rw[hh,cy hh] at hm;have HNO:=hid (agD jy.out (by rw[uo,hh,cy hh]));clear hh;go_wp2_with fail;refine hm.mono ?_;clear hm;rintro e w3 ⟨rfl,d3⟩;have hA3:=(HA.out.go d3 Taa Taa).later (aa w3 (.cells (opsV (opsL 3)) 199));have nK:=hid hA3;have hs3:w.heap.size+1<=w3.heap.size:=by have:=HA.out.did.size;have:=HA.out.blk.lt;have:=d3.size;omega
  have hqo:qx < w3.heap.size:=Nat.lt_of_lt_of_le HA.out.blk.lt d3.size;have HO:=hid (av.new w3 199 (opsV (opsL 3)));rw[show opsV (opsL 3)= #[.string ⟨#[61]⟩,.int .u8 10,.string ⟨#[60,62]⟩,.int .u8 11,.string ⟨#[60]⟩,.int .u8 12,.string ⟨#[60,61]⟩,.int .u8 13,.string ⟨#[62]⟩,.int .u8 14,.string ⟨#[62,61]⟩,.int .u8 15] from rfl] at nK HO;clear hA3 d3 HA;go_upto_region 9 with fail;generalize w3.alloc _=W3 at*;generalize w3.heap.size=ob at*;go_loopw [28] (λ u wr=>∃i:Nat,i<=6/\u=.int .i64 i/\nV ρ w lg dp w.heap.size qx wr r t y/\av wr ob 199 (opsV (opsL 3))/\eB (opsL 3) r=eB ((opsL 3).drop i) r) (λ u _=>6 - (intOf u).toNat);case atStart=>exact⟨0,Nat.zero_le _,rfl,nK.out,HO.out,rfl⟩
  case round=>
   obtain⟨i,hi,rfl,hA4,hO4,hst⟩:=hrel;have rO:=hid hA4;have HO4:=hid hO4;have HS:=hid hst;clear hA4 hO4 hst nK HO;have Fa:=rO.out.blk.lt;have how:=HO4.out.lt;by_cases hlt:i < 6
   ·obtain⟨⟨s,o⟩,hs⟩:∃x,(opsL 3)[i]?=some x:=⟨_,getElem?_eq_getElem (show i <(opsL 3).length from hlt)⟩;obtain⟨c0,c1⟩:=DI HO4.out hs;have Fh:=hid (ue hs);clear hs;have Yh:=aa wr (.cells #[.string ⟨s.toArray⟩,.int .u8 o] 199);have HN:=hid (av.new wr 199 #[.string ⟨s.toArray⟩,.int .u8 o]);have Ck:=hid (rO.out.later Yh);have HO6:=hid (HO4.out.later Yh);have hm:=bz ρ _ r lg dp (rO.out.did.at_.later Yh) ⟨s.toArray⟩;rw[show(⟨s.toArray⟩:ByteArray).data.toList=s by simp] at hm;clear Yh;cases hh:ar s r
    ·have xA:=hid hh;rw[hh,cy hh] at hm;clear hh;go_wp2_with fail;refine hm.mono ?_;clear hm;rintro e w4 ⟨rfl,d4⟩;go_wp2_with fail;go_roundw;case rel=>exact⟨i+1,by omega,by go_num,Ck.out.go d4 Taa Taa,d4.blk HO6.out Taa,by rw[HS.out,Fh.out,RH xA.out]⟩
     case measure=>exact Zcs
    ·have Zn:=hid (show eB (opsL 3) r=some o by rw[HS.out,Fh.out,Mb hh]);have hhl:=pA hh;rw[hh,cE hh] at hm;clear hh;go_wp2_with fail;refine hm.mono ?_;clear hm;rintro e w4 ⟨rfl,d4⟩;have hnw:wr.heap.size≠ρ.g:=by omega
     have Fb:=hid (Ck.out.go d4 Taa Taa);have HN8:=hid (d4.blk HN.out hnw);have AQ:wr.heap.size≠qx:=by omega
     clear Ck HO6 HN rO HO4 HS Fh d4 c0 c1;generalize wr.heap.size=nb at*;have DL:=hid (show∀w' w'',(av w' qx 36 (aU y).toArray/\w'.cell? ⟨nb,1,none⟩=some (.int .u8 o))->af w' w''->(av w'' qx 36 (aU y).toArray/\w''.cell? ⟨nb,1,none⟩=some (.int .u8 o))from λ w' w'' hh hl=>⟨hh.1.later hl,(hl.cell (ax hh.2)).trans hh.2⟩);have HC:=hid (show w4.cell? ⟨nb,1,none⟩=some (.int .u8 o)from HN8.out.cell 1)
     cases zP:aW 4 r.tail with
     | ok x=>
       obtain⟨t2,r2⟩:=x;have DM:=hid zP;have eH:=hid (show qU (aW 4) l=.ok (lO o [t,t2],r2) by rw[HNO.out];unfold wQ;rw[Zn.out];simp only;rw[ag zP];rfl);clear zP;go_wp2_with fail;refine JG (P:=Tryz.prog) (H:=λ W=>av W qx 36 (aU y).toArray/\W.cell? ⟨nb,1,none⟩=some (.int .u8 o)) (val:=eb) (e:=36) (k:=2) (cs:=λ z=>(aU y++aU z).toArray) (bv:=λ _ s=> .agg #[.int .u8 o,.int .u8 0,.int .i64 0,.string ⟨#[]⟩,.string ⟨#[]⟩,.int .i64 0,s]) (Post:=λ z W W'=>t2.at_ W' (eI W.heap.size W') z/\bh ρ W W' r2 lg dp) (w0:=w4) (s0:=6) (s1:=3) (s2:=0) (d0:=36) (d1:=37) (d2:=38) (d3:=39) (d4:=40) (d5:=41) (d6:=42) (vs0:=.pointer (some ⟨nb,0,none⟩)) (vs1:=.pointer (some ⟨qx,0,none⟩)) (vs2:=ρ.ptr) (u0:=.pointer (some ⟨nb,1,none⟩)) (u1:=.int .u8 o) (u2:=eb y) (u3:=ρ.ptr) (F:=232) (args:= #[ρ.ptr]) Tac Tac Tac Tac rfl rfl rfl ⟨Fb.out.blk,HC.out⟩ DL.out ?_ ?_ ?_ ?_ ?_ ?_ ?_ Tac ?_ ?_ ?_
       ·exact Zb0
       ·exact ZeW
       ·exact Zde
       ·exact Zb0
       ·intro ρ' w' hc h';simp[go_sem,h',hc.const,hc.func]
       ·intro ρ' w' z h' oH;simp[go_sem,h',oH,eb,aU]
       ·intro ρ' w' z g0' h' oH;simp[go_sem,h',oH]
       ·rintro z w' w'' ⟨hh1,hh2⟩ ⟨_,dd⟩;exact⟨hh1.grown dd.grown Tae,(cell_of_heap (dd.grown.block nb (ax hh2) Tae) _).trans hh2⟩
       ·intro w' hw';refine(IH 4 r.tail w' lg dp Taa Taa (Fb.out.did.at_.later hw')).mono ?_;exact ZcV
       intro z g0 W1 W1' W2 wb ⟨Ry,d2⟩ hl2 hN hg0;have hA9:=((Fb.out.later wb).go d2 Taa Taa).later hl2;have xk:=hN.lt;have hz3:=d2.size;have hz2:w4.heap.size<=W1.heap.size:=wb.size;have hz4:W1'.heap.size<=W2.heap.size:=hl2.size;have hq4:=Fb.out.blk.lt;have hQ4:=Fb.out.res.lt;have hT:=Ow (S:=Bx (w.heap.size+1) qx W2) o hN ⟨by omega,xk,by omega⟩ hA9.tr (Tr.at_.keep (QU Taa Taa) _ _ (Ry.later hl2));have HT:=hid (Tr.at_.keep (kT (Nat.le_refl _)) _ _ hT);have fH:=hid hA9;clear hA9 hT wb Ry d2 hl2 hN hg0 Zn DL HC HN8 Fb xk hz3 hz2 hz4;simp only[Act.put,Uac];go_wp2_with (first
        |(refine wpList_store_row rfl 36 (.tmp 2) (.tmp 42) rfl w.heap.size (aU (tR o g0 2)).toArray rfl rfl 36 dT fH.out.res aI rfl (cV _) ?_
          have HR:=hid (fH.out.res.row (aU (tR o g0 2)).toArray)))
       refine bodyPost_ret (v:=eb (tR o g0 2)) (results_cell_row Tryz.results222 _ _ w.heap.size 36 (aU (tR o g0 2)).toArray (0,0) _ rfl HR.out Tryz.underlying36 rfl aI) rfl ?_;exact cm br fH.out.did HT.out eH.out
     | error m=>
       have DM:=hid zP;have eH:=hid (show qU (aW 4) l=.error m by rw[HNO.out];unfold wQ;rw[Zn.out];simp only;rw[ak zP]);clear zP;go_wp2_with fail;refine xn (P:=Tryz.prog) (H:=λ W=>av W qx 36 (aU y).toArray/\W.cell? ⟨nb,1,none⟩=some (.int .u8 o)) (E:=λ C W=>C=[sy (ρ.placeOf m)]/\w.grownBy W (some ρ.g)) (w0:=w4) (s0:=6) (s1:=3) (s2:=0) (d0:=36) (d1:=37) (d2:=38) (d3:=39) (d4:=40) (d5:=41) (d6:=42) (vs0:=.pointer (some ⟨nb,0,none⟩)) (vs1:=.pointer (some ⟨qx,0,none⟩)) (vs2:=ρ.ptr) (u0:=.pointer (some ⟨nb,1,none⟩)) (u1:=.int .u8 o) (u2:=eb y) (u3:=ρ.ptr) (F:=232) (args:= #[ρ.ptr]) Tac Tac Tac Tac rfl rfl rfl ⟨Fb.out.blk,HC.out⟩ DL.out Zb0 ZeW Zde Zb0 ?_ Tac ?_ ?_
       ·intro ρ' w' hc h';simp[go_sem,h',hc.const,hc.func]
       ·intro w' hw';refine(IH 4 r.tail w' lg dp Taa Taa (Fb.out.did.at_.later hw')).mono ?_;intro e w'' hp;rcases hp.cases with ⟨t3,r3,v,aC,_⟩|⟨m',au,rfl,hg⟩
        ·rw[DM.out] at aC;cases aC
        ·rw[DM.out] at au;injection au with au;subst au;exact⟨_,rfl,rfl,ai (Fb.out.did.later hw').grown hg⟩
       ·rintro C a W hd ⟨rfl,hg⟩;have hE:=bD (lg:=lg) (dp:=dp) eH.out (aD (Below.refl _ _)) hg;simp only[Exit.inBlock,Exit.then];exact aj (P:=Tryz.prog) (fn:=Tryz.f222) hd hE
   ·obtain rfl:i=6:=by omega
    have eH:=hid (show qU (aW 4) l=.ok (t,r) by rw[HNO.out];unfold wQ;rw[HS.out];rfl);have HT:=hid (Tr.at_.keep (kT (Nat.le_refl _)) _ _ rO.out.tr);go_wp2_with (first
     |(refine wpList_load_row rfl 36 (.tmp 3) rfl qx rfl 36 (aU y).toArray (0,0) _ rO.out.blk Tryz.underlying36 rfl aI ?_)
     |(refine wpList_store_row rfl 36 (.tmp 2) (.tmp 44) rfl w.heap.size (aU y).toArray rfl rfl 36 dT rO.out.res aI rfl (cV _) ?_
       have HR:=hid (rO.out.res.row (aU y).toArray)))
    refine bodyPost_ret (v:=eb y) (results_cell_row Tryz.results222 _ _ w.heap.size 36 (aU y).toArray (0,0) _ rfl HR.out Tryz.underlying36 rfl aI) rfl ?_;exact cm br rO.out.did HT.out eH.out
 ·rw[hh,cE hh] at hm;have HI:=hid (show may mz r=.ok (true,r.tail) by rw[uo,hh,cE hh]);clear hh IH;go_wp2_with fail;refine hm.mono ?_;clear hm;rintro e w3 ⟨rfl,d3⟩;have nK:=hid (HA.out.go d3 Taa Taa);clear HA d3;generalize r.tail=r1 at*;have hm:=bz ρ w3 r1 lg dp nK.out.did.at_ ⟨#[110,111,116]⟩;rw[show(⟨#[110,111,116]⟩:ByteArray).data.toList=eC from rfl] at hm;cases hh:ar eC r1
  ·rw[hh,cy hh] at hm;have HC:=hid (ZW jy.out HI.out (show may eC r1=.ok (false,r1) by rw[uo,hh,cy hh]));open zd1 in exact ZbF
  ·rw[hh,cE hh] at hm;have HC:=hid (ZW jy.out HI.out (show may eC r1=.ok (true,r1.tail) by rw[uo,hh,cE hh]));open zd2 in exact ZbF):p:=h
theorem amo (ρ:bw)(w:World)(l:aK)(lg dp:Bool)(h:ρ.gh w l lg dp)(IH:RF ρ (8*l.length+4)):
  Calls Tryz.prog 222 #[ρ.ptr] w (fC ρ w lg dp (aW 3) l):=by have br:=h.od;have hb:=aa w (.cells dT 36);open zhB in exact Zgd
end Go.Proofs.YtehhdlgjfdnafaaGreatDoor
