/- Parts of the proof. -/
import Derived.Test.YtehhdlgjfdnafaaGreatDoorXE11
namespace Go.Proofs.YtehhdlgjfdnafaaGreatDoor
variable{p:Prop}
set_option maxHeartbeats 90000000
set_option maxRecDepth 100000
open Go.Lib (hid)
open Go.ChangeShapes Go.WideShapes Go.ChangeAt Go.RowKit List
set_option linter.unusedVariables false
set_option linter.unusedSimpArgs false
def bj.uL (ρ:bj)(l:aF)(lg dp:Bool):Array Value:= #[.slice (some ⟨ρ.gl,0,none⟩) ρ.n ρ.c,.int .i64 ((ρ.n:Int) - l.length),.bool lg,.bool dp]
structure bj.fy (ρ:bj) (w:World) (l:aF) (lg dp:Bool):Prop where
 blk:av w ρ.g 79 (ρ.uL l lg dp)
 lt:ρ.gl < ρ.g
 cell:∀k t,ρ.yD[k]?=some t->w.cell? ⟨ρ.gl,k*4,none⟩=some (.int .u8 t.w.k)/\w.cell? ⟨ρ.gl,k*4+1,none⟩=some (.string ⟨t.w.s.toArray⟩)/\w.cell? ⟨ρ.gl,k*4+2,none⟩=some (.int .i64 t.w.n)/\w.cell? ⟨ρ.gl,k*4+3,none⟩=some (.int .i64 t.p)
 of:(dO.good l).of ρ.ws
 small:ρ.n<=5000
 yE:∀t∈ρ.yD,0<=t.w.n/\t.w.n<=9223372036854775807
 env:∃B,B<=ρ.g/\Env B w
section
variable {ρ:bj} {w w':World} {l l':aF} {lg dp lg' dp':Bool}
theorem bj.fy.later (h:ρ.fy w l lg dp)(hb:Below w.heap.size w w'):ρ.fy w' l lg dp:=
 ⟨h.blk.later hb,h.lt,λ k t hk=>by
   have hl:ρ.gl < w.heap.size:=Nat.lt_trans h.lt h.blk.lt
   have c:=λ o=>hb.cell (p:=⟨ρ.gl,o,none⟩) hl
   obtain⟨h1,h2,h3,h4⟩:=h.cell k t hk
   exact⟨(c _).trans h1,(c _).trans h2,(c _).trans h3,(c _).trans h4⟩,h.of,h.small,h.yE,by obtain⟨B,h1,h2⟩:=h.env;exact⟨B,h1,h2.later hb⟩⟩
theorem bj.fy.mE (h:ρ.fy w l lg dp):ρ.g < w.heap.size:=h.blk.lt
theorem bj.fy.set (h:ρ.fy w l lg dp)(hw:av w' ρ.g 79 (ρ.uL l' lg' dp'))(hg:w.grownBy w' (some ρ.g))(ho:(dO.good l').of ρ.ws):ρ.fy w' l' lg' dp':=
 ⟨hw,h.lt,λ k t hk=>by
   have hl:ρ.gl < w.heap.size:=Nat.lt_trans h.lt h.blk.lt
   have c:=cell_of_heap (hg.block ρ.gl hl (λ e=>by injection e with e;have:=h.lt;omega))
   obtain⟨h1,h2,h3,h4⟩:=h.cell k t hk
   exact⟨(c _).trans h1,(c _).trans h2,(c _).trans h3,(c _).trans h4⟩,ho,h.small,h.yE,by obtain⟨B,h1,h2⟩:=h.env;exact⟨B,h1,h2.grown hg h1⟩⟩
theorem bj.fy.left (h:ρ.fy w l lg dp):0 < l.length/\l.length<=ρ.n:=by have:=dO.ER h.of;simpa [bj.ws,bj.n,dO.left] using this
theorem bj.fy.far {q:Nat}(h:ρ.fy w l lg dp)(hq:ρ.g < q)(i:Nat)(u:Value):ρ.fy (w.setCell ⟨q,i,none⟩ u) l lg dp:=
 ⟨h.blk.far (p:=⟨q,i,none⟩) Tad u,h.lt,λ k t hk=>by
   have c:=cell_of_heap (Below.heap_setCell w ⟨q,i,none⟩ u ρ.gl (by have:=h.lt;simp;omega))
   obtain⟨h1,h2,h3,h4⟩:=h.cell k t hk
   exact⟨(c _).trans h1,(c _).trans h2,(c _).trans h3,(c _).trans h4⟩,h.of,h.small,h.yE,by obtain⟨B,h1,h2⟩:=h.env;exact⟨B,h1,h2.grown (bn (az (Below.refl _ _)) i u) Taa⟩⟩
theorem bj.fy.next (h:ρ.fy w l lg dp):∃t r,ρ.yD[ρ.n - l.length]?=some t/\l=t.w::r:=by
 obtain⟨h1,h2⟩:=h.left;have hlt:ρ.n - l.length < ρ.yD.length:=by unfold bj.n at*;omega
 obtain⟨t,r,hl,hk⟩:=dO.of_next h.of;refine⟨_,r,getElem?_eq_getElem hlt,?_⟩;have e:ρ.ws.length - l.length=ρ.n - l.length:=by simp[bj.ws,bj.n]
 exact Zdx
end
structure aU (ρ:bj) (W w':World) (l:aF) (lg dp:Bool):Prop where
 at_:ρ.fy w' l lg dp
 grown:W.grownBy w' (some ρ.g)
section
variable {ρ:bj} {W w w':World} {l l':aF} {lg dp lg' dp':Bool}
theorem aU.refl (h:ρ.fy w l lg dp):aU ρ w w l lg dp:=⟨h,az (Below.refl _ _)⟩
theorem aU.aA (h:ρ.fy w l lg dp)(hb:Below w.heap.size w w'):aU ρ w w' l lg dp:=⟨h.later hb,az hb⟩
theorem aU.later (h:aU ρ W w l lg dp)(hb:Below w.heap.size w w'):aU ρ W w' l lg dp:=⟨h.at_.later hb,ai h.grown (az hb)⟩
theorem aU.trans (h:aU ρ W w l lg dp)(k:aU ρ w w' l' lg' dp'):aU ρ W w' l' lg' dp':=⟨k.at_,ai h.grown k.grown⟩
theorem aU.lt (h:aU ρ W w l lg dp):ρ.g < w.heap.size:=h.at_.mE
theorem aU.size (h:aU ρ W w l lg dp):W.heap.size<=w.heap.size:=h.grown.size
theorem aU.far {q:Nat}(h:aU ρ W w l lg dp)(hW:ρ.g < W.heap.size)(hq:W.heap.size<=q)(i:Nat)(u:Value):aU ρ W (w.setCell ⟨q,i,none⟩ u) l lg dp:=by exact Zcf
theorem aU.blk {q:Nat} {t:TypeId} {cs:Array Value}(h:aU ρ W w l lg dp)(hq:av W q t cs)(hg:q≠ρ.g):av w q t cs:=hq.grown h.grown λ e=>hg Ta3
theorem aU.own {W0:World} {row:Option Nat}(h:aU ρ W0 w l lg dp)(hg:ρ.g < W0.heap.size)(k:w.grownBy w' row)(hr:∀G,row=some G->W0.heap.size<=G):aU ρ W0 w' l lg dp:=by
 have hk:∀i,i < w.heap.size->some i≠row->w'.heap[i]?=w.heap[i]?:=k.block;have hne:∀i,i < W0.heap.size->some i≠row:=λ i hi e=>by have:=hr i e.symm;omega
 refine⟨⟨(hk _ h.at_.mE (hne _ hg)).trans h.at_.blk,h.at_.lt,λ i t hi=>?_,h.at_.of,h.at_.small,h.at_.yE,by obtain⟨B,h1,h2⟩:=h.at_.env;exact⟨B,h1,h2.below ⟨k.os,k.tape,k.output,k.size,λ i hi=>hk i (by have:=h2.size;omega) (hne i Taa)⟩⟩⟩,k.os.trans h.grown.os,k.tape.trans h.grown.tape,k.output.trans h.grown.output,Nat.le_trans h.grown.size k.size,λ i hi hig=>(hk i (Nat.lt_of_lt_of_le hi h.grown.size) (hne i hi)).trans (h.grown.block i hi hig)⟩;have hl:ρ.gl < W0.heap.size:=Nat.lt_trans h.at_.lt hg;have c:=cell_of_heap (hk ρ.gl (Nat.lt_of_lt_of_le hl h.grown.size) (hne _ hl));obtain⟨h1,h2,h3,h4⟩:=h.at_.cell i t hi;exact Zc6
end
structure Ni (ρ:bj) (w:World) (t:mA) (pl:Nat):Prop where
 c0:w.cell? ⟨ρ.g,0,none⟩=some (.slice (some ⟨ρ.gl,0,none⟩) ρ.n ρ.c)
 c1:w.cell? ⟨ρ.g,1,none⟩=some (.int .i64 pl)
 d0:w.cell? ⟨ρ.gl,pl*4,none⟩=some (.int .u8 t.w.k)
 d1:w.cell? ⟨ρ.gl,pl*4+1,none⟩=some (.string ⟨t.w.s.toArray⟩)
 d2:w.cell? ⟨ρ.gl,pl*4+2,none⟩=some (.int .i64 t.w.n)
 d3:w.cell? ⟨ρ.gl,pl*4+3,none⟩=some (.int .i64 t.p)
variable{ρ:bj}{w w':World}{pl:Nat}
theorem Ni.later{t:mA} (h:Ni ρ w t pl)(hb:Below w.heap.size w w'):Ni ρ w' t pl:=by obtain⟨h0,h1,h3,h4,h5,h6⟩:=h;exact⟨(hb.cell (bY h0)).trans h0,(hb.cell (bY h1)).trans h1,(hb.cell (bY h3)).trans h3,(hb.cell (bY h4)).trans h4,(hb.cell (bY h5)).trans h5,(hb.cell (bY h6)).trans h6⟩
def bj.tok (ρ:bj)(l:aF):mA:=(ρ.yD[ρ.n - l.length]?).getD ⟨⟨0,[],0⟩,0⟩
def bj.placeOf (ρ:bj)(n:Nat):Nat:=((ρ.yD[ρ.n - n]?).map (·.p)).getD 0
variable{l:aF}{lg dp:Bool}
theorem bj.fy.lp(h:ρ.fy w l lg dp):∃(t:mA) (r:aF) (pl:Nat),t=ρ.tok l/\l=t.w::r/\pl < ρ.n/\ρ.n<=5000/\(pl:Int)=(ρ.n:Int) - l.length/\t.p=ρ.placeOf l.length/\0<=t.w.n/\t.w.n<=9223372036854775807/\Ni ρ w t pl:=by
 obtain⟨t,r,ht,hl⟩:=h.next;obtain⟨d0,d1,d2,d3⟩:=h.cell _ t ht;have rp:=h.left;have c0:=h.blk.cell 0;have c1:=h.blk.cell 1;have e:((ρ.n:Int) - l.length)=((ρ.n - l.length:Nat):Int):=by omega
 have hn:=h.yE t (mem_of_getElem? ht);refine⟨t,r,ρ.n - l.length,by unfold bj.tok;rw[ht];rfl,hl,by omega,h.small,by omega,by unfold bj.placeOf;rw[ht];rfl,hn.1,hn.2,c0,?_,d0,d1,d2,d3⟩;rw[c1];show some (Value.int .i64 ((ρ.n:Int) - l.length))=_;rw[e]
theorem bj.fy.facts(h:ρ.fy w l lg dp):
  w.cell? ⟨ρ.g,0,none⟩=some (.slice (some ⟨ρ.gl,0,none⟩) ρ.n ρ.c)/\w.cell? ⟨ρ.g,1,none⟩=some (.int .i64 ((ρ.n:Int) - l.length))/\w.cell? ⟨ρ.g,2,none⟩=some (.bool lg)/\w.cell? ⟨ρ.g,3,none⟩=some (.bool dp)/\
  w.frozen? ⟨ρ.g,1,none⟩=false/\w.frozen? ⟨ρ.g,2,none⟩=false/\w.frozen? ⟨ρ.g,3,none⟩=false:=
 ⟨h.blk.cell 0,h.blk.cell 1,h.blk.cell 2,h.blk.cell 3,h.blk.frozen 1,h.blk.frozen 2,h.blk.frozen 3⟩
theorem tE:(Tryz.prog.info? 81).map (·.size)=some 4:=by kernel_rfl
theorem gL (ρ:bj)(w:World)(l:aF)(lg dp:Bool)(h:ρ.fy w l lg dp):
  Calls Tryz.prog 29 #[ρ.ptr] w λ e w'=>e=.returned (.agg (bV (ρ.tok l)))/\Below w.heap.size w w':=by obtain⟨t,r,pl,oa,hl,hlt,hsm,hpl,zo,xY,uA,hp⟩:=h.lp;have Xu:=hp.later (aa w xh);rw[<- oa];have hb:=(aa w (.cells (bV t) 81)).drew;have HT:=(av.new w 81 (bV t)).drew;clear oa hl h hpl zo xY uA;unfold bj.ptr;obtain⟨c0,c1,d0,d1,d2,d3⟩:=hp;obtain⟨y0,y1,z0,z1,z2,z3⟩:=Xu;unfold xh at y0 y1 z0 z1 z2 z3;go_enter Tryz.func29,Tryz.ntmps29;go_wp2_with fail;go_region;clear c0 c1 d0 d1 d2 d3 y0 y1 z0 z1 z2 z3;obtain⟨u0,u1,u2,u3,_⟩:=aI HT;have wG:av (w.alloc (.cells #[.int .u8 t.w.k,.string ⟨t.w.s.toArray⟩,.int .i64 t.w.n,.int .i64 t.p] 81)).drew w.heap.size 81 (bV t):=HT;clear HT;unfold bV at u0 u1 u2 u3 hb;generalize (w.alloc _).drew=W at*;go_wp2_with fail;exact bodyPost_ret (v:=.agg (bV t)) (results_cell_row Tryz.results29 _ _ w.heap.size 81 (bV t) (0,0) _ rfl wG Tryz.underlying81 rfl tE) rfl ⟨rfl,hb⟩
theorem xy (a b c d:Value):(∀w:World,(Instr.field 81 (.agg #[a,b,c,d]) 0).run Tryz.prog w=.ok a w)/\(∀w:World,(Instr.field 81 (.agg #[a,b,c,d]) 1).run Tryz.prog w=.ok b w)/\(∀w:World,(Instr.field 81 (.agg #[a,b,c,d]) 2).run Tryz.prog w=.ok c w)/\(∀w:World,(Instr.field 81 (.agg #[a,b,c,d]) 3).run Tryz.prog w=.ok d w):=⟨λ _=>by kernel_rfl,λ _=>by kernel_rfl,λ _=>by kernel_rfl,λ _=>by kernel_rfl⟩
def qH (p:Nat):PanicEntry:= { v:=.iface 75 (.agg #[.int .i64 p]),recovered:=false }
def gM (ρ:bj)(w:World)(n:Nat)(e:Ending)(w':World):Prop:=e=.panicked [qH (ρ.placeOf n)]/\w.grownBy w' (some ρ.g)
theorem jk (ρ:bj)(w:World)(l:aF)(lg dp:Bool)(h:ρ.fy w l lg dp):
  Calls Tryz.prog 30 #[ρ.ptr] w (gM ρ w l.length):=by obtain⟨t,r,pl,oa,hl,hlt,hsm,hpl,zo,_,_,hp⟩:=h.lp;have eB:=gL ρ w l lg dp h;rw[<- oa] at eB;unfold gM;rw[<- zo];clear oa hl hpl zo hp;go_enter Tryz.func30,Tryz.ntmps30;go_wp2_with fail;refine eB.mono ?_;rintro e w1 ⟨rfl,b1⟩;unfold bV;have QO:=xy (.int .u8 t.w.k) (.string ⟨t.w.s.toArray⟩) (.int .i64 t.w.n) (.int .i64 t.p);go_wp2_with fail;exact aj rfl ⟨rfl,az b1⟩
variable{α:Type}
def GP(ρ:bj)(W:World)(P:Ps α)(l:aF)(Q:α->aF->Value->World->Prop)(e:Ending)(w':World):Prop:=
 match P l with
 | .ok (x,r)=>∃v,e=.returned v/\Q x r v w'
 | .error n=>gM ρ W n e w'
section
variable {α β:Type} {ρ:bj} {W w w':World} {P:Ps α} {l r:aF} {Q:α->aF->Value->World->Prop}
theorem GP.ok {x:α} {v:Value}(h:P l=.ok (x,r))(k:Q x r v w'):GP ρ W P l Q (.returned v) w':=by unfold GP;rw[h];exact⟨v,rfl,k⟩
theorem GP.err {n:Nat} {e:Ending}(h:P l=.error n)(k:gM ρ W n e w'):GP ρ W P l Q e w':=by unfold GP;rw[h];exact k
theorem GP.cases {e:Ending}(h:GP ρ W P l Q e w'):(∃x r v,P l=.ok (x,r)/\e=.returned v/\Q x r v w')\/∃n,P l=.error n/\gM ρ W n e w':=by
 unfold GP at h
 cases hp:P l with
 | error n=>rw[hp] at h;exact .inr ⟨n,rfl,h⟩
 | ok y=>obtain⟨x,r⟩:=y;rw[hp] at h;obtain⟨v,h1,h2⟩:=h;exact .inl ⟨x,r,v,rfl,h1,h2⟩
end
theorem Yi (ρ:bj)(w:World)(l:aF)(lg dp:Bool)(h:ρ.fy w l lg dp)(s:ByteArray):
  Calls Tryz.prog 74 #[ρ.ptr,.string s] w λ e w'=>e=.returned (.bool (ar s.data.toList l))/\Below w.heap.size w w':=by
 obtain⟨t,r,pl,oa,hl,hlt,hsm,hpl,zo,xY,uA,hp⟩:=h.lp;have eB:=gL ρ w l lg dp h;rw[<- oa] at eB;have hHD:ar s.data.toList l=((t.w.k==1 || t.w.k==4)&&(t.w.s==s.toList)):=by rw[hl,<- Hq];rfl
 have uS:=hid hHD;clear hHD oa hl hpl zo xY uA hp hlt hsm h;generalize ar s.data.toList l=R at*;go_enter Tryz.func74,Tryz.ntmps74;go_wp2_with fail;refine eB.mono ?_;rintro e w1 ⟨rfl,b1⟩;unfold bV;have hb:=λ o=>af.then b1 (aa w1 o)
 go_wp2_with fail
 all_goals
  go_ret;refine⟨cP ?_,hb _⟩;rw[uS.out];generalize (t.w.s==s.toList)=X;cases X <;> rw[Bool.eq_iff_iff] <;> simp <;> omega
def ig (s:List UInt8)(l:aF):aF:=if ar s l then l.tail else l
theorem sB (s:List UInt8)(l:aF):may s l=.ok (ar s l,ig s l):=by unfold may ig;cases ar s l <;> rfl
theorem bj.fy.step {ρ:bj} {w:World} {l:aF} {t:Wd} {lg dp:Bool}(h:ρ.fy w (t::l) lg dp)(ht:t.k≠0):
  aU ρ w (w.setCell ⟨ρ.g,1,none⟩ (.int .i64 ((ρ.n:Int) - l.length))) l lg dp:=by exact ZcX
theorem bk (ρ:bj)(w:World)(l:aF)(lg dp:Bool)(h:ρ.fy w l lg dp)(s:ByteArray):
  Calls Tryz.prog 28 #[ρ.ptr,.string s] w λ e w'=>e=.returned (.bool (ar s.data.toList l))/\aU ρ w w' (ig s.data.toList l) lg dp:=by
 have hw:=Yi ρ w l lg dp h s;have AD:ρ.ptr=.pointer (some ⟨ρ.g,0,none⟩):=rfl;cases hh:ar s.data.toList l
 ·rw[hh] at hw;rw[show ig s.data.toList l=l by unfold ig;rw[hh];rfl];have HH:=hid h;clear h hh;go_enter Tryz.func28,Tryz.ntmps28;go_wp2_with fail;refine hw.mono ?_;rintro e w1 ⟨rfl,b1⟩;go_wp2_with fail;go_ret;exact⟨rfl,aU.aA HH.out b1⟩
 ·rw[hh] at hw;obtain⟨t,r,rfl,ht⟩:=ez hh;rw[show ig s.data.toList (t::r)=r by unfold ig;rw[hh];rfl];have HH:=hid h;have HK:=hid (Ai ht);have hsm:=h.small;clear ht hh h;go_enter Tryz.func28,Tryz.ntmps28;go_wp2_with fail;refine hw.mono ?_;rintro e w1 ⟨rfl,b1⟩;obtain⟨c0,c1,c2,c3,f1,f2,f3⟩:=(HH.out.later b1).facts;have rp:=(HH.out.later b1).left;have e1:(ρ.n:Int) - ((r.length:Int)+1)+1=(ρ.n:Int) - r.length:=by omega
  simp only[length_cons] at rp;rw[AD];go_wp2_with fail;go_ret;have hd:=bj.fy.step (HH.out.later b1) HK.out;exact⟨rfl,(aU.aA HH.out b1).trans hd⟩
variable{s:List UInt8}
theorem FH{ks:List (List UInt8)} (h:ar s l=false):jU (s::ks) l=jU ks l:=by simp only[jU,h];rfl
theorem zq{ks:List (List UInt8)} (h:ar s l=true):jU (s::ks) l=.ok (s,l.tail):=by simp only[jU,h,if_true]
theorem bS(h:ar s l=false):ig s l=l:=by unfold ig;rw[h];rfl
theorem cg(h:ar s l=true):ig s l=l.tail:=by unfold ig;rw[h];rfl
theorem zf3.KbP(h:p:=by
 have hm:=bk ρ wr l lg dp HD.out.at_ ⟨s.toArray⟩;rw[show(⟨s.toArray⟩:ByteArray).data.toList=s by simp] at hm;cases hh:ar s l
 ·have uS:=hid hh;rw[hh,bS hh] at hm;clear hh;go_wp2_with fail;refine hm.mono ?_;clear hm;rintro e w1 ⟨rfl,d1⟩;go_wp2_with fail;go_roundw;case rel=>exact⟨i+1,by omega,by go_num,HD.out.trans d1,by rw[HS.out,BX.out,FH uS.out]⟩
  case measure=>exact Zcj
 ·have uS:=hid hh;rw[hh,cg hh] at hm;clear hh;go_wp2_with fail;refine hm.mono ?_;clear hm;rintro e w1 ⟨rfl,d1⟩;go_wp2_with fail;go_ret;exact GP.ok (by rw[HS.out,BX.out,zq uS.out]) ⟨rfl,HD.out.trans d1⟩):p:=h
theorem pR (ρ:bj)(w:World)(l:aF)(lg dp:Bool)(h:ρ.fy w l lg dp)(ks:List (List UInt8))(b n:Nat)(hn:ks.length=n)(hb:av w b 9 (aK ks))(hbg:ρ.g≠b)(hsm:n<=10):
  Calls Tryz.prog 111 #[ρ.ptr,.slice (some ⟨b,0,none⟩) n n] w (GP ρ w (jU ks) l λ s r v w'=>v=strOf s/\aU ρ w w' r lg dp):=by
 have HH:=hid h;have HB:=hid hb;clear h hb;go_enter Tryz.func111,Tryz.ntmps111;go_wp2_with fail;go_loopw [9] (λ u wr=>∃(i:Nat),i<=n/\u=.int .i64 i/\aU ρ w wr l lg dp/\jU ks l=jU (ks.drop i) l) (λ u _=>n - (intOf u).toNat);case atStart=>exact⟨0,Nat.zero_le _,rfl,aU.refl HH.out,rfl⟩
 case round=>
  obtain⟨i,hi,rfl,hD,hst⟩:=hrel;have HD:=hid hD;have HS:=hid hst;clear hD hst;by_cases hlt:i < n
  ·open zf3 in exact ZdZ
  ·obtain rfl:i=n:=by omega
   have BX:=hid (show ks.drop i=[] from drop_eq_nil_of_le Taa);have hf:=jk ρ wr l lg dp HD.out.at_;go_wp2_with fail;refine hf.mono ?_;clear hf;rintro e w1 ⟨rfl,hg2⟩;go_wp2_with fail;exact aj rfl (GP.err (n:=l.length) (by rw[HS.out,BX.out];rfl) ⟨rfl,ai HD.out.grown hg2⟩)
theorem Uz(h:ar s l=true):must s l=.ok ((),l.tail):=by simp only[must,h,if_true]
theorem Yk(h:ar s l=false):must s l=.error l.length:=by simp only[must,h];rfl
variable{r:aF}
theorem UA{x:List UInt8}(h:jU [s] l=.ok (x,r)):must s l=.ok ((),r):=by
 cases hh:ar s l
 ·rw[FH hh] at h;cases h
 ·rw[zq hh] at h;injection h with h;injection h with h1 h2;rw[Uz hh,h2]
variable{n:Nat}
theorem FI(h:jU [s] l=.error n):must s l=.error n:=by
 cases hh:ar s l
 ·rw[FH hh] at h;injection h with h;rw[Yk hh,h]
 ·rw[zq hh] at h;cases h
theorem zf4.KbP(h:p:=by
 have hb1:=aa wr (.cells (aK [s]) 9);have hm:=pR ρ _ l' lg dp (HD.out.at_.later hb1) [s] wr.heap.size 1 rfl (av.new wr _ _) (by have:=HD.out.lt;omega) Taa;have mn:=hid hb1;clear hb1;unfold aK strOf at hm;simp only[map_cons,map_nil] at hm;go_wp2_with fail;refine hm.mono ?_;clear hm;intro e w1 hp;rcases hp.cases with ⟨x,r,v,ay,rfl,rfl,d1⟩|⟨m,au,rfl,hg⟩
 ·clear hp;go_wp2_with fail;go_roundw;case rel=>exact⟨i+1,r,by omega,by go_num,(HD.out.later mn.out).trans d1,by rw[HS.out,BX.out];exact ag (UA ay)⟩
  case measure=>exact Zcj
 ·clear hp;go_wp2_with fail;exact aj rfl (GP.err (n:=m) (by rw[HS.out,BX.out];exact ak (FI au)) ⟨rfl,ai (HD.out.later mn.out).grown hg⟩)):p:=h
theorem aR (ρ:bj)(w:World)(l:aF)(lg dp:Bool)(h:ρ.fy w l lg dp)(ks:List (List UInt8))(b n:Nat)(hn:ks.length=n)(hb:av w b 9 (aK ks))(hbg:ρ.g≠b)(hsm:n<=10):
  Calls Tryz.prog 110 #[ρ.ptr,.slice (some ⟨b,0,none⟩) n n] w (GP ρ w (fY ks) l λ s r v w'=>v=.tuple #[]/\aU ρ w w' r lg dp):=by
 have HH:=hid h;have HB:=hid hb;clear h hb;go_enter Tryz.func110,Tryz.ntmps110;go_wp2_with fail;go_loopw [8] (λ u wr=>∃(i:Nat) (l':aF),i<=n/\u=.int .i64 i/\aU ρ w wr l' lg dp/\fY ks l=fY (ks.drop i) l') (λ u _=>n - (intOf u).toNat);case atStart=>exact⟨0,l,Nat.zero_le _,rfl,aU.refl HH.out,rfl⟩
 case round=>
  obtain⟨i,l',hi,rfl,hD,hst⟩:=hrel;have HD:=hid hD;have HS:=hid hst;clear hD hst;by_cases hlt:i < n
  ·open zf4 in exact ZdZ
  ·obtain rfl:i=n:=by omega
   have hd:ks.drop i=[]:=drop_eq_nil_of_le Taa;rw[hd] at HS;go_wp2_with fail;go_end0;exact GP.ok HS.out ⟨rfl,HD.out⟩
def eR (ρ:bj)(W:World)(lg dp:Bool)(P:Ps Tr)(l:aF)(e:Ending)(w':World):Prop:=
 GP ρ W P l (λ t r v w'=>∃y:Ex,v=dA y/\t.at_ w' (ep W.heap.size w') y/\aU ρ W w' r lg dp) e w'
def ajt:Nat->FuncId
 | 0=>154
 | 1=>180
 | 2=>202
 | 3=>222
 | 4=>232
 | 5=>237
 | 6=>240
 | _=>241
def Nj (ρ:bj)(m:Nat):Prop:=∀(lv:Nat) (l:aF) (W:World) (lg dp:Bool),lv<=7->8*l.length+(7 - lv)< m->ρ.fy W l lg dp->Calls Tryz.prog (ajt lv) #[ρ.ptr] W (eR ρ W lg dp (aO lv) l)
variable{m k:Nat}
theorem Nj.less(h:Nj ρ m)(hk:k<=m):Nj ρ k:=λ lv l W lg dp h1 h2 h3=>h lv l W lg dp h1 Taa h3
def dz:Array Value:= #[.int .u8 0,.int .u8 0,.int .i64 0,.string ⟨#[]⟩,.string ⟨#[]⟩,.int .i64 0,.slice none 0 0]
theorem aC:(Tryz.prog.info? 36).map (·.size)=some 7:=by kernel_rfl
theorem cD (y:Ex):(aL y).toArray.all (·.oneCell')=true:=by simp[aL,Value.oneCell']
variable{W:World}{P:Ps Tr}{t:Tr}{y:Ex}
theorem bM(hg:ρ.g < w.heap.size)(hd:aU ρ w W r lg dp)(ht:t.at_ W (ep (w.heap.size+1) W) y)(hp:P l=.ok (t,r)):eR ρ w lg dp P l (.returned (dA y)) (W.setRow w.heap.size (aL y).toArray):=
 GP.ok hp ⟨y,rfl,(Tr.at_.keep (ie W (Nat.lt_succ_self _) _) t y ht).more (Nat.le_succ _),hd.own hg (cx W w.heap.size _) (λ G e=>by injection e with e;omega)⟩
theorem bl(hp:P l=.error n)(hg:w.grownBy W (some ρ.g))(k:W.grownBy w' (some ρ.g)):eR ρ w lg dp P l (.panicked [qH (ρ.placeOf n)]) w':=GP.err hp ⟨rfl,ai hg k⟩
variable{op:Int}
theorem Nk{p q:Ps Tr} (h:ar s l=false):GI s op p q l=q l:=by unfold GI;exact Zgh
theorem FJ{p q:Ps Tr} (h:ar s l=true):GI s op p q l=(do let x <- p;return mB op [x]) l.tail:=by unfold GI;exact Zgf
theorem nP(h:ar s l=true):l.tail.length+1=l.length:=by obtain⟨t,r,rfl,_⟩:=ez h;simp
theorem zeb.Ka5(h:p:=by refine bodyPost_ret (v:=dA y) (results_cell_row Tryz.results202 _ _ w.heap.size 36 (aL y).toArray (0,0) _ rfl HR.out Tryz.underlying36 rfl aC) rfl ?_;exact bM aZ eC.out iO.out ((Nk uS.out).trans iI.out)):p:=h
theorem zfJ.KbG(h:p:=by
 have iO:=hid ((hat.more (by have:=d1.size;omega:w.heap.size+1<=w1.heap.size)).later (aa w2 (.cells (aL y).toArray 36)));have HY:=hid (wJ (S:=ep (w.heap.size+1) (w2.alloc (.cells (aL y).toArray 36))) 4 (av.new w2 36 (aL y).toArray) ⟨hs2,by simp⟩ iO.out);have iI:=hid ay;clear hp d1 d2 hat ay IH HQ HD hsz iO;unfold dA aL at*;go_wp2_with (first
  |(refine wpList_store_row rfl 36 (.tmp 2) (.tmp 8) rfl w.heap.size (aL (rK 4 w2.heap.size 1)).toArray rfl rfl 36 dz jw.out aC rfl (cD _) ?_
    have HR:=hid (jw.out.row (aL (rK 4 w2.heap.size 1)).toArray)))
 refine bodyPost_ret (v:=dA (rK 4 w2.heap.size 1)) (results_cell_row Tryz.results202 _ _ w.heap.size 36 (aL (rK 4 w2.heap.size 1)).toArray (0,0) _ rfl HR.out Tryz.underlying36 rfl aC) rfl ?_;exact bM aZ eC.out HY.out ((FJ uS.out).trans (ag iI.out))):p:=h
theorem zhn.Kcp(h:p:=by
 rw[zb];rw[show(⟨#[110,111,116]⟩:ByteArray).data.toList=dT from rfl] at hm;clear h hb;unfold dz at hm hsz;cases hh:ar dT l
 ·rw[hh,bS hh] at hm;have uS:=hid hh;clear hh;go_enter Tryz.func202,Tryz.ntmps202;go_wp2_with fail;refine hm.mono ?_;clear hm;rintro e w1 ⟨rfl,d1⟩;go_wp2_with fail;refine(IH 3 l w1 lg dp Taa Taa d1.at_).mono ?_;intro e w2 hp;rcases hp.cases with ⟨t,r,v,ay,rfl,y,rfl,hat,d2⟩|⟨n,au,rfl,hg⟩
  ·open zeb in exact ZbW
  ·exact ZdC
 ·rw[hh,cg hh] at hm;have uS:=hid hh;have Rb:=nP hh;clear hh;go_enter Tryz.func202,Tryz.ntmps202;go_wp2_with fail;refine hm.mono ?_;clear hm;rintro e w1 ⟨rfl,d1⟩;go_wp2_with fail;refine(IH 2 l.tail w1 lg dp Taa Taa d1.at_).mono ?_;intro e w2 hp;rcases hp.cases with ⟨t,r,v,ay,rfl,y,rfl,hat,d2⟩|⟨n,au,rfl,hg⟩
  ·open zfJ in exact Zdv
  ·exact Zdu):p:=h
theorem aeZ (ρ:bj)(w:World)(l:aF)(lg dp:Bool)(h:ρ.fy w l lg dp)(IH:Nj ρ (8*l.length+5)):
  Calls Tryz.prog 202 #[ρ.ptr] w (eR ρ w lg dp (aO 2) l):=by have aZ:=h.mE;have hb:=aa w (.cells dz 36);have hm:=bk ρ _ l lg dp (h.later hb) ⟨#[110,111,116]⟩;open zhn in exact Zf5
theorem zec.Ka5(h:p:=by refine bodyPost_ret (v:=dA y) (results_cell_row Tryz.results240 _ _ w.heap.size 36 (aL y).toArray (0,0) _ rfl HR.out Tryz.underlying36 rfl aC) rfl ?_;exact bM aZ eC.out iO.out ((Nk uS.out).trans iI.out)):p:=h
theorem zfK.KbG(h:p:=by
 have iO:=hid ((hat.more (by have:=d1.size;omega:w.heap.size+1<=w1.heap.size)).later (aa w2 (.cells (aL y).toArray 36)));have HY:=hid (wJ (S:=ep (w.heap.size+1) (w2.alloc (.cells (aL y).toArray 36))) 3 (av.new w2 36 (aL y).toArray) ⟨hs2,by simp⟩ iO.out);have iI:=hid ay;clear hp d1 d2 hat ay IH HQ HD hsz iO;unfold dA aL at*;go_wp2_with (first
  |(refine wpList_store_row rfl 36 (.tmp 2) (.tmp 8) rfl w.heap.size (aL (rK 3 w2.heap.size 1)).toArray rfl rfl 36 dz jw.out aC rfl (cD _) ?_
    have HR:=hid (jw.out.row (aL (rK 3 w2.heap.size 1)).toArray)))
 refine bodyPost_ret (v:=dA (rK 3 w2.heap.size 1)) (results_cell_row Tryz.results240 _ _ w.heap.size 36 (aL (rK 3 w2.heap.size 1)).toArray (0,0) _ rfl HR.out Tryz.underlying36 rfl aC) rfl ?_;exact bM aZ eC.out HY.out ((FJ uS.out).trans (ag iI.out))):p:=h
theorem zho.Kcp(h:p:=by
 rw[EP];rw[show(⟨#[45]⟩:ByteArray).data.toList=dr from rfl] at hm;clear h hb;unfold dz at hm hsz;cases hh:ar dr l
 ·rw[hh,bS hh] at hm;have uS:=hid hh;clear hh;go_enter Tryz.func240,Tryz.ntmps240;go_wp2_with fail;refine hm.mono ?_;clear hm;rintro e w1 ⟨rfl,d1⟩;go_wp2_with fail;refine(IH 7 l w1 lg dp Taa Taa d1.at_).mono ?_;intro e w2 hp;rcases hp.cases with ⟨t,r,v,ay,rfl,y,rfl,hat,d2⟩|⟨n,au,rfl,hg⟩
  ·open zec in exact ZbW
  ·exact ZdC
 ·rw[hh,cg hh] at hm;have uS:=hid hh;have Rb:=nP hh;clear hh;go_enter Tryz.func240,Tryz.ntmps240;go_wp2_with fail;refine hm.mono ?_;clear hm;rintro e w1 ⟨rfl,d1⟩;go_wp2_with fail;refine(IH 6 l.tail w1 lg dp Taa Taa d1.at_).mono ?_;intro e w2 hp;rcases hp.cases with ⟨t,r,v,ay,rfl,y,rfl,hat,d2⟩|⟨n,au,rfl,hg⟩
  ·open zfK in exact Zdv
  ·exact Zdu):p:=h
theorem afa (ρ:bj)(w:World)(l:aF)(lg dp:Bool)(h:ρ.fy w l lg dp)(IH:Nj ρ (8*l.length+1)):
  Calls Tryz.prog 240 #[ρ.ptr] w (eR ρ w lg dp (aO 6) l):=by have aZ:=h.mE;have hb:=aa w (.cells dz 36);have hm:=bk ρ _ l lg dp (h.later hb) ⟨#[45]⟩;open zho in exact Zf5
def opC (x:List UInt8×Int):List Value:=[.string ⟨x.1.toArray⟩,.int .u8 x.2]
def opsV (ks:List (List UInt8×Int)):Array Value:=(ks.flatMap opC).toArray
variable{b:Nat}{T:TypeId}{ks:List (List UInt8×Int)}{i:Nat}{o:Int}
theorem Bi(h:av w b T (opsV ks))   (hi:ks[i]?=some (s,o)):w.cell? ⟨b,i*2,none⟩=some (.string ⟨s.toArray⟩)/\w.cell? ⟨b,i*2+1,none⟩=some (.int .u8 o):=by
 have f:=sQ (f:=opC) (size:=2) (λ _=>rfl) ks i (s,o) hi;constructor
 ·rw[h.cell];have:=f 0 _ rfl;simpa [opsV] using this
 ·rw[h.cell];have:=f 1 _ rfl;simpa [opsV] using this
theorem LD (ρ:bj)(w:World)(l:aF)(lg dp:Bool)(h:ρ.fy w l lg dp)(s:List UInt8)(o:Int)(pb:Nat)(hp:av w pb 77 #[ρ.ptr]):
  Calls Tryz.prog 201 #[.agg #[.string ⟨s.toArray⟩,.int .u8 o],.pointer (some ⟨pb,0,none⟩)] w λ e w'=>e=.returned (.bool (ar s l))/\aU ρ w w' (ig s l) lg dp:=by have hb:=aa w (.cells #[.string ⟨s.toArray⟩,.int .u8 o] 199);have hm:=bk ρ _ l lg dp (h.later hb) ⟨s.toArray⟩;rw[show(⟨s.toArray⟩:ByteArray).data.toList=s by simp] at hm;have HD:=hid (aU.aA h hb);have c0:=hp.cell 0;simp only[getElem?_toArray,getElem?_cons_zero] at c0;have hpl:=hp.lt;clear h hb;go_enter Tryz.func201,Tryz.ntmps201;go_wp2_with fail;refine hm.mono ?_;clear hm;rintro e w1 ⟨rfl,d1⟩;go_wp2_with fail;go_ret;exact⟨rfl,HD.out.trans d1⟩
theorem Nl(h:ar s l=false):eE ((s,o)::ks) l=eE ks l:=by simp[eE,h]
theorem IG(h:ar s l=true):eE ((s,o)::ks) l=some o:=by simp[eE,h]
def Y3 (ρ:bj)(w:World)(ks:List (List UInt8×Int))(l:aF)(lg dp:Bool)(e:Ending)(w':World):Prop:=
 (eE ks l=none/\e=.returned (.int .i64 (-1))/\aU ρ w w' l lg dp)\/∃(i:Nat) (s:List UInt8) (o:Int),ks[i]?=some (s,o)/\eE ks l=some o/\ar s l=true/\e=.returned (.int .i64 i)/\aU ρ w w' l.tail lg dp
theorem LF (ρ:bj)(w:World)(l:aF)(lg dp:Bool)(h:ρ.fy w l lg dp)(ks:List (List UInt8×Int))(b n pb:Nat)(hn:ks.length=n)(hb:av w b 199 (opsV ks))(hbg:b≠ρ.g)(hp:av w pb 77 #[ρ.ptr])(Q6:pb≠ρ.g)(hsm:n<=10):
  Calls Tryz.prog 200 #[.slice (some ⟨b,0,none⟩) n n,.func (.func 201) #[] #[.pointer (some ⟨pb,0,none⟩)]] w (Y3 ρ w ks l lg dp):=by
 have HH:=hid h;have HB:=hid hb;have HP:=hid hp;clear h hb hp;have en:∀args w,(callFunc 201 args).run Tryz.prog w=.ok (.enter 201 args) w:=enters_of Tryz.func201 Tab rfl;go_enter Tryz.func200,Tryz.ntmps200;go_wp2_with fail;go_loopw [8] (λ u wr=>∃(i:Nat),i<=n/\u=.int .i64 i/\aU ρ w wr l lg dp/\eE ks l=eE (ks.drop i) l) (λ u _=>n - (intOf u).toNat);case atStart=>exact⟨0,Nat.zero_le _,rfl,aU.refl HH.out,rfl⟩
 case round=>
  obtain⟨i,hi,rfl,hD,hst⟩:=hrel;have HD:=hid hD;have HS:=hid hst;clear hD hst;by_cases hlt:i < n
  ·obtain⟨⟨s,o⟩,hs⟩:∃x,ks[i]?=some x:=⟨_,getElem?_eq_getElem Taa⟩;obtain⟨c0,c1⟩:=Bi (HD.out.blk HB.out hbg) hs;have BX:=hid (rX hs);have HSS:=hid hs;clear hs;have hm:=LD ρ wr l lg dp HD.out.at_ s o pb (HD.out.blk HP.out Q6);cases hh:ar s l
   ·have uS:=hid hh;rw[hh,bS hh] at hm;clear hh;go_wp2_with fail;refine hm.mono ?_;clear hm;rintro e w1 ⟨rfl,d1⟩;go_wp2_with fail;go_roundw;case rel=>exact⟨i+1,by omega,by go_num,HD.out.trans d1,by rw[HS.out,BX.out,Nl uS.out]⟩
    case measure=>exact Zcj
   ·have uS:=hid hh;rw[hh,cg hh] at hm;clear hh;go_wp2_with fail;refine hm.mono ?_;clear hm;rintro e w1 ⟨rfl,d1⟩;go_wp2_with fail;go_ret;exact .inr ⟨i,s,o,HSS.out,by rw[HS.out,BX.out,IG uS.out],uS.out,rfl,HD.out.trans d1⟩
  ·obtain rfl:i=n:=by omega
   have BX:=hid (show ks.drop i=[] from drop_eq_nil_of_le Taa);go_wp2_with fail;go_ret;exact .inl ⟨by rw[HS.out,BX.out];rfl,rfl,HD.out⟩
variable{d:TypeDesc}{q:Nat}
theorem mR{P:Program}{ρ:Operand->Value}{o:Oper}{w:World}{x:Operand}{T:TypeId}{d:TypeDesc}{q:Nat}{y:Ex}(ho:o.op=.load T x)(hx:ρ x=.pointer (some ⟨q,0,none⟩))(hb:av w q T (aL y).toArray)(hu:P.underlying T=some d)(hd:(match d with | .struct _ | .array _ _=>true | _=>false)=true)(hi:(P.info? T).map (·.size)=some 7):(execOp ρ o).run P w=.ok (.value (dA y)) w:=by unfold execOp;simp only[ho,hx,Instr.loadAt,Instr.sureAddr,Sem.run_bind,Sem.run_pure,Result.andThen_ok,run_loadVar_row w q T T (aL y).toArray (0,0) d hb hu hd hi];rfl
theorem IP(hg:ρ.g < w.heap.size)(hq:w.heap.size<=q)(hd:aU ρ w W r lg dp)(ht:t.at_ W (ep (q+1) W) y)(hp:P l=.ok (t,r)):eR ρ w lg dp P l (.returned (dA y)) (W.setRow q (aL y).toArray):=
 GP.ok hp ⟨y,rfl,(Tr.at_.keep (ie W (Nat.lt_succ_self _) _) t y ht).more Taa,hd.own hg (cx W q _) (λ G e=>by injection e with e;omega)⟩
variable{B:Nat}
theorem Y6(cs:Array Value):∀b,Bx B q w b->(∀o,(w.setRow q cs).cell? ⟨b,o,none⟩=w.cell? ⟨b,o,none⟩)/\Bx B q (w.setRow q cs) b:=λ b hb=>
 ⟨cell_of_heap (setRow_other w q b cs hb.2.2),hb.1,by rw[size_setRow];exact hb.2.1,hb.2.2⟩
structure qQ (ρ:bj) (w:World) (lg dp:Bool) (lv:Nat) (l:aF) (q qx pb b:Nat) (wr:World) (l':aF) (t:Tr) (y:Ex):Prop where
 did:aU ρ w wr l' lg dp
 blk:av wr qx 36 (aL y).toArray
 res:av wr q 36 dz
 tF:av wr pb 77 #[ρ.ptr]
 opk:av wr b 199 (opsV (opsL lv))
 tr:t.at_ wr (Bx (q+1) qx wr) y
 todo:jM (aO (lv+1)) lv l=Hd (aO (lv+1)) lv t l'
 le:l'.length<=l.length
variable{wr w1 W1 Yl:World}{lv:Nat}{l' r2:aF}{qx pb g0:Nat}{t' t2:Tr}{y' y2:Ex}
theorem qQ.round(aZ:ρ.g < w.heap.size)(BO:w.heap.size<=q)(hqq:q+1<=qx)(Fo:pb≠qx)(Q6:pb≠ρ.g)(kG:b≠qx)(hbg:b≠ρ.g)(A:qQ ρ w lg dp lv l q qx pb b wr l' t' y')(d1:aU ρ wr w1 l'.tail lg dp)(h1:af w1 W1)
  (Jy:t2.at_ Yl (ep W1.heap.size Yl) y2) (d2:aU ρ W1 Yl r2 lg dp) (h2:af Yl W) (hN:av W g0 36 (aL y'++aL y2).toArray) (hg0:Yl.heap.size<=g0) (hop:eE (opsL lv) l'=some o) (ay:aO (lv+1) l'.tail=.ok (t2,r2)):
  qQ ρ w lg dp lv l q qx pb b (W.setRow qx (aL (rK o g0 2)).toArray) r2 (mB o [t',t2]) (rK o g0 2):=by
 have hz1:=d1.size;have hz2:w1.heap.size<=W1.heap.size:=h1.size;have hz3:=d2.size;have hz4:Yl.heap.size<=W.heap.size:=h2.size;have hqb:=A.blk.lt;have uK:=hN.lt;have step:∀ {k:Nat} {T:TypeId} {cs:Array Value},av wr k T cs->k≠ρ.g->av W k T cs:=λ h hk=>(((h.grown d1.grown Tad).later h1).grown d2.grown Tad).later h2
 have hX:=step A.blk Taa;have hD:=(((A.did.trans d1).later h1).trans d2).later h2
 have hT:(mB o [t',t2]).at_ W (Bx (q+1) qx W) (rK o g0 2):=by
  refine Kb o hN ⟨by omega,by omega,by omega⟩ ?_ ?_
  ·exact Tr.at_.keep (gB h2) _ _ (Tr.at_.keep (ik d2.grown Taa) _ _ (Tr.at_.keep (gB h1) _ _ (Tr.at_.keep (ik d1.grown Taa) _ _ A.tr)))
  ·exact Tr.at_.keep (Mp Taa Taa) _ _ (Jy.later h2)
 refine⟨hD.own aZ (cx W qx _) (λ G e=>by injection e with e;omega),hX.row _,(step A.res Taa).gu Taa _,(step A.tF Q6).gu Fo _,(step A.opk hbg).gu kG _,Tr.at_.keep (Y6 _) _ _ hT,?_,?_⟩
 ·rw[A.todo,pH (bR _),hop];exact ag ay
 ·have h3:=(bR (lv+1)).len ay;have h4:=A.le;have h5:l'.tail.length<=l'.length:=by simp
  omega
theorem qQ.done(A:qQ ρ w lg dp lv l q qx pb b wr l' t y)(hop:eE (opsL lv) l'=none):jM (aO (lv+1)) lv l=.ok (t,l'):=by rw[A.todo,pH (bR _),hop]
theorem qQ.fail(A:qQ ρ w lg dp lv l q qx pb b wr l' t y)(hop:eE (opsL lv) l'=some o)(h:aO (lv+1) l'.tail=.error n):jM (aO (lv+1)) lv l=.error n:=by rw[A.todo,pH (bR _),hop];exact ak h
theorem tG (ρ:bj)(w:World)(l:aF)(lg dp:Bool)(h:ρ.fy w l lg dp)(lv:Nat)(fb:FuncId)(en:∀args w,(callFunc fb args).run Tryz.prog w=.ok (.enter fb args) w)
  (IH:∀(l':aF) (W:World),l'.length<=l.length->ρ.fy W l' lg dp->Calls Tryz.prog fb #[ρ.ptr] W (eR ρ W lg dp (aO (lv+1)) l')) (b n:Nat) (hn:(opsL lv).length=n) (hb:av w b 199 (opsV (opsL lv))) (hbg:b≠ρ.g) (hsm:n<=10):
  Calls Tryz.prog 179 #[ρ.ptr,.func (.func fb) #[ρ.ptr] #[],.slice (some ⟨b,0,none⟩) n n] w (eR ρ w lg dp (jM (aO (lv+1)) lv) l):=by
 have aZ:=h.mE;have hbl:=hb.lt;have jn:=af.then (aa w (.cells #[ρ.ptr] 77)) (aa _ (.cells dz 36));have HP:=hid ((av.new w 77 #[ρ.ptr]).alloc (.cells dz 36));have Y7:=av.new (w.alloc (.cells #[ρ.ptr] 77)) 36 dz;rw[show(w.alloc (.cells #[ρ.ptr] 77)).heap.size=w.heap.size+1 by simp] at Y7;have HQ:=hid Y7;have hsz:((w.alloc (.cells #[ρ.ptr] 77)).alloc (.cells dz 36)).heap.size=w.heap.size+2:=by simp
 have HD:=hid (aU.aA h jn);have HO:=hid (hb.later jn);have hih:=IH l _ (Nat.le_refl _) (h.later jn);have HIH:=hid IH;clear h hb jn Y7 IH;unfold dz at hih hsz;go_enter Tryz.func179,Tryz.ntmps179;go_wp2_with fail;refine hih.mono ?_;clear hih;intro e w2 hp;rcases hp.cases with ⟨t,r,v,ay,rfl,y,rfl,hat,d2⟩|⟨m,au,rfl,hg⟩;case inr=>have HG:=hid HD.out.grown;have HE:=hid au;clear hp HQ HD HO HP HIH hsz au;go_wp2_with fail;exact aj rfl (bl (ak HE.out) HG.out hg)
 have hs2:w.heap.size+2<=w2.heap.size:=by have:=d2.size;omega
 have hA:qQ ρ w lg dp lv l (w.heap.size+1) w2.heap.size w.heap.size b (w2.alloc (.cells (aL y).toArray 36)) r t y:=
  ⟨(HD.out.trans d2).later (aa _ _),av.new w2 _ _,(d2.blk HQ.out Taa).alloc _,(d2.blk HP.out Taa).alloc _,(d2.blk HO.out hbg).alloc _,Tr.at_.keep (wI _ Taa) _ _ hat,by rw[ES];exact ag ay,(bR _).len ay⟩
 have HA:=hid hA;clear hA hp hat d2 ay HQ HD HO HP hsz;unfold dA aL at*;go_upto_region 2 with fail;generalize w2.alloc _=W at*;generalize w2.heap.size=qx at*;go_loopg [] l.length (λ k wr=>∃l' t' y',l'.length<=k/\qQ ρ w lg dp lv l (w.heap.size+1) qx w.heap.size b wr l' t' y');case atStart=>exact⟨_,_,_,HA.out.le,HA.out⟩
 case round=>
  obtain⟨l',t',y',hk,hA'⟩:=hrel;have LH:=hid hA';clear hA' HA;have Gd:w.heap.size+2<=qx:=hs2;go_wp2_with fail;refine(LF ρ wr l' lg dp LH.out.did.at_ (opsL lv) b n w.heap.size hn LH.out.opk hbg LH.out.tF Taa hsm).mono ?_;intro e w1 hp;rcases hp with ⟨hop,rfl,d1⟩|⟨i,s,o,hi,hop,hh,rfl,d1⟩
  ·have HX:=hid (d1.blk LH.out.blk Taa);have HQ:=hid (d1.blk LH.out.res Taa);have HT:=hid (Tr.at_.keep (jF (Nat.le_refl _)) _ _ (Tr.at_.keep (ik d1.grown Taa) _ _ LH.out.tr));have HD:=hid (LH.out.did.trans d1);have iI:=hid (qQ.done LH.out hop);clear d1 hop LH;go_wp2_with (first
    |(refine wpList_load_row rfl 36 (.tmp 7) rfl qx rfl 36 (aL y').toArray (0,0) _ HX.out Tryz.underlying36 rfl aC ?_)
    |(refine wpList_store_row rfl 36 (.tmp 6) (.tmp 16) rfl (w.heap.size+1) (aL y').toArray rfl rfl 36 dz HQ.out aC rfl (cD _) ?_
      have HR:=hid (HQ.out.row (aL y').toArray)))
   refine bodyPost_ret (v:=dA y') (results_cell_row Tryz.results179 _ _ (w.heap.size+1) 36 (aL y').toArray (0,0) _ rfl HR.out Tryz.underlying36 rfl aC) rfl ?_;exact IP aZ Taa HD.out HT.out iI.out
  ·have Mj:i < n:=by have:=(List.getElem?_eq_some_iff.1 hi).1;omega
   have Ay:decide ((i:Int)< 0)=false:=by simp
   have hx1:=d1.blk LH.out.blk Taa;have hc1:=(Bi (d1.blk LH.out.opk hbg) hi).2;have apX:=bY hc1;have HX:=hid hx1;have HC:=hid hc1;have TW:=hid hop;have fw:=hid d1;have hhl:=nP hh;have hll:=LH.out.le;clear hop hi hh d1 hx1 hc1;have F0:∀w' w'',(av w' qx 36 (aL y').toArray/\w'.cell? ⟨b,i*2+1,none⟩=some (.int .u8 o))->af w' w''->(av w'' qx 36 (aL y').toArray/\w''.cell? ⟨b,i*2+1,none⟩=some (.int .u8 o)):=λ w' w'' hh hl=>⟨hh.1.later hl,(hl.cell (bY hh.2)).trans hh.2⟩
   have Bl:=hid F0;clear F0
   cases xk:aO (lv+1) l'.tail with
   | ok x=>
     obtain⟨t2,r2⟩:=x;have Bn:=hid xk;clear xk;go_wp2_with fail;refine Cw (P:=Tryz.prog) (H:=λ W=>av W qx 36 (aL y').toArray/\W.cell? ⟨b,i*2+1,none⟩=some (.int .u8 o)) (val:=dA) (e:=36) (k:=2) (cs:=λ z=>(aL y'++aL z).toArray) (bv:=λ _ s=> .agg #[.int .u8 o,.int .u8 0,.int .i64 0,.string ⟨#[]⟩,.string ⟨#[]⟩,.int .i64 0,s]) (Post:=λ z W W'=>t2.at_ W' (ep W.heap.size W') z/\aU ρ W W' r2 lg dp) (w0:=w1) (s0:=2) (s1:=8) (s2:=7) (s3:=1) (d0:=17) (d1:=18) (d2:=19) (d3:=20) (d4:=21) (d5:=22) (d6:=23) (d7:=24) (d8:=25) (d9:=26) (vs0:=.slice (some ⟨b,0,none⟩) n n) (vs1:=.int .i64 i) (vs2:=.pointer (some ⟨qx,0,none⟩)) (vs3:=.func (.func fb) #[ρ.ptr] #[]) (u0:=.slice (some ⟨b,0,none⟩) n n) (u1:=.int .i64 i) (u2:=.pointer (some ⟨b,i*2,none⟩)) (u3:=.pointer (some ⟨b,i*2+1,none⟩)) (u4:=.int .u8 o) (u5:=dA y') (u6:=.func (.func fb) #[ρ.ptr] #[]) (F:=fb) (args:= #[ρ.ptr]) Tab Tab Tab Tab rfl rfl rfl rfl ⟨HX.out,HC.out⟩ Bl.out ?_ ?_ ?_ ?_ ?_ ?_ ?_ ?_ ?_ ?_ Tab ?_ ?_ ?_
     ·exact ZbX
     ·exact ZbX
     ·intro ρ' w' hH hc h' mV;simp[go_sem,h',mV,Mj]
     ·exact ZbX
     ·exact ZeR
     ·exact Zda
     ·exact ZbX
     ·intro ρ' w' hc h';simp[go_sem,h',hc.const,hc.func,en]
     ·intro ρ' w' z h' mV;simp[go_sem,h',mV,dA,aL]
     ·intro ρ' w' z g0' h' mV;simp[go_sem,h',mV]
     ·rintro z w' w'' ⟨hh1,hh2⟩ ⟨_,dd⟩;exact⟨hh1.grown dd.grown Tad,(cell_of_heap (dd.grown.block b (bY hh2) Tad) _).trans hh2⟩
     ·intro w' hw';refine(HIH.out l'.tail w' Taa (fw.out.at_.later hw')).mono ?_;exact ZcS
     intro z g0 W1 Yl W2 tO ⟨Jy,d2⟩ hl2 hN hg0;have hR:=qQ.round aZ Taa Taa Taa Taa Taa hbg LH.out fw.out tO Jy d2 hl2 hN hg0 TW.out Bn.out;have HR:=hid hR;have IC:=((HX.out.later tO).grown d2.grown Tad).later hl2;have oq:=hid IC;have tS:=(bR (lv+1)).len Bn.out;clear hR IC tO Jy d2 hl2 hN hg0 TW Bl HX HC;simp only[Act.put,Uac];go_wp2_with (first
      |(refine wpList_store_row rfl 36 (.tmp 7) (.tmp 26) rfl qx (aL (rK o g0 2)).toArray rfl rfl 36 (aL y').toArray oq.out aC rfl (cD _) ?_))
     go_roundg (l'.tail.length);case measure=>omega
     case rel=>exact⟨_,_,_,tS,HR.out⟩
   | error m=>
     have Bn:=hid xk;clear xk;go_wp2_with fail;refine tK (P:=Tryz.prog) (H:=λ W=>av W qx 36 (aL y').toArray/\W.cell? ⟨b,i*2+1,none⟩=some (.int .u8 o)) (E:=λ C W=>C=[qH (ρ.placeOf m)]/\w.grownBy W (some ρ.g)) (w0:=w1) (s0:=2) (s1:=8) (s2:=7) (s3:=1) (d0:=17) (d1:=18) (d2:=19) (d3:=20) (d4:=21) (d5:=22) (d6:=23) (d7:=24) (d8:=25) (d9:=26) (vs0:=.slice (some ⟨b,0,none⟩) n n) (vs1:=.int .i64 i) (vs2:=.pointer (some ⟨qx,0,none⟩)) (vs3:=.func (.func fb) #[ρ.ptr] #[]) (u0:=.slice (some ⟨b,0,none⟩) n n) (u1:=.int .i64 i) (u2:=.pointer (some ⟨b,i*2,none⟩)) (u3:=.pointer (some ⟨b,i*2+1,none⟩)) (u4:=.int .u8 o) (u5:=dA y') (u6:=.func (.func fb) #[ρ.ptr] #[]) (F:=fb) (args:= #[ρ.ptr]) Tab Tab Tab Tab rfl rfl rfl rfl ⟨HX.out,HC.out⟩ Bl.out ZbX ZbX ?_ ZbX ZeR Zda ZbX ?_ Tab ?_ ?_
     ·intro ρ' w' hH hc h' mV;simp[go_sem,h',mV,Mj]
     ·intro ρ' w' hc h';simp[go_sem,h',hc.const,hc.func,en]
     ·intro w' hw';refine(HIH.out l'.tail w' Taa (fw.out.at_.later hw')).mono ?_;intro e w'' hp;rcases hp.cases with ⟨t3,r3,v,ay,_⟩|⟨m',au,rfl,hg⟩
      ·rw[Bn.out] at ay;cases ay
      ·rw[Bn.out] at au;injection au with au;subst au;exact⟨_,rfl,rfl,ai ((LH.out.did.trans fw.out).later hw').grown hg⟩
     ·rintro C a W hd ⟨rfl,hg⟩;have hE:=bl (lg:=lg) (dp:=dp) (qQ.fail LH.out TW.out Bn.out) (az (Below.refl _ _)) hg;simp only[Exit.inBlock,Exit.then];exact aj hd hE
theorem ax (s:List UInt8)(l:aF):fY [s] l=must s l:=by
 show(must s >>= λ _=>pure ()) l=must s l;rw[gp]
 cases must s l with
 | error n=>rfl
 | ok x=>rfl
variable{x:Tr}{r1:aF}
theorem UD{b:Bool} (h:aO 4 l=.ok (x,r))(h1:may kH r=.ok (true,r1))(h2:may dT r1=.ok (b,r2)):(∀r3,must bE r2=.ok ((),r3)->qW (aO 4) l=.ok (mB (if b then 19 else 18) [x],r3))/\(∀n,must bE r2=.error n->qW (aO 4) l=.error n):=by unfold qW;rw[ag h,ag h1];simp only[if_true];rw[ag h2];exact⟨λ r3 h3=>by rw[ag h3];rfl,λ n h3=>ak h3⟩
theorem Y8(h:aO 4 l=.ok (x,r))(h1:may kH r=.ok (false,r1)):qW (aO 4) l=wO (aO 4) x r1:=by unfold qW;rw[ag h,ag h1];rfl
structure mz (ρ:bj) (w:World) (lg dp:Bool) (q qx:Nat) (wr:World) (l':aF) (t:Tr) (y:Ex):Prop where
 did:aU ρ w wr l' lg dp
 blk:av wr qx 36 (aL y).toArray
 res:av wr q 36 dz
 tr:t.at_ wr (Bx (q+1) qx wr) y
section
variable {ρ:bj} {w wr w':World} {lg dp:Bool} {q qx:Nat} {l' l2:aF} {t:Tr} {y:Ex}
theorem mz.later (A:mz ρ w lg dp q qx wr l' t y)(h:Below wr.heap.size wr w'):mz ρ w lg dp q qx w' l' t y:=⟨A.did.later h,A.blk.later h,A.res.later h,Tr.at_.keep (gB h) _ _ A.tr⟩
theorem mz.go (A:mz ρ w lg dp q qx wr l' t y)(d:aU ρ wr w' l2 lg dp)(hq:ρ.g < q)(Gd:ρ.g < qx):mz ρ w lg dp q qx w' l2 t y:=⟨A.did.trans d,d.blk A.blk Taa,d.blk A.res Taa,Tr.at_.keep (ik d.grown Taa) _ _ A.tr⟩
end
theorem zdX.KaZ(h:p:=by
 rcases hp.cases with ⟨_,r3,v,ay,rfl,rfl,d5⟩|⟨m,au,rfl,hg⟩
 ·have jx:must bE r1=.ok ((),r3):=by rw[<- ax];exact ay
  have dY:=hid (HC.out.1 r3 jx);have Xy:=aa w5 (.cells (aL y).toArray 36);have UE:=pT.out.go d5 Taa Taa;have Cx:=hid UE;have Y9:=UE.later Xy;have hs6:=UE.blk.lt;have hq6:=UE.res.lt;have hT:=wJ (S:=Bx (w.heap.size+1) qx (w5.alloc (.cells (aL y).toArray 36))) 18 (av.new w5 36 (aL y).toArray) ⟨by omega,by simp,by omega⟩ Y9.tr;have HT:=hid (Tr.at_.keep (jF (Nat.le_refl _)) _ _ hT);have zt:=hid Y9;clear hp ay jx Xy UE Y9 hT pT d5 HC;unfold aL at HT zt Cx;go_wp2_with (first
   |(refine wpList_load_row rfl 36 (.tmp 3) rfl qx rfl 36 (aL y).toArray (0,0) _ Cx.out.blk Tryz.underlying36 rfl aC ?_
     unfold aL)
   |(refine wpList_store_row rfl 36 (.tmp 2) (.tmp 19) rfl w.heap.size (aL (rK 18 w5.heap.size 1)).toArray rfl rfl 36 dz zt.out.res aC rfl (cD _) ?_
     have HR:=hid (zt.out.res.row (aL (rK 18 w5.heap.size 1)).toArray)))
  refine bodyPost_ret (v:=dA (rK 18 w5.heap.size 1)) (results_cell_row Tryz.results222 _ _ w.heap.size 36 (aL (rK 18 w5.heap.size 1)).toArray (0,0) _ rfl HR.out Tryz.underlying36 rfl aC) rfl ?_;exact bM aZ zt.out.did HT.out dY.out
 ·have jx:must bE r1=.error m:=by rw[<- ax];exact au
  exact Zer):p:=h
theorem zdY.KaZ(h:p:=by
 rcases hp.cases with ⟨_,r3,v,ay,rfl,rfl,d5⟩|⟨m,au,rfl,hg⟩
 ·have jx:must bE r1.tail=.ok ((),r3):=by rw[<- ax];exact ay
  have dY:=hid (HC.out.1 r3 jx);have Xy:=aa w5 (.cells (aL y).toArray 36);have UE:=pT.out.go d5 Taa Taa;have Cx:=hid UE;have Y9:=UE.later Xy;have hs6:=UE.blk.lt;have hq6:=UE.res.lt;have hT:=wJ (S:=Bx (w.heap.size+1) qx (w5.alloc (.cells (aL y).toArray 36))) 19 (av.new w5 36 (aL y).toArray) ⟨by omega,by simp,by omega⟩ Y9.tr;have HT:=hid (Tr.at_.keep (jF (Nat.le_refl _)) _ _ hT);have zt:=hid Y9;clear hp ay jx Xy UE Y9 hT pT d5 HC;unfold aL at HT zt Cx;go_wp2_with (first
   |(refine wpList_load_row rfl 36 (.tmp 3) rfl qx rfl 36 (aL y).toArray (0,0) _ Cx.out.blk Tryz.underlying36 rfl aC ?_
     unfold aL)
   |(refine wpList_store_row rfl 36 (.tmp 2) (.tmp 19) rfl w.heap.size (aL (rK 19 w5.heap.size 1)).toArray rfl rfl 36 dz zt.out.res aC rfl (cD _) ?_
     have HR:=hid (zt.out.res.row (aL (rK 19 w5.heap.size 1)).toArray)))
  refine bodyPost_ret (v:=dA (rK 19 w5.heap.size 1)) (results_cell_row Tryz.results222 _ _ w.heap.size 36 (aL (rK 19 w5.heap.size 1)).toArray (0,0) _ rfl HR.out Tryz.underlying36 rfl aC) rfl ?_;exact bM aZ zt.out.did HT.out dY.out
 ·have jx:must bE r1.tail=.error m:=by rw[<- ax];exact au
  exact Zer):p:=h
theorem zhp.Kcp(h:p:=by
 have hm:=IH 4 l _ lg dp Taa Taa (h.later hb);rw[vC];clear h hb;unfold dz at hm hsz;go_enter Tryz.func222,Tryz.ntmps222;go_wp2_with fail;refine hm.mono ?_;clear hm;intro e w2 hp;rcases hp.cases with ⟨t,r,v,ay,rfl,y,rfl,hat,d2⟩|⟨m,au,rfl,hg⟩;case inr=>have HG:=hid HD.out.grown;have HE:=hid au;clear hp HQ HD IH hsz au;go_wp2_with fail;exact aj rfl (bl (ak HE.out) HG.out hg)
 have hs2:w.heap.size+1<=w2.heap.size:=by have:=d2.size;omega
 have hA:mz ρ w lg dp w.heap.size w2.heap.size (w2.alloc (.cells (aL y).toArray 36)) r t y:=
  ⟨(HD.out.trans d2).later (aa _ _),av.new w2 _ _,(d2.blk HQ.out Taa).alloc _,Tr.at_.keep (wI _ Taa) _ _ hat⟩
 have HA:=hid hA;have iI:=hid ay;have tS:=(bR 4).len ay;clear hA hp hat d2 ay HQ HD hsz;unfold dA aL at*;go_upto_region 2 with fail;generalize w2.alloc _=W at*;generalize w2.heap.size=qx at*;have hm:=bk ρ W r lg dp HA.out.did.at_ ⟨#[105,115]⟩;rw[show(⟨#[105,115]⟩:ByteArray).data.toList=kH from rfl] at hm;cases hh:ar kH r
 ·rw[hh,bS hh] at hm;have HNO:=hid (Y8 iI.out (by rw[sB,hh,bS hh]));clear hh;go_wp2_with fail;refine hm.mono ?_;clear hm;rintro e w3 ⟨rfl,d3⟩;have hA3:=(HA.out.go d3 Taa Taa).later (aa w3 (.cells (opsV (opsL 3)) 199));have mf:=hid hA3;have hs3:w.heap.size+1<=w3.heap.size:=by have:=HA.out.did.size;have:=HA.out.blk.lt;have:=d3.size;omega
  have hqo:qx < w3.heap.size:=Nat.lt_of_lt_of_le HA.out.blk.lt d3.size;have HO:=hid (av.new w3 199 (opsV (opsL 3)));rw[show opsV (opsL 3)= #[.string ⟨#[61]⟩,.int .u8 10,.string ⟨#[60,62]⟩,.int .u8 11,.string ⟨#[60]⟩,.int .u8 12,.string ⟨#[60,61]⟩,.int .u8 13,.string ⟨#[62]⟩,.int .u8 14,.string ⟨#[62,61]⟩,.int .u8 15] from rfl] at mf HO;clear hA3 d3 HA;go_upto_region 9 with fail;generalize w3.alloc _=W3 at*;generalize w3.heap.size=ob at*;go_loopw [28] (λ u wr=>∃i:Nat,i<=6/\u=.int .i64 i/\mz ρ w lg dp w.heap.size qx wr r t y/\av wr ob 199 (opsV (opsL 3))/\eE (opsL 3) r=eE ((opsL 3).drop i) r) (λ u _=>6 - (intOf u).toNat);case atStart=>exact⟨0,Nat.zero_le _,rfl,mf.out,HO.out,rfl⟩
  case round=>
   obtain⟨i,hi,rfl,hA4,hO4,hst⟩:=hrel;have pT:=hid hA4;have HO4:=hid hO4;have HS:=hid hst;clear hA4 hO4 hst mf HO;have BO:=pT.out.blk.lt;have how:=HO4.out.lt;by_cases hlt:i < 6
   ·obtain⟨⟨s,o⟩,hs⟩:∃x,(opsL 3)[i]?=some x:=⟨_,getElem?_eq_getElem (show i <(opsL 3).length from hlt)⟩;obtain⟨c0,c1⟩:=Bi HO4.out hs;have BX:=hid (rX hs);clear hs;have Tv:=aa wr (.cells #[.string ⟨s.toArray⟩,.int .u8 o] 199);have HN:=hid (av.new wr 199 #[.string ⟨s.toArray⟩,.int .u8 o]);have zt:=hid (pT.out.later Tv);have HO6:=hid (HO4.out.later Tv);have hm:=bk ρ _ r lg dp (pT.out.did.at_.later Tv) ⟨s.toArray⟩;rw[show(⟨s.toArray⟩:ByteArray).data.toList=s by simp] at hm;clear Tv;cases hh:ar s r
    ·have uS:=hid hh;rw[hh,bS hh] at hm;clear hh;go_wp2_with fail;refine hm.mono ?_;clear hm;rintro e w4 ⟨rfl,d4⟩;go_wp2_with fail;go_roundw;case rel=>exact⟨i+1,by omega,by go_num,zt.out.go d4 Taa Taa,d4.blk HO6.out Taa,by rw[HS.out,BX.out,Nl uS.out]⟩
     case measure=>exact Zcj
    ·have TW:=hid (show eE (opsL 3) r=some o by rw[HS.out,BX.out,IG hh]);have hhl:=nP hh;rw[hh,cg hh] at hm;clear hh;go_wp2_with fail;refine hm.mono ?_;clear hm;rintro e w4 ⟨rfl,d4⟩;have hnw:wr.heap.size≠ρ.g:=by omega
     have zu:=hid (zt.out.go d4 Taa Taa);have HN8:=hid (d4.blk HN.out hnw);have yh:wr.heap.size≠qx:=by omega
     clear zt HO6 HN pT HO4 HS BX d4 c0 c1;generalize wr.heap.size=nb at*;have Bl:=hid (show∀w' w'',(av w' qx 36 (aL y).toArray/\w'.cell? ⟨nb,1,none⟩=some (.int .u8 o))->af w' w''->(av w'' qx 36 (aL y).toArray/\w''.cell? ⟨nb,1,none⟩=some (.int .u8 o))from λ w' w'' hh hl=>⟨hh.1.later hl,(hl.cell (bY hh.2)).trans hh.2⟩);have HC:=hid (show w4.cell? ⟨nb,1,none⟩=some (.int .u8 o)from HN8.out.cell 1)
     cases xk:aO 4 r.tail with
     | ok x=>
       obtain⟨t2,r2⟩:=x;have Bn:=hid xk;have dY:=hid (show qW (aO 4) l=.ok (mB o [t,t2],r2) by rw[HNO.out];unfold wO;rw[TW.out];simp only;rw[ag xk];rfl);clear xk;go_wp2_with fail;refine FK (P:=Tryz.prog) (H:=λ W=>av W qx 36 (aL y).toArray/\W.cell? ⟨nb,1,none⟩=some (.int .u8 o)) (val:=dA) (e:=36) (k:=2) (cs:=λ z=>(aL y++aL z).toArray) (bv:=λ _ s=> .agg #[.int .u8 o,.int .u8 0,.int .i64 0,.string ⟨#[]⟩,.string ⟨#[]⟩,.int .i64 0,s]) (Post:=λ z W W'=>t2.at_ W' (ep W.heap.size W') z/\aU ρ W W' r2 lg dp) (w0:=w4) (s0:=6) (s1:=3) (s2:=0) (d0:=36) (d1:=37) (d2:=38) (d3:=39) (d4:=40) (d5:=41) (d6:=42) (vs0:=.pointer (some ⟨nb,0,none⟩)) (vs1:=.pointer (some ⟨qx,0,none⟩)) (vs2:=ρ.ptr) (u0:=.pointer (some ⟨nb,1,none⟩)) (u1:=.int .u8 o) (u2:=dA y) (u3:=ρ.ptr) (F:=232) (args:= #[ρ.ptr]) Tab Tab Tab Tab rfl rfl rfl ⟨zu.out.blk,HC.out⟩ Bl.out ?_ ?_ ?_ ?_ ?_ ?_ ?_ Tab ?_ ?_ ?_
       ·exact ZbX
       ·exact ZeR
       ·exact Zda
       ·exact ZbX
       ·intro ρ' w' hc h';simp[go_sem,h',hc.const,hc.func]
       ·intro ρ' w' z h' mV;simp[go_sem,h',mV,dA,aL]
       ·intro ρ' w' z g0' h' mV;simp[go_sem,h',mV]
       ·rintro z w' w'' ⟨hh1,hh2⟩ ⟨_,dd⟩;exact⟨hh1.grown dd.grown Tad,(cell_of_heap (dd.grown.block nb (bY hh2) Tad) _).trans hh2⟩
       ·intro w' hw';refine(IH 4 r.tail w' lg dp Taa Taa (zu.out.did.at_.later hw')).mono ?_;exact ZcS
       intro z g0 W1 Yl W2 tO ⟨Jy,d2⟩ hl2 hN hg0;have hA9:=((zu.out.later tO).go d2 Taa Taa).later hl2;have uK:=hN.lt;have hz3:=d2.size;have hz2:w4.heap.size<=W1.heap.size:=tO.size;have hz4:Yl.heap.size<=W2.heap.size:=hl2.size;have hq4:=zu.out.blk.lt;have hQ4:=zu.out.res.lt;have hT:=Kb (S:=Bx (w.heap.size+1) qx W2) o hN ⟨by omega,uK,by omega⟩ hA9.tr (Tr.at_.keep (Mp Taa Taa) _ _ (Jy.later hl2));have HT:=hid (Tr.at_.keep (jF (Nat.le_refl _)) _ _ hT);have eZ:=hid hA9;clear hA9 hT tO Jy d2 hl2 hN hg0 TW Bl HC HN8 zu uK hz3 hz2 hz4;simp only[Act.put,Uac];go_wp2_with (first
        |(refine wpList_store_row rfl 36 (.tmp 2) (.tmp 42) rfl w.heap.size (aL (rK o g0 2)).toArray rfl rfl 36 dz eZ.out.res aC rfl (cD _) ?_
          have HR:=hid (eZ.out.res.row (aL (rK o g0 2)).toArray)))
       refine bodyPost_ret (v:=dA (rK o g0 2)) (results_cell_row Tryz.results222 _ _ w.heap.size 36 (aL (rK o g0 2)).toArray (0,0) _ rfl HR.out Tryz.underlying36 rfl aC) rfl ?_;exact bM aZ eZ.out.did HT.out dY.out
     | error m=>
       have Bn:=hid xk;have dY:=hid (show qW (aO 4) l=.error m by rw[HNO.out];unfold wO;rw[TW.out];simp only;rw[ak xk]);clear xk;go_wp2_with fail;refine uM (P:=Tryz.prog) (H:=λ W=>av W qx 36 (aL y).toArray/\W.cell? ⟨nb,1,none⟩=some (.int .u8 o)) (E:=λ C W=>C=[qH (ρ.placeOf m)]/\w.grownBy W (some ρ.g)) (w0:=w4) (s0:=6) (s1:=3) (s2:=0) (d0:=36) (d1:=37) (d2:=38) (d3:=39) (d4:=40) (d5:=41) (d6:=42) (vs0:=.pointer (some ⟨nb,0,none⟩)) (vs1:=.pointer (some ⟨qx,0,none⟩)) (vs2:=ρ.ptr) (u0:=.pointer (some ⟨nb,1,none⟩)) (u1:=.int .u8 o) (u2:=dA y) (u3:=ρ.ptr) (F:=232) (args:= #[ρ.ptr]) Tab Tab Tab Tab rfl rfl rfl ⟨zu.out.blk,HC.out⟩ Bl.out ZbX ZeR Zda ZbX ?_ Tab ?_ ?_
       ·intro ρ' w' hc h';simp[go_sem,h',hc.const,hc.func]
       ·intro w' hw';refine(IH 4 r.tail w' lg dp Taa Taa (zu.out.did.at_.later hw')).mono ?_;intro e w'' hp;rcases hp.cases with ⟨t3,r3,v,ay,_⟩|⟨m',au,rfl,hg⟩
        ·rw[Bn.out] at ay;cases ay
        ·rw[Bn.out] at au;injection au with au;subst au;exact⟨_,rfl,rfl,ai (zu.out.did.later hw').grown hg⟩
       ·rintro C a W hd ⟨rfl,hg⟩;have hE:=bl (lg:=lg) (dp:=dp) dY.out (az (Below.refl _ _)) hg;simp only[Exit.inBlock,Exit.then];exact aj (P:=Tryz.prog) (fn:=Tryz.f222) hd hE
   ·obtain rfl:i=6:=by omega
    have dY:=hid (show qW (aO 4) l=.ok (t,r) by rw[HNO.out];unfold wO;rw[HS.out];rfl);have HT:=hid (Tr.at_.keep (jF (Nat.le_refl _)) _ _ pT.out.tr);go_wp2_with (first
     |(refine wpList_load_row rfl 36 (.tmp 3) rfl qx rfl 36 (aL y).toArray (0,0) _ pT.out.blk Tryz.underlying36 rfl aC ?_)
     |(refine wpList_store_row rfl 36 (.tmp 2) (.tmp 44) rfl w.heap.size (aL y).toArray rfl rfl 36 dz pT.out.res aC rfl (cD _) ?_
       have HR:=hid (pT.out.res.row (aL y).toArray)))
    refine bodyPost_ret (v:=dA y) (results_cell_row Tryz.results222 _ _ w.heap.size 36 (aL y).toArray (0,0) _ rfl HR.out Tryz.underlying36 rfl aC) rfl ?_;exact bM aZ pT.out.did HT.out dY.out
 ·rw[hh,cg hh] at hm;have HI:=hid (show may kH r=.ok (true,r.tail) by rw[sB,hh,cg hh]);clear hh IH;go_wp2_with fail;refine hm.mono ?_;clear hm;rintro e w3 ⟨rfl,d3⟩;have mf:=hid (HA.out.go d3 Taa Taa);clear HA d3;generalize r.tail=r1 at*;have hm:=bk ρ w3 r1 lg dp mf.out.did.at_ ⟨#[110,111,116]⟩;rw[show(⟨#[110,111,116]⟩:ByteArray).data.toList=dT from rfl] at hm;cases hh:ar dT r1
  ·rw[hh,bS hh] at hm;have HC:=hid (UD iI.out HI.out (show may dT r1=.ok (false,r1) by rw[sB,hh,bS hh]));open zdX in exact ZbD
  ·rw[hh,cg hh] at hm;have HC:=hid (UD iI.out HI.out (show may dT r1=.ok (true,r1.tail) by rw[sB,hh,cg hh]));open zdY in exact ZbD):p:=h
theorem afd (ρ:bj)(w:World)(l:aF)(lg dp:Bool)(h:ρ.fy w l lg dp)(IH:Nj ρ (8*l.length+4)):
  Calls Tryz.prog 222 #[ρ.ptr] w (eR ρ w lg dp (aO 3) l):=by have aZ:=h.mE;have hb:=aa w (.cells dz 36);open zhp in exact Zf5
end Go.Proofs.YtehhdlgjfdnafaaGreatDoor
