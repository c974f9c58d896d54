/- Parts of the proof. -/
import Derived.Test.YtcneefmaghoejaaGreatDoorC8
namespace Go.Proofs.YtcneefmaghoejaaGreatDoor
open Go.Lib (hid)
open Go.ChangeShapes Go.WideShapes Go.ChangeAt Go.RowKit
set_option linter.unusedVariables false
set_option linter.unusedSimpArgs false
def br.uS (ρ:br)(l:bH)(lg dp:Bool):Array Value:= #[.slice (some ⟨ρ.gl,0,none⟩) ρ.n ρ.c,.int .i64 ((ρ.n:Int) - l.length),.bool lg,.bool dp]
structure br.ij (ρ:br) (w:World) (l:bH) (lg dp:Bool):Prop where
 blk:au w ρ.g 60 (ρ.uS l lg dp)
 lt:ρ.gl < ρ.g
 cell:∀k t,ρ.yK[k]?=some t→w.cell? ⟨ρ.gl,k*4,none⟩=some (.int .u8 t.w.k)∧w.cell? ⟨ρ.gl,k*4+1,none⟩=some (.string ⟨t.w.s.toArray⟩)∧w.cell? ⟨ρ.gl,k*4+2,none⟩=some (.int .i64 t.w.n)∧w.cell? ⟨ρ.gl,k*4+3,none⟩=some (.int .i64 t.p)
 of:(aW.good l).of ρ.ws
 small:ρ.n≤5000
 yL:∀t∈ρ.yK,0≤t.w.n∧t.w.n≤9223372036854775807
 env:∃B,B≤ρ.g∧Env B w
section
variable {ρ:br} {w w':World} {l l':bH} {lg dp lg' dp':Bool}
theorem br.ij.later (h:ρ.ij w l lg dp)(hb:Below w.heap.size w w'):ρ.ij w' l lg dp:=
 ⟨h.blk.later hb,h.lt,fun k t hk=>by
   have hl:ρ.gl < w.heap.size:=Nat.lt_trans h.lt h.blk.lt
   have c:=fun o=>hb.cell (p:=⟨ρ.gl,o,none⟩) hl
   obtain⟨h1,h2,h3,h4⟩:=h.cell k t hk
   exact⟨(c _).trans h1,(c _).trans h2,(c _).trans h3,(c _).trans h4⟩,h.of,h.small,h.yL,by obtain⟨B,h1,h2⟩:=h.env;exact⟨B,h1,h2.later hb⟩⟩
theorem br.ij.jt (h:ρ.ij w l lg dp):ρ.g < w.heap.size:=h.blk.lt
theorem br.ij.set (h:ρ.ij w l lg dp)(hw:au w' ρ.g 60 (ρ.uS l' lg' dp'))(hg:w.grownBy w' (some ρ.g))(ho:(aW.good l').of ρ.ws):ρ.ij w' l' lg' dp':=
 ⟨hw,h.lt,fun k t hk=>by
   have hl:ρ.gl < w.heap.size:=Nat.lt_trans h.lt h.blk.lt
   have c:=cell_of_heap (hg.block ρ.gl hl (fun e=>by injection e with e;have:=h.lt;omega))
   obtain⟨h1,h2,h3,h4⟩:=h.cell k t hk
   exact⟨(c _).trans h1,(c _).trans h2,(c _).trans h3,(c _).trans h4⟩,ho,h.small,h.yL,by obtain⟨B,h1,h2⟩:=h.env;exact⟨B,h1,h2.grown hg h1⟩⟩
theorem br.ij.left (h:ρ.ij w l lg dp):0 < l.length∧l.length≤ρ.n:=by have:=aW.EE h.of;simpa [br.ws,br.n,aW.left] using this
theorem br.ij.far {q:Nat}(h:ρ.ij w l lg dp)(hq:ρ.g < q)(i:Nat)(u:Value):ρ.ij (w.setCell ⟨q,i,none⟩ u) l lg dp:=
 ⟨h.blk.far (p:=⟨q,i,none⟩) (by simp;omega) u,h.lt,fun k t hk=>by
   have c:=cell_of_heap (Below.heap_setCell w ⟨q,i,none⟩ u ρ.gl (by have:=h.lt;simp;omega))
   obtain⟨h1,h2,h3,h4⟩:=h.cell k t hk
   exact⟨(c _).trans h1,(c _).trans h2,(c _).trans h3,(c _).trans h4⟩,h.of,h.small,h.yL,by obtain⟨B,h1,h2⟩:=h.env;exact⟨B,h1,h2.grown (cd (aH (Below.refl _ _)) i u) (by omega)⟩⟩
theorem br.ij.next (h:ρ.ij w l lg dp):∃t r,ρ.yK[ρ.n - l.length]?=some t∧l=t.w::r:=by
 obtain⟨h1,h2⟩:=h.left;have hlt:ρ.n - l.length < ρ.yK.length:=by unfold br.n at*;omega
 obtain⟨t,r,hl,hk⟩:=aW.of_next h.of;refine⟨_,r,List.getElem?_eq_getElem hlt,?_⟩;have e:ρ.ws.length - l.length=ρ.n - l.length:=by simp[br.ws,br.n]
 rw[e] at hk;unfold br.ws at hk;rw[List.getElem?_map,List.getElem?_eq_getElem hlt] at hk;simp only[Option.map_some] at hk;injection hk with hk;rw[hk];exact hl
end
structure bJ (ρ:br) (W w':World) (l:bH) (lg dp:Bool):Prop where
 at_:ρ.ij w' l lg dp
 grown:W.grownBy w' (some ρ.g)
section
variable {ρ:br} {W w w':World} {l l':bH} {lg dp lg' dp':Bool}
theorem bJ.refl (h:ρ.ij w l lg dp):bJ ρ w w l lg dp:=⟨h,aH (Below.refl _ _)⟩
theorem bJ.aL (h:ρ.ij w l lg dp)(hb:Below w.heap.size w w'):bJ ρ w w' l lg dp:=⟨h.later hb,aH hb⟩
theorem bJ.later (h:bJ ρ W w l lg dp)(hb:Below w.heap.size w w'):bJ ρ W w' l lg dp:=⟨h.at_.later hb,af h.grown (aH hb)⟩
theorem bJ.trans (h:bJ ρ W w l lg dp)(k:bJ ρ w w' l' lg' dp'):bJ ρ W w' l' lg' dp':=⟨k.at_,af h.grown k.grown⟩
theorem bJ.lt (h:bJ ρ W w l lg dp):ρ.g < w.heap.size:=h.at_.jt
theorem bJ.size (h:bJ ρ W w l lg dp):W.heap.size≤w.heap.size:=h.grown.size
theorem bJ.far {q:Nat}(h:bJ ρ W w l lg dp)(hW:ρ.g < W.heap.size)(hq:W.heap.size≤q)(i:Nat)(u:Value):bJ ρ W (w.setCell ⟨q,i,none⟩ u) l lg dp:=by
 refine⟨h.at_.far (by omega) i u,h.grown.os,h.grown.tape,h.grown.output,?_,fun k hk Wk=>?_⟩
 ·have:(w.setCell ⟨q,i,none⟩ u).heap.size=w.heap.size:=by simp[World.setCell]
  rw[this];exact h.grown.size
 ·rw[Below.heap_setCell w ⟨q,i,none⟩ u k (by simp;omega)];exact h.grown.block k hk Wk
theorem bJ.blk {q:Nat} {t:TypeId} {cs:Array Value}(h:bJ ρ W w l lg dp)(hq:au W q t cs)(hg:q≠ρ.g):au w q t cs:=hq.grown h.grown fun e=>hg (by injection e)
theorem bJ.own {W0:World} {row:Option Nat}(h:bJ ρ W0 w l lg dp)(hg:ρ.g < W0.heap.size)(k:w.grownBy w' row)(hr:∀G,row=some G→W0.heap.size≤G):bJ ρ W0 w' l lg dp:=by
 have hk:∀i,i < w.heap.size→some i≠row→w'.heap[i]?=w.heap[i]?:=k.block;have hne:∀i,i < W0.heap.size→some i≠row:=fun i hi e=>by have:=hr i e.symm;omega
 refine⟨⟨(hk _ h.at_.jt (hne _ hg)).trans h.at_.blk,h.at_.lt,fun i t hi=>?_,h.at_.of,h.at_.small,h.at_.yL,by obtain⟨B,h1,h2⟩:=h.at_.env;exact⟨B,h1,h2.below ⟨k.os,k.tape,k.output,k.size,fun i hi=>hk i (by have:=h2.size;omega) (hne i (by omega))⟩⟩⟩,k.os.trans h.grown.os,k.tape.trans h.grown.tape,k.output.trans h.grown.output,Nat.le_trans h.grown.size k.size,fun i hi hig=>(hk i (Nat.lt_of_lt_of_le hi h.grown.size) (hne i hi)).trans (h.grown.block i hi hig)⟩;have hl:ρ.gl < W0.heap.size:=Nat.lt_trans h.at_.lt hg;have c:=cell_of_heap (hk ρ.gl (Nat.lt_of_lt_of_le hl h.grown.size) (hne _ hl));obtain⟨h1,h2,h3,h4⟩:=h.at_.cell i t hi;exact⟨(c _).trans h1,(c _).trans h2,(c _).trans h3,(c _).trans h4⟩
end
structure Mt (ρ:br) (w:World) (t:Tok) (pl:Nat):Prop where
 c0:w.cell? ⟨ρ.g,0,none⟩=some (.slice (some ⟨ρ.gl,0,none⟩) ρ.n ρ.c)
 c1:w.cell? ⟨ρ.g,1,none⟩=some (.int .i64 pl)
 d0:w.cell? ⟨ρ.gl,pl*4,none⟩=some (.int .u8 t.w.k)
 d1:w.cell? ⟨ρ.gl,pl*4+1,none⟩=some (.string ⟨t.w.s.toArray⟩)
 d2:w.cell? ⟨ρ.gl,pl*4+2,none⟩=some (.int .i64 t.w.n)
 d3:w.cell? ⟨ρ.gl,pl*4+3,none⟩=some (.int .i64 t.p)
theorem Mt.later {ρ:br} {w w':World} {t:Tok} {pl:Nat}(h:Mt ρ w t pl)(hb:Below w.heap.size w w'):Mt ρ w' t pl:=by obtain⟨h0,h1,h3,h4,h5,h6⟩:=h;exact⟨(hb.cell (ay h0)).trans h0,(hb.cell (ay h1)).trans h1,(hb.cell (ay h3)).trans h3,(hb.cell (ay h4)).trans h4,(hb.cell (ay h5)).trans h5,(hb.cell (ay h6)).trans h6⟩
def br.tok (ρ:br)(l:bH):Tok:=(ρ.yK[ρ.n - l.length]?).getD ⟨⟨0,[],0⟩,0⟩
def br.placeOf (ρ:br)(n:Nat):Nat:=((ρ.yK[ρ.n - n]?).map (·.p)).getD 0
theorem br.ij.iB {ρ:br} {w:World} {l:bH} {lg dp:Bool}(h:ρ.ij w l lg dp):∃(t:Tok) (r:bH) (pl:Nat),t=ρ.tok l∧l=t.w::r∧pl < ρ.n∧ρ.n≤5000∧(pl:Int)=(ρ.n:Int) - l.length∧t.p=ρ.placeOf l.length∧0≤t.w.n∧t.w.n≤9223372036854775807∧Mt ρ w t pl:=by
 obtain⟨t,r,ht,hl⟩:=h.next;obtain⟨d0,d1,d2,d3⟩:=h.cell _ t ht;have nD:=h.left;have c0:=h.blk.cell 0;have c1:=h.blk.cell 1;have e:((ρ.n:Int) - l.length)=((ρ.n - l.length:Nat):Int):=by omega
 have hn:=h.yL t (List.mem_of_getElem? ht);refine⟨t,r,ρ.n - l.length,by unfold br.tok;rw[ht];rfl,hl,by omega,h.small,by omega,by unfold br.placeOf;rw[ht];rfl,hn.1,hn.2,c0,?_,d0,d1,d2,d3⟩;rw[c1];show some (Value.int .i64 ((ρ.n:Int) - l.length))=_;rw[e]
theorem br.ij.facts {ρ:br} {w:World} {l:bH} {lg dp:Bool}(h:ρ.ij w l lg dp):
  w.cell? ⟨ρ.g,0,none⟩=some (.slice (some ⟨ρ.gl,0,none⟩) ρ.n ρ.c)∧w.cell? ⟨ρ.g,1,none⟩=some (.int .i64 ((ρ.n:Int) - l.length))∧w.cell? ⟨ρ.g,2,none⟩=some (.bool lg)∧w.cell? ⟨ρ.g,3,none⟩=some (.bool dp)∧
  w.frozen? ⟨ρ.g,1,none⟩=false∧w.frozen? ⟨ρ.g,2,none⟩=false∧w.frozen? ⟨ρ.g,3,none⟩=false:=
 ⟨h.blk.cell 0,h.blk.cell 1,h.blk.cell 2,h.blk.cell 3,h.blk.frozen 1,h.blk.frozen 2,h.blk.frozen 3⟩
theorem tJ:(Tryz.prog.info? 46).map (·.size)=some 4:=by kernel_rfl
set_option maxHeartbeats 4000000
set_option maxRecDepth 100000
theorem iX (ρ:br)(w:World)(l:bH)(lg dp:Bool)(h:ρ.ij w l lg dp):
  Calls Tryz.prog 19 #[ρ.ptr] w fun e w'=>e=.returned (.agg (bT (ρ.tok l)))∧Below w.heap.size w w':=by
 obtain⟨t,r,pl,pQ,hl,hlt,hsm,hpl,zg,mM,mA,hp⟩:=h.iB;have oh:=hp.later (aa w kT);rw[← pQ];have hb:=(aa w (.cells (bT t) 46)).drew;have HT:=(au.new w 46 (bT t)).drew;clear pQ hl h hpl zg mM mA;unfold br.ptr;obtain⟨c0,c1,d0,d1,d2,d3⟩:=hp;obtain⟨y0,y1,z0,z1,z2,z3⟩:=oh;unfold kT at y0 y1 z0 z1 z2 z3;go_enter Tryz.func19,Tryz.ntmps19;go_wp2_with fail;go_region;clear c0 c1 d0 d1 d2 d3 y0 y1 z0 z1 z2 z3;obtain⟨u0,u1,u2,u3,_⟩:=aT HT;have vN:au (w.alloc (.cells #[.int .u8 t.w.k,.string ⟨t.w.s.toArray⟩,.int .i64 t.w.n,.int .i64 t.p] 46)).drew w.heap.size 46 (bT t):=HT;clear HT;unfold bT at u0 u1 u2 u3 hb;generalize (w.alloc _).drew=W at*;go_wp2_with fail;exact bodyPost_ret (v:=.agg (bT t)) (results_cell_row Tryz.results19 _ _ w.heap.size 46 (bT t) (0,0) _ rfl vN Tryz.underlying46 rfl tJ) rfl ⟨rfl,hb⟩
theorem xu (a b c d:Value):(∀w:World,(Instr.field 46 (.agg #[a,b,c,d]) 0).run Tryz.prog w=.ok a w)∧(∀w:World,(Instr.field 46 (.agg #[a,b,c,d]) 1).run Tryz.prog w=.ok b w)∧(∀w:World,(Instr.field 46 (.agg #[a,b,c,d]) 2).run Tryz.prog w=.ok c w)∧(∀w:World,(Instr.field 46 (.agg #[a,b,c,d]) 3).run Tryz.prog w=.ok d w):=⟨fun _=>by kernel_rfl,fun _=>by kernel_rfl,fun _=>by kernel_rfl,fun _=>by kernel_rfl⟩
def qG (p:Nat):PanicEntry:= { v:=.iface 56 (.agg #[.int .i64 p]),recovered:=false }
def gh (ρ:br)(w:World)(n:Nat)(e:Ending)(w':World):Prop:=e=.panicked [qG (ρ.placeOf n)]∧w.grownBy w' (some ρ.g)
theorem kj (ρ:br)(w:World)(l:bH)(lg dp:Bool)(h:ρ.ij w l lg dp):
  Calls Tryz.prog 20 #[ρ.ptr] w (gh ρ w l.length):=by
 obtain⟨t,r,pl,pQ,hl,hlt,hsm,hpl,zg,_,_,hp⟩:=h.iB;have fR:=iX ρ w l lg dp h;rw[← pQ] at fR;unfold gh;rw[← zg];clear pQ hl hpl zg hp;go_enter Tryz.func20,Tryz.ntmps20;go_wp2_with fail;refine fR.mono ?_;rintro e w1 ⟨rfl,b1⟩;unfold bT;have VC:=xu (.int .u8 t.w.k) (.string ⟨t.w.s.toArray⟩) (.int .i64 t.w.n) (.int .i64 t.p);go_wp2_with fail;exact ag rfl ⟨rfl,aH b1⟩
def GP {α:Type}(ρ:br)(W:World)(P:Ps α)(l:bH)(Q:α→bH→Value→World→Prop)(e:Ending)(w':World):Prop:=
 match P l with
 | .ok (x,r)=>∃v,e=.returned v∧Q x r v w'
 | .error n=>gh ρ W n e w'
section
variable {α β:Type} {ρ:br} {W w w':World} {P:Ps α} {l r:bH} {Q:α→bH→Value→World→Prop}
theorem GP.ok {x:α} {v:Value}(h:P l=.ok (x,r))(k:Q x r v w'):GP ρ W P l Q (.returned v) w':=by unfold GP;rw[h];exact⟨v,rfl,k⟩
theorem GP.err {n:Nat} {e:Ending}(h:P l=.error n)(k:gh ρ W n e w'):GP ρ W P l Q e w':=by unfold GP;rw[h];exact k
theorem GP.cases {e:Ending}(h:GP ρ W P l Q e w'):(∃x r v,P l=.ok (x,r)∧e=.returned v∧Q x r v w')∨∃n,P l=.error n∧gh ρ W n e w':=by
 unfold GP at h;cases hp:P l with
 | error n=>rw[hp] at h;exact .inr ⟨n,rfl,h⟩
 | ok y=>obtain⟨x,r⟩:=y;rw[hp] at h;obtain⟨v,h1,h2⟩:=h;exact .inl ⟨x,r,v,rfl,h1,h2⟩
theorem gh.grown {n:Nat} {e:Ending}(h:gh ρ w n e w')(k:W.grownBy w (some ρ.g)):gh ρ W n e w':=⟨h.1,af k h.2⟩
end
theorem Wy (ρ:br)(w:World)(l:bH)(lg dp:Bool)(h:ρ.ij w l lg dp)(s:ByteArray):
  Calls Tryz.prog 43 #[ρ.ptr,.string s] w fun e w'=>e=.returned (.bool (av s.data.toList l))∧Below w.heap.size w w':=by
 obtain⟨t,r,pl,pQ,hl,hlt,hsm,hpl,zg,mM,mA,hp⟩:=h.iB;have fR:=iX ρ w l lg dp h;rw[← pQ] at fR;have hHD:av s.data.toList l=((t.w.k==1 || t.w.k==4)&&(t.w.s==s.toList)):=by rw[hl,← GU];rfl
 have lB:=hid hHD;clear hHD pQ hl hpl zg mM mA hp hlt hsm h;generalize av s.data.toList l=R at*;go_enter Tryz.func43,Tryz.ntmps43;go_wp2_with fail;refine fR.mono ?_;rintro e w1 ⟨rfl,b1⟩;unfold bT;have hb:=fun o=>ah.then b1 (aa w1 o)
 go_wp2_with fail;all_goals
  go_ret;refine⟨fA ?_,hb _⟩;rw[lB.out];generalize (t.w.s==s.toList)=X;cases X <;> rw[Bool.eq_iff_iff] <;> simp <;> omega
def jv (s:List UInt8)(l:bH):bH:=if av s l then l.tail else l
theorem rV (s:List UInt8)(l:bH):may s l=.ok (av s l,jv s l):=by unfold may jv;cases av s l <;> rfl
theorem br.ij.step {ρ:br} {w:World} {l:bH} {t:Wd} {lg dp:Bool}(h:ρ.ij w (t::l) lg dp)(ht:t.k≠0):
  bJ ρ w (w.setCell ⟨ρ.g,1,none⟩ (.int .i64 ((ρ.n:Int) - l.length))) l lg dp:=by
 have hB:=au.cg h.blk 1 (.int .i64 ((ρ.n:Int) - l.length));refine⟨h.set hB (cd (aH (Below.refl _ _)) 1 _) ⟨?_,h.of.2.tail ht⟩,cd (aH (Below.refl _ _)) 1 _⟩;exact(List.suffix_cons _ _).trans h.of.1
theorem bX (ρ:br)(w:World)(l:bH)(lg dp:Bool)(h:ρ.ij w l lg dp)(s:ByteArray):
  Calls Tryz.prog 18 #[ρ.ptr,.string s] w fun e w'=>e=.returned (.bool (av s.data.toList l))∧bJ ρ w w' (jv s.data.toList l) lg dp:=by
 have hw:=Wy ρ w l lg dp h s;have vV:ρ.ptr=.pointer (some ⟨ρ.g,0,none⟩):=rfl;cases hh:av s.data.toList l
 ·rw[hh] at hw;rw[show jv s.data.toList l=l by unfold jv;rw[hh];rfl];have HH:=hid h;clear h hh;go_enter Tryz.func18,Tryz.ntmps18;go_wp2_with fail;refine hw.mono ?_;rintro e w1 ⟨rfl,b1⟩;go_wp2_with fail;go_ret;exact⟨rfl,bJ.aL HH.out b1⟩
 ·rw[hh] at hw;obtain⟨t,r,rfl,ht⟩:=fP hh;rw[show jv s.data.toList (t::r)=r by unfold jv;rw[hh];rfl];have HH:=hid h;have HK:=hid (vI ht);have hsm:=h.small;clear ht hh h;go_enter Tryz.func18,Tryz.ntmps18;go_wp2_with fail;refine hw.mono ?_;rintro e w1 ⟨rfl,b1⟩;obtain⟨c0,c1,c2,c3,f1,f2,f3⟩:=(HH.out.later b1).facts;have nD:=(HH.out.later b1).left;have e1:(ρ.n:Int) - ((r.length:Int)+1)+1=(ρ.n:Int) - r.length:=by omega
  simp only[List.length_cons] at nD;rw[vV];go_wp2_with fail;go_ret;have hd:=br.ij.step (HH.out.later b1) HK.out;exact⟨rfl,(bJ.aL HH.out b1).trans hd⟩
def aj (ks:List (List UInt8)):Array Value:=(ks.map strOf).toArray
theorem lp {w:World} {b:Nat} {ks:List (List UInt8)}(h:au w b 9 (aj ks)) {i:Nat} {s:List UInt8}(hi:ks[i]?=some s):w.cell? ⟨b,i,none⟩=some (.string ⟨s.toArray⟩):=by rw[h.cell i];simp[aj,hi,strOf]
theorem pR {α:Type} {l:List α} {i:Nat} {x:α}(h:l[i]?=some x):l.drop i=x::l.drop (i+1):=by obtain⟨hlt,he⟩:=List.getElem?_eq_some_iff.1 h;rw[List.drop_eq_getElem_cons hlt,he]
theorem Ao (ks:List (List UInt8))(n:Nat):ae (gF ks) (.bad n)=.bad n:=rfl
theorem bk (ρ:br)(w:World)(σ:aW)(big:Bool)(h:ρ.at w σ big)(ks:List (List UInt8))(b n:Nat)(hn:ks.length=n)(hb:au w b 9 (aj ks))(hbg:ρ.g≠b)(hsm:n≤10):
  Calls Tryz.prog 51 #[ρ.ptr,.slice (some ⟨b,0,none⟩) n n] w (GV ρ w (ae (gF ks) σ) big):=by
 have HH:=hid h;have HB:=hid hb;clear h hb;go_enter Tryz.func51,Tryz.ntmps51;go_wp2_with fail;go_loopw [4] (fun u wr=>∃(i:Nat) (bU:aW),i≤n∧u=.int .i64 i∧dV ρ w wr bU big∧ae (gF ks) σ=ae (gF (ks.drop i)) bU) (fun u _=>n - (intOf u).toNat);case atStart=>exact⟨0,σ,Nat.zero_le _,rfl,dV.refl HH.out,rfl⟩
 case round=>
  obtain⟨i,bU,hi,rfl,hD,hst⟩:=hrel;have HD:=hid hD;have HS:=hid hst;clear hD hst;by_cases hlt:i < n
  ·obtain⟨s,hs⟩:∃s,ks[i]?=some s:=⟨_,List.getElem?_eq_getElem (by omega)⟩;have hc:=lp (HD.out.blk HB.out (fun e=>hbg e.symm)) hs;have ya:=hid (pR hs);clear hs;have hm:=dL ρ wr bU big HD.out.at_ ⟨s.toArray⟩;cases hh:bU.head s
   ·have lB:=hid hh;rw[show bU.head (⟨s.toArray⟩:ByteArray).data.toList=false from hh,aG (s:=(⟨s.toArray⟩:ByteArray).data.toList) hh] at hm;clear hh;go_wp2_with (first
     |(go_at_call 23;refine hm.mono ?_;rintro e w1 ⟨rfl,d1⟩)
     |(go_at_call 24;refine(jT ρ _ _ big d1.at_).mono ?_;rintro e w2 ⟨rfl,d2⟩))
    go_end0;refine⟨rfl,?_⟩;rw[HS.out,ya.out,uR,yM lB.out,Ao];exact HD.out.trans (d1.trans d2)
   ·have lB:=hid hh;rw[show bU.head (⟨s.toArray⟩:ByteArray).data.toList=true from hh,aP (s:=(⟨s.toArray⟩:ByteArray).data.toList) hh] at hm;clear hh;go_wp2_with (first
     |(go_at_call 23;refine hm.mono ?_;rintro e w1 ⟨rfl,d1⟩))
    go_roundw;case rel=>refine⟨i+1,_,by omega,by go_num,HD.out.trans d1,?_⟩;rw[HS.out,ya.out,uR,og lB.out]
    case measure=>simp[intOf];omega
  ·obtain rfl:i=n:=by omega
   have hd:ks.drop i=[]:=List.drop_eq_nil_of_le (by omega);rw[hd] at HS;go_wp2_with fail;go_end0;refine⟨rfl,?_⟩;rw[HS.out,rT];exact HD.out
theorem gV (ρ:br)(w:World)(σ:aW)(big:Bool)(h:ρ.at w σ big)(ks:List (List UInt8))(b n:Nat)(hn:ks.length=n)(hb:au w b 9 (aj ks))(hbg:ρ.g≠b)(hsm:n≤10):
  Calls Tryz.prog 48 #[ρ.ptr,.slice (some ⟨b,0,none⟩) n n] w fun e w'=>e=.returned (strOf (σ.one ks))∧dV ρ w w' (ae (dC ks) σ) big:=by
 have HH:=hid h;have HB:=hid hb;clear h hb;go_enter Tryz.func48,Tryz.ntmps48;go_wp2_with fail;go_loopw [5] (fun u wr=>∃(i:Nat),i≤n∧u=.int .i64 i∧dV ρ w wr σ big∧ae (dC ks) σ=ae (dC (ks.drop i)) σ∧σ.one ks=σ.one (ks.drop i)) (fun u _=>n - (intOf u).toNat);case atStart=>exact⟨0,Nat.zero_le _,rfl,dV.refl HH.out,rfl,rfl⟩
 case round=>
  obtain⟨i,hi,rfl,hD,hst,hon⟩:=hrel;have HD:=hid hD;have HS:=hid hst;have HO:=hid hon;clear hD hst hon;by_cases hlt:i < n
  ·obtain⟨s,hs⟩:∃s,ks[i]?=some s:=⟨_,List.getElem?_eq_getElem (by omega)⟩;have hc:=lp (HD.out.blk HB.out (fun e=>hbg e.symm)) hs;have ya:=hid (pR hs);have U8:=hid hs;clear hs;have hm:=dL ρ wr σ big HD.out.at_ ⟨s.toArray⟩;cases hh:σ.head s
   ·have lB:=hid hh;rw[show σ.head (⟨s.toArray⟩:ByteArray).data.toList=false from hh,aG (s:=(⟨s.toArray⟩:ByteArray).data.toList) hh] at hm;clear hh;go_wp2_with (first
     |(go_at_call 23;refine hm.mono ?_;rintro e w1 ⟨rfl,d1⟩))
    go_roundw;case rel=>
     refine⟨i+1,by omega,by go_num,HD.out.trans d1,?_,?_⟩
     ·rw[HS.out,ya.out,Am,lB.out];rfl
     ·rw[HO.out,ya.out];show(if σ.head s then s else σ.one (ks.drop (i+1)))=_;rw[lB.out];rfl
    case measure=>simp[intOf];omega
   ·have lB:=hid hh;rw[show σ.head (⟨s.toArray⟩:ByteArray).data.toList=true from hh,aP (s:=(⟨s.toArray⟩:ByteArray).data.toList) hh] at hm;clear hh;go_wp2_with (first
     |(go_at_call 23;refine hm.mono ?_;rintro e w1 ⟨rfl,d1⟩;have hc2:=lp ((HD.out.trans d1).blk HB.out (fun e=>hbg e.symm)) U8.out))
    go_ret;have e1:σ.one ks=s:=by rw[HO.out,ya.out];show(if σ.head s then s else σ.one (ks.drop (i+1)))=_;rw[lB.out];rfl
    refine⟨?_,?_⟩
    ·rw[e1];rfl
    ·rw[HS.out,ya.out,Am,lB.out];exact HD.out.trans d1
  ·obtain rfl:i=n:=by omega
   have hd:ks.drop i=[]:=List.drop_eq_nil_of_le (by omega);rw[hd] at HS HO;go_wp2_with (first
    |(go_at_call 24;refine(jT ρ _ _ big HD.out.at_).mono ?_;rintro e w2 ⟨rfl,d2⟩))
   go_ret;refine⟨?_,?_⟩
   ·rw[HO.out];rfl
   ·rw[HS.out,vT];exact HD.out.trans d2
theorem nN (ρ:br)(w:World)(σ:aW)(big:Bool)(h:ρ.at w σ big)(n:Nat)(hn:n≤1000000):
  Calls Tryz.prog 53 #[ρ.ptr,.int .i64 n] w fun e w'=>e=.returned (.bool (σ.head ax))∧dV ρ w w' (ae (may ax) σ) (big || decide (64 < n)):=by
 have vV:ρ.ptr=.pointer (some ⟨ρ.g,0,none⟩):=rfl;obtain⟨c0,c1,c2,c3,f1,f2,f3⟩:=h.facts;by_cases h64:64 < n
 ·have hB:=au.cg h.blk 3 (.bool true);have hg:w.grownBy (w.setCell ⟨ρ.g,3,none⟩ (.bool true)) (some ρ.g):=cd (aH (Below.refl _ _)) 3 _;have hat:ρ.at (w.setCell ⟨ρ.g,3,none⟩ (.bool true)) σ true:=h.set hB hg h.of;have hm:=dL ρ _ σ true hat ⟨#[44]⟩;have e1:(big || decide (64 < n))=true:=by simp[h64]
  have hn:(64:Int)< n:=by omega
  rw[e1];clear h hat hB e1;unfold br.ptr at*;go_enter Tryz.func53,Tryz.ntmps53;go_wp2_with (first
   |(go_at_call 23;refine hm.mono ?_;rintro e w1 ⟨rfl,d1⟩))
  go_ret;exact⟨rfl,⟨d1.at_,af hg d1.grown⟩⟩
 ·have hm:=dL ρ _ σ big h ⟨#[44]⟩;have e1:(big || decide (64 < n))=big:=by simp[h64]
  have hn:¬(64:Int)< n:=by omega
  rw[e1];clear h e1;unfold br.ptr at*;go_enter Tryz.func53,Tryz.ntmps53;go_wp2_with (first
   |(go_at_call 23;refine hm.mono ?_;rintro e w1 ⟨rfl,d1⟩))
  go_ret;exact⟨rfl,d1⟩
def Kk:Ps Wd
 | []=> .error 0
 | t::r=>if t.k=2 then .ok (t,r)else .error (t::r).length
theorem Ov (ρ:br)(w:World)(l:bH)(lg dp:Bool)(h:ρ.ij w l lg dp):
  Calls Tryz.prog 103 #[ρ.ptr,.int .u8 2] w (GP ρ w Kk l fun t r v w'=>v=.agg (bT (ρ.tok l))∧t=(ρ.tok l).w∧(0≤t.n∧t.n≤9223372036854775807)∧bJ ρ w w' r lg dp):=by
 obtain⟨t,r,pl,pQ,hl,hlt,hsm,hpl,zg,mM,mA,hp⟩:=h.iB;have h0:=h.later (aa w kT);have hb0:=aa w kT;have fR:=iX ρ _ l lg dp h0;have nD:=h.left;have aF:=h.jt;have HH:=hid h;rw[← pQ] at fR ⊢;have HL:=hid hl;unfold kT at fR hb0;clear pQ hpl zg hp hlt h h0 hl;have aaF:=hid fR;clear fR;by_cases hk:t.w.k=2
 ·have HK:=hid hk;have g1:((t.w.k:Int) != 2)=false:=by simp;omega
  clear hk;go_enter Tryz.func103,Tryz.ntmps103;go_wp2_with fail;refine aaF.out.mono ?_;rintro e w1 ⟨rfl,b1⟩;have hZ:=au.new w 46 #[.int .u8 0,.string ⟨#[]⟩,.int .i64 0,.int .i64 0];have HZ:=hid ((hZ.later b1).alloc (.cells (bT t) 46));have HT:=hid (au.new w1 46 (bT t));have hg1:ρ.g < w1.heap.size:=Nat.lt_of_lt_of_le aF (Nat.le_trans (by simp) b1.size);have hg2:w.heap.size < w1.heap.size:=Nat.lt_of_lt_of_le (by simp) b1.size;have hb:=ah.then (ah.then hb0 b1) (aa w1 (.cells (bT t) 46))
  have HB:=hid hb;have HW:=hid (HH.out.later hb);obtain⟨c0,c1,c2,c3,f1,f2,f3⟩:=(HH.out.later hb).facts;obtain⟨u0,u1,u2,u3,v0,v1,v2,v3⟩:=aT HT.out;have e1:(ρ.n:Int) - ((r.length:Int)+1)+1=(ρ.n:Int) - r.length:=by omega
  rw[show(l.length:Int)=(r.length:Int)+1 by rw[HL.out];rfl] at c1;clear hZ hb b1 hb0;have oI:r.length+1≤ρ.n:=by have:=HL.out;rw[this] at nD;simpa using nD.2
  have hstep:=br.ij.step (t:=t.w) (l:=r) (by have:=HW.out;rw[HL.out] at this;exact this) (by have:=HK.out;omega);have vN:=HT.out.far (p:=⟨ρ.g,1,none⟩) (by simp;omega) (.int .i64 ((ρ.n:Int) - r.length));have Ga:=HZ.out.far (p:=⟨ρ.g,1,none⟩) (by simp;omega) (.int .i64 ((ρ.n:Int) - r.length));have HT3:=hid vN;have Gb:=hid Ga;have jL:=hid ((bJ.aL HH.out HB.out).trans hstep);clear HT HZ vN Ga hstep HW HH nD;unfold bT at*;unfold br.ptr;go_upto_region 2 with fail
  generalize (w1.alloc _)=W1 at*;go_upto_region 5 with fail
  refine wp_region_lit ?_;refine wpList_load_row rfl 46 (.tmp 5) rfl w1.heap.size rfl 46 (bT t) (0,0) _ HT3.out Tryz.underlying46 rfl tJ ?_;refine wpList_store_row rfl 46 (.tmp 4) (.tmp 21) rfl w.heap.size (bT t) rfl rfl 46 #[.int .u8 0,.string ⟨#[]⟩,.int .i64 0,.int .i64 0] Gb.out tJ rfl (by simp[bT,Value.oneCell']) ?_;refine wpList_nil ?_;have HR:=Gb.out.row (bT t);have HDF:=jL.out.own aF (dH _ w.heap.size (bT t)) (fun G e=>by injection e with e;omega);have xt:=hid HR;have afo:=hid HDF;clear HR HDF HT3 Gb jL HB c0 c1 c2 c3 f1 f2 f3 u0 u1 u2 u3 v0 v1 v2 v3;generalize (World.setRow _ w.heap.size (bT t))=WF at*;go_wp2_with fail;refine bodyPost_ret (v:=.agg (bT t)) (results_cell_row Tryz.results103 _ _ w.heap.size 46 (bT t) (0,0) _ rfl xt.out Tryz.underlying46 rfl tJ) rfl ?_;refine GP.ok (x:=t.w) (r:=r) ?_ ⟨rfl,rfl,⟨mM,mA⟩,afo.out⟩;rw[HL.out];simp only[Kk,if_pos HK.out]
 ·have g1:((t.w.k:Int) != 2)=true:=by simp;omega
  have HK:=hid hk;clear hk;go_enter Tryz.func103,Tryz.ntmps103;go_wp2_with fail;refine aaF.out.mono ?_;rintro e w1 ⟨rfl,b1⟩;have hb:=ah.then (ah.then hb0 b1) (aa w1 (.cells (bT t) 46))
  have hf:=kj ρ _ l lg dp (HH.out.later hb);have HB:=hid hb;unfold bT at*;clear hb b1 hb0;go_wp2_with fail;refine hf.mono ?_;rintro e w2 ⟨rfl,hg2⟩;go_wp2_with fail;refine ag rfl ?_;refine GP.err (n:=l.length) ?_ ⟨rfl,af (aH HB.out) hg2⟩;rw[HL.out];simp only[Kk,if_neg HK.out]
theorem Wz {l r:bH} {t:Wd}(h:Kk l=.ok (t,r)):cY l=.ok (t.n,r):=by
 match l with
 | []=>cases h
 | x::q=>
   simp only[Kk,cY] at h ⊢;split at h
   ·rename_i hk;injection h with h;injection h with h1 h2;subst h1;subst h2;rw[if_pos hk]
   ·cases h
theorem RR {l:bH} {n:Nat}(h:Kk l=.error n):cY l=.error n:=by
 match l with
 | []=>injection h with h;rw[← h];rfl
 | x::q=>
   simp only[Kk,cY] at h ⊢;split at h
   ·cases h
   ·rename_i hk;rw[if_neg hk];injection h with h;rw[h]
theorem fj (ρ:br)(w:World)(l:bH)(lg dp:Bool)(h:ρ.ij w l lg dp):
  Calls Tryz.prog 74 #[ρ.ptr] w (GP ρ w cY l fun n r v w'=>v=.int .i64 n∧(0≤n∧n≤9223372036854775807)∧bJ ρ w w' r lg dp):=by
 have hk:=Ov ρ w l lg dp h;go_enter Tryz.func74,Tryz.ntmps74;go_wp2_with fail;refine hk.mono ?_;clear hk;intro e w1 hp;rcases hp.cases with ⟨t,r,v,aO,rfl,rfl,ht,hn,d1⟩|⟨n,ar,rfl,hg⟩
 ·have HT:=hid ht;clear ht hp;generalize ρ.tok l=tk at*;have VC:=xu (.int .u8 tk.w.k) (.string ⟨tk.w.s.toArray⟩) (.int .i64 tk.w.n) (.int .i64 tk.p);unfold bT;go_wp2_with fail;go_ret;exact GP.ok (Wz aO) ⟨by rw[HT.out];rfl,hn,d1⟩
 ·clear hp;go_wp2_with fail;exact ag rfl (GP.err (RR ar) ⟨rfl,hg⟩)
theorem fg (ρ:br)(w:World)(l:bH)(lg dp:Bool)(h:ρ.ij w l lg dp):
  Calls Tryz.prog 69 #[ρ.ptr] w (GP ρ w aN l fun x r v w'=>v=.string x∧bJ ρ w w' r lg dp):=by
 obtain⟨t,r,pl,pQ,hl,hlt,hsm,hpl,zg,mM,mA,hp⟩:=h.iB;have fR:=iX ρ w l lg dp h;have nD:=h.left;have aF:=h.jt;have HH:=hid h;rw[← pQ] at fR;have HL:=hid hl;have oI:r.length+1≤ρ.n:=by have:=nD.2;rw[hl] at this;simpa using this
 have Ow:=hid (show(l.length:Int)=(r.length:Int)+1 by rw[hl];rfl);clear pQ hpl zg hp hlt h hl nD;go_enter Tryz.func69,Tryz.ntmps69;go_wp2_with fail;refine fR.mono ?_;clear fR;rintro e w1 ⟨rfl,b1⟩;have HT:=hid (au.new w1 46 (bT t));have hg1:ρ.g < w1.heap.size:=Nat.lt_of_lt_of_le aF b1.size;have HB:=hid (ah.then b1 (aa w1 (.cells (bT t) 46)));clear b1;unfold bT at*;go_upto_region 2 with fail
 generalize (w1.alloc _)=W1 at*;obtain⟨u0,u1,u2,u3,v0,v1,v2,v3⟩:=aT HT.out;have HW:=hid (HH.out.later HB.out);have hres:=fun B hE=>EP (B:=B) ⟨t.w.s.toArray⟩ W1 hE
 obtain⟨B,hB,hE⟩:=HW.out.env;have hres:=hres B hE;have fE:(⟨t.w.s.toArray⟩:ByteArray).data.toList=t.w.s:=by simp
 rw[fE] at hres;have HE:=hid hE;have Ap:=kj ρ W1 l lg dp HW.out;have e1:(ρ.n:Int) - ((r.length:Int)+1)+1=(ρ.n:Int) - r.length:=by omega
 clear hE hB fE;by_cases hk:t.w.k=1
 ·have HK:=hid hk;have g1:((t.w.k:Int) != 1)=false:=by simp;omega
  clear hk;cases hr:vC t.w.s
  ·rw[hr] at hres;have HR:=hid hr;clear hr Ap;go_wp2_with fail;refine hres.mono ?_;clear hres;rintro e w2 ⟨rfl,b2⟩;obtain⟨c0,c1,c2,c3,f1,f2,f3⟩:=(HW.out.later b2).facts;rw[Ow.out] at c1;have hT2:=(HT.out.later b2).far (p:=⟨ρ.g,1,none⟩) (by simp;omega) (.int .i64 ((ρ.n:Int) - r.length));have z1:=hT2.cell 1;have hst:=br.ij.step (t:=t.w) (l:=r) (by have:=HW.out.later b2;rw[HL.out] at this;exact this) (by have:=HK.out;omega);have HD:=hid ((bJ.aL HH.out (ah.then HB.out b2)).trans hst);simp only[List.getElem?_toArray,List.getElem?_cons_zero,List.getElem?_cons_succ] at z1;clear hT2 hst b2 HW HT u0 u1 u2 u3 v0 v1 v2 v3;unfold br.ptr;go_wp2_with fail;go_ret;refine GP.ok (x:=⟨t.w.s.toArray⟩) (r:=r) ?_ ⟨rfl,HD.out⟩;rw[HL.out];simp only[aN,HK.out,HR.out,and_self,if_true]
  ·rw[hr] at hres;have HR:=hid hr;clear hr Ap;go_wp2_with fail;refine hres.mono ?_;clear hres;rintro e w2 ⟨rfl,b2⟩;have hf:=kj ρ w2 l lg dp (HW.out.later b2);have zh:=hid (ah.then HB.out b2);clear b2;go_wp2_with fail;refine hf.mono ?_;rintro e w3 ⟨rfl,hg2⟩;go_wp2_with fail;refine ag rfl ?_;refine GP.err (n:=l.length) ?_ ⟨rfl,af (aH zh.out) hg2⟩;rw[HL.out];simp only[aN,HK.out,HR.out];rfl
 ·have HK:=hid hk;have g1:((t.w.k:Int) != 1)=true:=by simp;omega
  clear hk hres;go_wp2_with fail;refine Ap.mono ?_;rintro e w3 ⟨rfl,hg2⟩;go_wp2_with fail;refine ag rfl ?_;refine GP.err (n:=l.length) ?_ ⟨rfl,af (aH HB.out) hg2⟩;rw[HL.out];simp only[aN];rw[if_neg (by intro hh;exact HK.out hh.1)]
theorem EU {s:List UInt8} {ks:List (List UInt8)} {l:bH}(h:av s l=false):dC (s::ks) l=dC ks l:=by simp only[dC,h];rfl
theorem zi {s:List UInt8} {ks:List (List UInt8)} {l:bH}(h:av s l=true):dC (s::ks) l=.ok (s,l.tail):=by simp only[dC,h,if_true]
theorem dm {s:List UInt8} {l:bH}(h:av s l=false):jv s l=l:=by unfold jv;rw[h];rfl
theorem dy {s:List UInt8} {l:bH}(h:av s l=true):jv s l=l.tail:=by unfold jv;rw[h];rfl
theorem pS (ρ:br)(w:World)(l:bH)(lg dp:Bool)(h:ρ.ij w l lg dp)(ks:List (List UInt8))(b n:Nat)(hn:ks.length=n)(hb:au w b 9 (aj ks))(hbg:ρ.g≠b)(hsm:n≤10):
  Calls Tryz.prog 68 #[ρ.ptr,.slice (some ⟨b,0,none⟩) n n] w (GP ρ w (dC ks) l fun s r v w'=>v=strOf s∧bJ ρ w w' r lg dp):=by
 have HH:=hid h;have HB:=hid hb;clear h hb;go_enter Tryz.func68,Tryz.ntmps68;go_wp2_with fail;go_loopw [9] (fun u wr=>∃(i:Nat),i≤n∧u=.int .i64 i∧bJ ρ w wr l lg dp∧dC ks l=dC (ks.drop i) l) (fun u _=>n - (intOf u).toNat);case atStart=>exact⟨0,Nat.zero_le _,rfl,bJ.refl HH.out,rfl⟩
 case round=>
  obtain⟨i,hi,rfl,hD,hst⟩:=hrel;have HD:=hid hD;have HS:=hid hst;clear hD hst;by_cases hlt:i < n
  ·obtain⟨s,hs⟩:∃s,ks[i]?=some s:=⟨_,List.getElem?_eq_getElem (by omega)⟩;have hc:=lp (HD.out.blk HB.out (fun e=>hbg e.symm)) hs;have ya:=hid (pR hs);clear hs;have hm:=bX ρ wr l lg dp HD.out.at_ ⟨s.toArray⟩;rw[show(⟨s.toArray⟩:ByteArray).data.toList=s by simp] at hm;cases hh:av s l
   ·have lB:=hid hh;rw[hh,dm hh] at hm;clear hh;go_wp2_with fail;refine hm.mono ?_;clear hm;rintro e w1 ⟨rfl,d1⟩;go_wp2_with fail;go_roundw;case rel=>exact⟨i+1,by omega,by go_num,HD.out.trans d1,by rw[HS.out,ya.out,EU lB.out]⟩
    case measure=>simp[intOf];omega
   ·have lB:=hid hh;rw[hh,dy hh] at hm;clear hh;go_wp2_with fail;refine hm.mono ?_;clear hm;rintro e w1 ⟨rfl,d1⟩;go_wp2_with fail;go_ret;exact GP.ok (by rw[HS.out,ya.out,zi lB.out]) ⟨rfl,HD.out.trans d1⟩
  ·obtain rfl:i=n:=by omega
   have ya:=hid (show ks.drop i=[] from List.drop_eq_nil_of_le (by omega));have hf:=kj ρ wr l lg dp HD.out.at_;go_wp2_with fail;refine hf.mono ?_;clear hf;rintro e w1 ⟨rfl,hg2⟩;go_wp2_with fail;exact ag rfl (GP.err (n:=l.length) (by rw[HS.out,ya.out];rfl) ⟨rfl,af HD.out.grown hg2⟩)
theorem RS {s:List UInt8} {l:bH}(h:av s l=true):must s l=.ok ((),l.tail):=by simp only[must,h,if_true]
theorem WA {s:List UInt8} {l:bH}(h:av s l=false):must s l=.error l.length:=by simp only[must,h];rfl
theorem RT {s:List UInt8} {l r:bH} {x:List UInt8}(h:dC [s] l=.ok (x,r)):must s l=.ok ((),r):=by
 cases hh:av s l
 ·rw[EU hh] at h;cases h
 ·rw[zi hh] at h;injection h with h;injection h with h1 h2;rw[RS hh,h2]
theorem EW {s:List UInt8} {l:bH} {n:Nat}(h:dC [s] l=.error n):must s l=.error n:=by
 cases hh:av s l
 ·rw[EU hh] at h;injection h with h;rw[WA hh,h]
 ·rw[zi hh] at h;cases h
theorem bF (ρ:br)(w:World)(l:bH)(lg dp:Bool)(h:ρ.ij w l lg dp)(ks:List (List UInt8))(b n:Nat)(hn:ks.length=n)(hb:au w b 9 (aj ks))(hbg:ρ.g≠b)(hsm:n≤10):
  Calls Tryz.prog 67 #[ρ.ptr,.slice (some ⟨b,0,none⟩) n n] w (GP ρ w (gF ks) l fun s r v w'=>v=.tuple #[]∧bJ ρ w w' r lg dp):=by
 have HH:=hid h;have HB:=hid hb;clear h hb;go_enter Tryz.func67,Tryz.ntmps67;go_wp2_with fail;go_loopw [8] (fun u wr=>∃(i:Nat) (l':bH),i≤n∧u=.int .i64 i∧bJ ρ w wr l' lg dp∧gF ks l=gF (ks.drop i) l') (fun u _=>n - (intOf u).toNat);case atStart=>exact⟨0,l,Nat.zero_le _,rfl,bJ.refl HH.out,rfl⟩
 case round=>
  obtain⟨i,l',hi,rfl,hD,hst⟩:=hrel;have HD:=hid hD;have HS:=hid hst;clear hD hst;by_cases hlt:i < n
  ·obtain⟨s,hs⟩:∃s,ks[i]?=some s:=⟨_,List.getElem?_eq_getElem (by omega)⟩;have hc:=lp (HD.out.blk HB.out (fun e=>hbg e.symm)) hs;have ya:=hid (pR hs);clear hs;have hb1:=aa wr (.cells (aj [s]) 9);have hm:=pS ρ _ l' lg dp (HD.out.at_.later hb1) [s] wr.heap.size 1 rfl (au.new wr _ _) (by have:=HD.out.lt;omega) (by omega);have ry:=hid hb1;clear hb1;unfold aj strOf at hm;simp only[List.map_cons,List.map_nil] at hm;go_wp2_with fail;refine hm.mono ?_;clear hm;intro e w1 hp;rcases hp.cases with ⟨x,r,v,aO,rfl,rfl,d1⟩|⟨m,ar,rfl,hg⟩
   ·clear hp;go_wp2_with fail;go_roundw;case rel=>exact⟨i+1,r,by omega,by go_num,(HD.out.later ry.out).trans d1,by rw[HS.out,ya.out];exact ak (RT aO)⟩
    case measure=>simp[intOf];omega
   ·clear hp;go_wp2_with fail;exact ag rfl (GP.err (n:=m) (by rw[HS.out,ya.out];exact ai (EW ar)) ⟨rfl,af (HD.out.later ry.out).grown hg⟩)
  ·obtain rfl:i=n:=by omega
   have hd:ks.drop i=[]:=List.drop_eq_nil_of_le (by omega);rw[hd] at HS;go_wp2_with fail;go_end0;exact GP.ok HS.out ⟨rfl,HD.out⟩
def gq (ρ:br)(W:World)(lg dp:Bool)(P:Ps Tr)(l:bH)(e:Ending)(w':World):Prop:=
 GP ρ W P l (fun t r v w'=>∃y:Ex,v=ee y∧t.at_ w' (eD W.heap.size w') y∧bJ ρ W w' r lg dp) e w'
def afp:Nat→FuncId
 | 0=>104
 | 1=>119
 | 2=>136
 | 3=>148
 | 4=>153
 | 5=>155
 | 6=>160
 | _=>166
def Mu (ρ:br)(m:Nat):Prop:=∀(lv:Nat) (l:bH) (W:World) (lg dp:Bool),lv≤7→8*l.length+(7 - lv)< m→ρ.ij W l lg dp→Calls Tryz.prog (afp lv) #[ρ.ptr] W (gq ρ W lg dp (az lv) l)
theorem Mu.less {ρ:br} {m k:Nat}(h:Mu ρ m)(hk:k≤m):Mu ρ k:=fun lv l W lg dp h1 h2 h3=>h lv l W lg dp h1 (by omega) h3
def eK:Array Value:= #[.int .u8 0,.int .u8 0,.int .i64 0,.string ⟨#[]⟩,.string ⟨#[]⟩,.int .i64 0,.slice none 0 0]
theorem aR:(Tryz.prog.info? 49).map (·.size)=some 7:=by kernel_rfl
theorem dM (y:Ex):(bl y).toArray.all (·.oneCell')=true:=by simp[bl,Value.oneCell']
theorem cM {ρ:br} {w W:World} {lg dp:Bool} {P:Ps Tr} {l r:bH} {t:Tr} {y:Ex}(hg:ρ.g < w.heap.size)(hd:bJ ρ w W r lg dp)(ht:t.at_ W (eD (w.heap.size+1) W) y)(hp:P l=.ok (t,r)):gq ρ w lg dp P l (.returned (ee y)) (W.setRow w.heap.size (bl y).toArray):=
 GP.ok hp ⟨y,rfl,(Tr.at_.keep (iP W (Nat.lt_succ_self _) _) t y ht).more (Nat.le_succ _),hd.own hg (dH W w.heap.size _) (fun G e=>by injection e with e;omega)⟩
theorem bY {ρ:br} {w W w':World} {lg dp:Bool} {P:Ps Tr} {l:bH} {n:Nat}(hp:P l=.error n)(hg:w.grownBy W (some ρ.g))(k:W.grownBy w' (some ρ.g)):gq ρ w lg dp P l (.panicked [qG (ρ.placeOf n)]) w':=GP.err hp ⟨rfl,af hg k⟩
theorem Mv {s:List UInt8} {op:Int} {p q:Ps Tr} {l:bH}(h:av s l=false):EB s op p q l=q l:=by unfold EB;rw[dK];simp only[h];rfl
theorem EX {s:List UInt8} {op:Int} {p q:Ps Tr} {l:bH}(h:av s l=true):EB s op p q l=(do let x ← p;return lI op [x]) l.tail:=by unfold EB;rw[dK];simp only[h,if_true]
theorem om {s:List UInt8} {l:bH}(h:av s l=true):l.tail.length+1=l.length:=by obtain⟨t,r,rfl,_⟩:=fP h;simp
theorem aaH (ρ:br)(w:World)(l:bH)(lg dp:Bool)(h:ρ.ij w l lg dp)(IH:Mu ρ (8*l.length+5)):
  Calls Tryz.prog 136 #[ρ.ptr] w (gq ρ w lg dp (az 2) l):=by
 have aF:=h.jt;have hb:=aa w (.cells eK 49);have hm:=bX ρ _ l lg dp (h.later hb) ⟨#[110,111,116]⟩;have HQ:=hid (au.new w 49 eK);have HD:=hid (bJ.aL h hb);have hsz:(w.alloc (.cells eK 49)).heap.size=w.heap.size+1:=by simp
 rw[Me];rw[show(⟨#[110,111,116]⟩:ByteArray).data.toList=kD from rfl] at hm;clear h hb;unfold eK at hm hsz;cases hh:av kD l
 ·rw[hh,dm hh] at hm;have lB:=hid hh;clear hh;go_enter Tryz.func136,Tryz.ntmps136;go_wp2_with fail;refine hm.mono ?_;clear hm;rintro e w1 ⟨rfl,d1⟩;go_wp2_with fail;refine(IH 3 l w1 lg dp (by omega) (by omega) d1.at_).mono ?_;intro e w2 hp;rcases hp.cases with ⟨t,r,v,aO,rfl,y,rfl,hat,d2⟩|⟨n,ar,rfl,hg⟩
  ·have jf:=hid (HD.out.trans (d1.trans d2));have jN:=hid (d2.blk (d1.blk HQ.out (by omega)) (by omega));have je:=hid (hat.more (by have:=d1.size;omega:w.heap.size+1≤w1.heap.size));have oM:=hid aO;clear hp d1 d2 hat aO IH HQ HD hsz;go_wp2_with (first
    |(refine wpList_store_row rfl 49 (.tmp 2) (.tmp 10) rfl w.heap.size (bl y).toArray rfl rfl 49 eK jN.out aR rfl (dM _) ?_
      have HR:=hid (jN.out.row (bl y).toArray)))
   refine bodyPost_ret (v:=ee y) (results_cell_row Tryz.results136 _ _ w.heap.size 49 (bl y).toArray (0,0) _ rfl HR.out Tryz.underlying49 rfl aR) rfl ?_;exact cM aF jf.out je.out ((Mv lB.out).trans oM.out)
  ·have HG:=hid (af HD.out.grown d1.grown);have HE:=hid ar;clear hp d1 IH HQ HD hsz ar;go_wp2_with fail;exact ag rfl (bY ((Mv lB.out).trans HE.out) HG.out hg)
 ·rw[hh,dy hh] at hm;have lB:=hid hh;have QJ:=om hh;clear hh;go_enter Tryz.func136,Tryz.ntmps136;go_wp2_with fail;refine hm.mono ?_;clear hm;rintro e w1 ⟨rfl,d1⟩;go_wp2_with fail;refine(IH 2 l.tail w1 lg dp (by omega) (by omega) d1.at_).mono ?_;intro e w2 hp;rcases hp.cases with ⟨t,r,v,aO,rfl,y,rfl,hat,d2⟩|⟨n,ar,rfl,hg⟩
  ·have jf:=hid ((HD.out.trans (d1.trans d2)).later (aa w2 (.cells (bl y).toArray 49)));have jN:=hid ((d2.blk (d1.blk HQ.out (by omega)) (by omega)).alloc (.cells (bl y).toArray 49));have hs2:w.heap.size+1≤w2.heap.size:=by have:=d1.size;have:=d2.size;omega
   have je:=hid ((hat.more (by have:=d1.size;omega:w.heap.size+1≤w1.heap.size)).later (aa w2 (.cells (bl y).toArray 49)));have HY:=hid (rL (S:=eD (w.heap.size+1) (w2.alloc (.cells (bl y).toArray 49))) 4 (au.new w2 49 (bl y).toArray) ⟨hs2,by simp⟩ je.out);have oM:=hid aO;clear hp d1 d2 hat aO IH HQ HD hsz je;unfold ee bl at*;go_wp2_with (first
    |(refine wpList_store_row rfl 49 (.tmp 2) (.tmp 8) rfl w.heap.size (bl (nU 4 w2.heap.size 1)).toArray rfl rfl 49 eK jN.out aR rfl (dM _) ?_
      have HR:=hid (jN.out.row (bl (nU 4 w2.heap.size 1)).toArray)))
   refine bodyPost_ret (v:=ee (nU 4 w2.heap.size 1)) (results_cell_row Tryz.results136 _ _ w.heap.size 49 (bl (nU 4 w2.heap.size 1)).toArray (0,0) _ rfl HR.out Tryz.underlying49 rfl aR) rfl ?_;exact cM aF jf.out HY.out ((EX lB.out).trans (ak oM.out))
  ·have HG:=hid (af HD.out.grown d1.grown);have HE:=hid ar;clear hp d1 IH HQ HD hsz ar;go_wp2_with fail;exact ag rfl (bY ((EX lB.out).trans (ai HE.out)) HG.out hg)
theorem aaI (ρ:br)(w:World)(l:bH)(lg dp:Bool)(h:ρ.ij w l lg dp)(IH:Mu ρ (8*l.length+1)):
  Calls Tryz.prog 160 #[ρ.ptr] w (gq ρ w lg dp (az 6) l):=by
 have aF:=h.jt;have hb:=aa w (.cells eK 49);have hm:=bX ρ _ l lg dp (h.later hb) ⟨#[45]⟩;have HQ:=hid (au.new w 49 eK);have HD:=hid (bJ.aL h hb);have hsz:(w.alloc (.cells eK 49)).heap.size=w.heap.size+1:=by simp
 rw[Mi];rw[show(⟨#[45]⟩:ByteArray).data.toList=fu from rfl] at hm;clear h hb;unfold eK at hm hsz;cases hh:av fu l
 ·rw[hh,dm hh] at hm;have lB:=hid hh;clear hh;go_enter Tryz.func160,Tryz.ntmps160;go_wp2_with fail;refine hm.mono ?_;clear hm;rintro e w1 ⟨rfl,d1⟩;go_wp2_with fail;refine(IH 7 l w1 lg dp (by omega) (by omega) d1.at_).mono ?_;intro e w2 hp;rcases hp.cases with ⟨t,r,v,aO,rfl,y,rfl,hat,d2⟩|⟨n,ar,rfl,hg⟩
  ·have jf:=hid (HD.out.trans (d1.trans d2));have jN:=hid (d2.blk (d1.blk HQ.out (by omega)) (by omega));have je:=hid (hat.more (by have:=d1.size;omega:w.heap.size+1≤w1.heap.size));have oM:=hid aO;clear hp d1 d2 hat aO IH HQ HD hsz;go_wp2_with (first
    |(refine wpList_store_row rfl 49 (.tmp 2) (.tmp 10) rfl w.heap.size (bl y).toArray rfl rfl 49 eK jN.out aR rfl (dM _) ?_
      have HR:=hid (jN.out.row (bl y).toArray)))
   refine bodyPost_ret (v:=ee y) (results_cell_row Tryz.results160 _ _ w.heap.size 49 (bl y).toArray (0,0) _ rfl HR.out Tryz.underlying49 rfl aR) rfl ?_;exact cM aF jf.out je.out ((Mv lB.out).trans oM.out)
  ·have HG:=hid (af HD.out.grown d1.grown);have HE:=hid ar;clear hp d1 IH HQ HD hsz ar;go_wp2_with fail;exact ag rfl (bY ((Mv lB.out).trans HE.out) HG.out hg)
 ·rw[hh,dy hh] at hm;have lB:=hid hh;have QJ:=om hh;clear hh;go_enter Tryz.func160,Tryz.ntmps160;go_wp2_with fail;refine hm.mono ?_;clear hm;rintro e w1 ⟨rfl,d1⟩;go_wp2_with fail;refine(IH 6 l.tail w1 lg dp (by omega) (by omega) d1.at_).mono ?_;intro e w2 hp;rcases hp.cases with ⟨t,r,v,aO,rfl,y,rfl,hat,d2⟩|⟨n,ar,rfl,hg⟩
  ·have jf:=hid ((HD.out.trans (d1.trans d2)).later (aa w2 (.cells (bl y).toArray 49)));have jN:=hid ((d2.blk (d1.blk HQ.out (by omega)) (by omega)).alloc (.cells (bl y).toArray 49));have hs2:w.heap.size+1≤w2.heap.size:=by have:=d1.size;have:=d2.size;omega
   have je:=hid ((hat.more (by have:=d1.size;omega:w.heap.size+1≤w1.heap.size)).later (aa w2 (.cells (bl y).toArray 49)));have HY:=hid (rL (S:=eD (w.heap.size+1) (w2.alloc (.cells (bl y).toArray 49))) 3 (au.new w2 49 (bl y).toArray) ⟨hs2,by simp⟩ je.out);have oM:=hid aO;clear hp d1 d2 hat aO IH HQ HD hsz je;unfold ee bl at*;go_wp2_with (first
    |(refine wpList_store_row rfl 49 (.tmp 2) (.tmp 8) rfl w.heap.size (bl (nU 3 w2.heap.size 1)).toArray rfl rfl 49 eK jN.out aR rfl (dM _) ?_
      have HR:=hid (jN.out.row (bl (nU 3 w2.heap.size 1)).toArray)))
   refine bodyPost_ret (v:=ee (nU 3 w2.heap.size 1)) (results_cell_row Tryz.results160 _ _ w.heap.size 49 (bl (nU 3 w2.heap.size 1)).toArray (0,0) _ rfl HR.out Tryz.underlying49 rfl aR) rfl ?_;exact cM aF jf.out HY.out ((EX lB.out).trans (ak oM.out))
  ·have HG:=hid (af HD.out.grown d1.grown);have HE:=hid ar;clear hp d1 IH HQ HD hsz ar;go_wp2_with fail;exact ag rfl (bY ((EX lB.out).trans (ai HE.out)) HG.out hg)
end Go.Proofs.YtcneefmaghoejaaGreatDoor
