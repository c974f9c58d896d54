/- Parts of the proof. -/
import Derived.Test.YtfmbcoeallmnnaaGreatDoorD7
namespace Go.Proofs.YtfmbcoeallmnnaaGreatDoor
open Go.Lib (hid)
open Go.ChangeShapes Go.WideShapes Go.ChangeAt Go.RowKit
set_option linter.unusedVariables false
set_option linter.unusedSimpArgs false
theorem pK (t:Int)(w:World):Calls Tryz.prog 49 #[.int .u8 t] w fun e w'=>e=.returned (.bool (t==0))∧w=w':=by go_enter Tryz.func49,Tryz.ntmps49;go_wp2;go_ret;exact⟨rfl,rfl⟩
def iM (a b:Int):Int:=if a=0 then 0 else if b=0 then 1 else -1
set_option maxHeartbeats 1000000
set_option maxRecDepth 100000
theorem qA (g c:Nat)(a b:Int)(w:World)(h0:w.cell? ⟨g,0,none⟩=some (.int .u8 a))(h1:w.cell? ⟨g,1,none⟩=some (.int .u8 b)):
  Calls Tryz.prog 71 #[.slice (some ⟨g,0,none⟩) 2 c,.func (.func 49) #[] #[]] w fun e w'=>e=.returned (.int .i64 (iM a b))∧w=w':=by
 unfold iM;cases ha:(a==0)
 ·have ha':¬a=0:=by simpa using ha
  rw[if_neg ha'];cases hb:(b==0)
  ·have hb':¬b=0:=by simpa using hb
   rw[if_neg hb'];have k1:=pK a;have k2:=pK b;rw[ha] at k1;rw[hb] at k2;have K1:=hid k1;have K2:=hid k2;clear k1 k2 ha' hb';go_enter Tryz.func71,Tryz.ntmps71;go_wp2_with fail;refine wp_loop_rounds 3 ?_;rw[rounds_succ];go_wp2_with fail;refine(K1.out _).mono ?_;rintro e w1 ⟨rfl,rfl⟩;go_wp2_with fail;rw[rounds_succ];go_wp2_with fail;refine(K2.out _).mono ?_;rintro e w1 ⟨rfl,rfl⟩;go_wp2_with fail;rw[rounds_succ];go_wp2_with fail;go_ret;exact⟨rfl,rfl⟩
  ·have hb':b=0:=by simpa using hb
   rw[if_pos hb'];have k1:=pK a;have k2:=pK b;rw[ha] at k1;rw[hb] at k2;have K1:=hid k1;have K2:=hid k2;clear k1 k2 ha' hb';go_enter Tryz.func71,Tryz.ntmps71;go_wp2_with fail;refine wp_loop_rounds 3 ?_;rw[rounds_succ];go_wp2_with fail;refine(K1.out _).mono ?_;rintro e w1 ⟨rfl,rfl⟩;go_wp2_with fail;rw[rounds_succ];go_wp2_with fail;refine(K2.out _).mono ?_;rintro e w1 ⟨rfl,rfl⟩;go_wp2_with fail;go_ret;exact⟨rfl,rfl⟩
 ·have ha':a=0:=by simpa using ha
  rw[if_pos ha'];have k1:=pK a;rw[ha] at k1;have K1:=hid k1;clear k1 ha';go_enter Tryz.func71,Tryz.ntmps71;go_wp2_with fail;refine wp_loop_rounds 3 ?_;rw[rounds_succ];go_wp2_with fail;refine(K1.out _).mono ?_;rintro e w1 ⟨rfl,rfl⟩;go_wp2_with fail;go_ret;exact⟨rfl,rfl⟩
theorem QB (w:World):(zeroValue 5).run Tryz.prog w=.ok (.int .u8 0) w:=by kernel_rfl
theorem pL (w:World)(g o n c:Nat)(cs:Array Value)(h:ag w g 5 cs)(hn:0 < n)(hs:o+n≤cs.size):
  (Builtin.clear_ #[73] 0 #[.slice (some ⟨g,o,none⟩) n c]).run Tryz.prog w=.ok (.tuple #[]) (w.setCells g o (List.replicate n (.int .u8 0))):=
 Go.Lib.run_clear_slice w 73 5 0 (.int .u8 0) Tryz.underlying73 QB rfl rfl g o n c hn (fun j hj=>by rw[h.cell,Array.getElem?_eq_getElem (by omega)];rfl) (fun j hj=>h.frozen _)
theorem gq {B:Nat} {w0:World}(g:Nat)(hg:B≤g):∀(vs:List Value) (o:Nat) (w:World),Below B w0 w→Below B w0 (w.setCells g o vs)
 | [],o,w,h=>h
 | v::vs,o,w,h=>by rw[World.setCells];exact gq g hg vs (o+1) _ (h.setCell (p:=⟨g,o,none⟩) hg v)
def QC (g c:Nat)(w:World)(e:Ending)(w':World):Prop:=∃n,n≤1∧e=.returned (.slice (some ⟨g,0,none⟩) n c)∧Below g w w'
set_option maxHeartbeats 2000000
theorem Fz (g c:Nat)(a b:Int)(cs:Array Value)(w:World)(h:ag w g 5 cs)(hsz:2≤cs.size)(h0:cs[0]?=some (.int .u8 a))(h1:cs[1]?=some (.int .u8 b))(hc:2≤c)(hab:a=0∨b=0):
  Calls Tryz.prog 47 #[.slice (some ⟨g,0,none⟩) 2 c,.func (.func 49) #[] #[]] w (QC g c w):=by
 have c0:=(h.cell 0).trans h0;have c1:=(h.cell 1).trans h1;have fz:=h.frozen;have ki:=qA g c a b w c0 c1;have k2:=pK b;cases ha:(a==0)
 ·have ha':¬a=0:=by simpa using ha
  have hb':b=0:=by omega
  have e0:iM a b=1:=by simp[iM,ha',hb']
  rw[e0] at ki;have KI:=hid ki;have dT:=pL w g 1 1 (c - 1) cs h (by omega) (by omega);have hB:=gq g (Nat.le_refl g) (List.replicate 1 (.int .u8 0)) 1 w (Below.refl g w);clear ki k2 e0 ha' hb' hab;generalize w.setCells g 1 (List.replicate 1 (.int .u8 0))=W at*;go_enter Tryz.func47,Tryz.ntmps47;go_wp2_with fail;refine KI.out.mono ?_;rintro e w1 ⟨rfl,rfl⟩;go_wp2_with fail;refine wp_loop_rounds 3 ?_;rw[rounds_succ];go_wp2_with fail;go_ret;exact⟨1,Nat.le_refl _,rfl,hB⟩
 ·have ha':a=0:=by simpa using ha
  have e0:iM a b=0:=by simp[iM,ha']
  rw[e0] at ki;have KI:=hid ki;clear ki e0 ha' hab;cases hb:(b==0)
  ·rw[hb] at k2;have K2:=hid k2;clear k2;have hs:=h.cA 0 (.int .u8 b);have dT:=pL (w.setCell ⟨g,0,none⟩ (.int .u8 b)) g 1 1 (c - 1) _ hs (by omega) (by simp;omega);have hB:=gq g (Nat.le_refl g) (List.replicate 1 (.int .u8 0)) 1 _ ((Below.refl g w).setCell (p:=⟨g,0,none⟩) (Nat.le_refl g) (.int .u8 b));generalize (w.setCell ⟨g,0,none⟩ (.int .u8 b)).setCells g 1 (List.replicate 1 (.int .u8 0))=W at*;go_enter Tryz.func47,Tryz.ntmps47;go_wp2_with fail;refine KI.out.mono ?_;rintro e w1 ⟨rfl,rfl⟩;go_wp2_with fail;refine wp_loop_rounds 3 ?_;rw[rounds_succ];go_wp2_with fail;refine(K2.out _).mono ?_;rintro e w1 ⟨rfl,rfl⟩;go_wp2_with fail;rw[rounds_succ];go_wp2_with fail;go_ret;exact⟨1,Nat.le_refl _,rfl,hB⟩
  ·rw[hb] at k2;have K2:=hid k2;clear k2;have dT:=pL w g 0 2 c cs h (by omega) (by omega);have hB:=gq g (Nat.le_refl g) (List.replicate 2 (.int .u8 0)) 0 w (Below.refl g w);generalize w.setCells g 0 (List.replicate 2 (.int .u8 0))=W at*;go_enter Tryz.func47,Tryz.ntmps47;go_wp2_with fail;refine KI.out.mono ?_;rintro e w1 ⟨rfl,rfl⟩;go_wp2_with fail;refine wp_loop_rounds 3 ?_;rw[rounds_succ];go_wp2_with fail;refine(K2.out _).mono ?_;rintro e w1 ⟨rfl,rfl⟩;go_wp2_with fail;rw[rounds_succ];go_wp2_with fail;go_ret;exact⟨0,by omega,rfl,hB⟩
theorem CI (g c:Nat)(a b:Int)(w:World)(c0:w.cell? ⟨g,0,none⟩=some (.int .u8 a))(c1:w.cell? ⟨g,1,none⟩=some (.int .u8 b))(ha:a≠0)(hb:b≠0):
  Calls Tryz.prog 47 #[.slice (some ⟨g,0,none⟩) 2 c,.func (.func 49) #[] #[]] w fun e w'=>e=.returned (.slice (some ⟨g,0,none⟩) 2 c)∧w=w':=by
 have ki:=qA g c a b w c0 c1;have e0:iM a b= -1:=by simp[iM,ha,hb]
 rw[e0] at ki;have KI:=hid ki;clear ki e0;go_enter Tryz.func47,Tryz.ntmps47;go_wp2_with fail;refine KI.out.mono ?_;rintro e w1 ⟨rfl,rfl⟩;go_wp2_with fail;go_ret;exact⟨rfl,rfl⟩
theorem yT (g c n:Nat)(hn:n≤1)(w:World):Calls Tryz.prog 50 #[.slice (some ⟨g,0,none⟩) n c] w fun e w'=>e=.returned (.slice (some ⟨g,0,none⟩) n c)∧w=w':=by
 have d1:decide ((n:Int)< 2)=true:=by simp;omega
 go_enter Tryz.func50,Tryz.ntmps50;go_wp2_with fail;go_ret;exact⟨rfl,rfl⟩
theorem CJ (g c:Nat)(a b:Int)(cs:Array Value)(w:World)(h:ag w g 5 cs)(hsz:2≤cs.size)(h0:cs[0]?=some (.int .u8 a))(h1:cs[1]?=some (.int .u8 b))(hc:2≤c):
  Calls Tryz.prog 50 #[.slice (some ⟨g,0,none⟩) 2 c] w fun e w'=>e=.returned (.slice (some ⟨g,0,none⟩) (if a=b then 1 else 2) c)∧Below g w w':=by
 have c0:=fun y:Ext w.heap.size w=>((h.later y.h).cell 0).trans h0
 have c1:=fun y:Ext w.heap.size w=>((h.later y.h).cell 1).trans h1
 cases hab:(b==a)
 ·have Mx:¬a=b:=fun e=>by simp[e] at hab
  rw[if_neg Mx];clear Mx;go_enter Tryz.func50,Tryz.ntmps50;go_wp2_with fail;refine wp_loop_rounds 3 ?_;rw[rounds_succ];go_wp2_with fail;refine bD 10 w.heap.size w (Below.refl _ _) (by kernel_rfl) (by kernel_rfl) (by kernel_rfl) (by kernel_rfl) ?_;simp only[List.take_succ_cons,List.take_zero,List.drop_succ_cons,List.drop_zero];repeat (go_big_quiet_step (fail))
  refine wpQuiet_nil ?_;rintro W2 ⟨y2,iq⟩;have hW:=y2.h;rw[← iq] at hW;clear iq y2 c0 c1;go_wp2_with fail;rw[rounds_succ];go_wp2_with fail;go_ret;exact⟨rfl,hW.mono (Nat.le_of_lt h.lt)⟩
 ·have Mx:a=b:=by have:=hab;simp at this;exact this.symm
  rw[if_pos Mx];clear Mx;go_enter Tryz.func50,Tryz.ntmps50;go_wp2_with fail;refine wp_loop_rounds 3 ?_;rw[rounds_succ];go_wp2_with fail;refine bD 10 w.heap.size w (Below.refl _ _) (by kernel_rfl) (by kernel_rfl) (by kernel_rfl) (by kernel_rfl) ?_;simp only[List.take_succ_cons,List.take_zero,List.drop_succ_cons,List.drop_zero];repeat (go_big_quiet_step (fail))
  refine wpQuiet_nil ?_;rintro W2 ⟨y2,iq⟩;have hW:=y2.h;rw[← iq] at hW;clear iq y2 c0 c1;have h2:=h.later hW;have dT:=pL W2 g 1 1 (c - 1) cs h2 (by omega) (by omega);have hB:=gq g (Nat.le_refl g) (List.replicate 1 (.int .u8 0)) 1 W2 (hW.mono (Nat.le_of_lt h.lt));generalize W2.setCells g 1 (List.replicate 1 (.int .u8 0))=W3 at*;go_wp2_with fail;refine wp_loop_rounds 3 ?_;rw[rounds_succ];go_wp2_with fail;go_ret;exact⟨rfl,hB⟩
theorem se:(Tryz.prog.info? 5).map (fun i=>(i.zero,i.size,i.bytes))=some (some (.int .u8 0),1,1):=by kernel_rfl
def JI (a b:Int)(w:World)(e:Ending)(w':World):Prop:=∃g c cs,e=.returned (.slice (some ⟨g,0,none⟩) 2 c)∧w.heap.size≤g∧ag w' g 5 cs∧cs[0]?=some (.int .u8 a)∧cs[1]?=some (.int .u8 b)∧2≤cs.size∧2≤c∧Below w.heap.size w w'
theorem JJ (p off c:Nat)(a b:Int)(w:World)(hp:p < w.heap.size)(h0:w.cell? ⟨p,off,none⟩=some (.int .u8 a))(h1:w.cell? ⟨p,off+1,none⟩=some (.int .u8 b)):
  Calls Tryz.prog 48 #[.slice (some ⟨p,off,none⟩) 2 c] w (JI a b w):=by
 obtain⟨i0,qj,hz0,hz1,hz2⟩:=info_parts se;have hB:=aa w (.cells #[] 5);have hown:(w.alloc (.cells #[] 5)).ownsRow w.heap.size 5 1 (.slice (some ⟨w.heap.size,0,none⟩) 0 0) 0 []:=⟨by simp,.inr ⟨w.heap.size,0,#[],rfl,Nat.le_refl _,heap_alloc_new w _,Nat.le_refl _,by unfold maxLen;omega,rfl,rfl⟩⟩;have Hz:Reads (w.alloc (.cells #[] 5)) w.heap.size 1 (some ⟨p,off,none⟩) 2 [.int .u8 a,.int .u8 b]:=by
  refine⟨rfl,fun _=>⟨_,rfl,hp,fun j u hu=>?_⟩⟩
  match j,hu with
  | 0,hu=>simp at hu;subst hu;exact(hB.cell (p:=⟨p,off,none⟩) hp).trans h0
  | 1,hu=>simp at hu;subst hu;exact(hB.cell (p:=⟨p,off+1,none⟩) hp).trans h1
  |(n+2),hu=>simp at hu
 have HW:=hid hown;have HR:=hid Hz;clear hown Hz;have hnil:(binOp .eql 73 (.slice (some ⟨p,off,none⟩) 2 c) (.slice none 0 0)).run Tryz.prog w=.ok (.bool false) w:=Go.Lib.run_eql_slice_nil w 73 5 (some ⟨p,off,none⟩) 2 c 0 0 Tryz.underlying73;go_enter Tryz.func48,Tryz.ntmps48;go_wp2_with (first
  |(at_builtin
    refine eD _ rfl (.tmp 5) (.tmp 6) 73 rfl w.heap.size 5 i0 (.int .u8 0) 1 1 Tryz.underlying73 qj hz0 hz1 hz2 rfl (by omega) (.slice (some ⟨w.heap.size,0,none⟩) 0 0) 0 [] rfl HW.out w.heap.size (some ⟨p,off,none⟩) 2 c [.int .u8 a,.int .u8 b] rfl HR.out (by simp[Value.oneCell']) (by unfold maxLen;omega) (by omega) (by simp) ?_
    intro v2 w2 o2 g2 _
    have O2:=hid o2
    have G2:=hid g2
    clear o2 g2 HW HR))
 go_ret;rcases O2.out.2 with ⟨_,hz⟩|⟨g,cap,cur,rfl,hb,hg,hn,hm,hs,ht⟩
 ·omega
 ·refine⟨g,cap,cur,rfl,hb,hg,?_,?_,by omega,hn,?_⟩
  ·have:=congrArg (fun l=>l[0]?) ht;simp at this;simpa using this
  ·have:=congrArg (fun l=>l[1]?) ht;simp at this;simpa using this
  ·refine hB.trans ⟨G2.out.os,G2.out.tape,G2.out.output,G2.out.size,fun k hk=>G2.out.block k (by simp;omega) fun e=>?_⟩;simp[Value.ownBlock] at e;omega
def dC (a b:Int):Bool:=a==0 || b==0 || a==b
theorem oM (p off c:Nat)(a b:Int)(w:World)(hp:p < w.heap.size)(h0:w.cell? ⟨p,off,none⟩=some (.int .u8 a))(h1:w.cell? ⟨p,off+1,none⟩=some (.int .u8 b)):
  Calls Tryz.prog 25 #[.slice (some ⟨p,off,none⟩) 2 c] w fun e w'=>e=.returned (.bool (dC a b))∧Below w.heap.size w w':=by
 go_enter Tryz.func25,Tryz.ntmps25;go_wp2_with fail;refine(JJ p off c a b _ hp h0 h1).mono ?_;rintro e w1 ⟨g,c1,cs,rfl,hg,hb,e0,e1,hs,hc1,b1⟩;clear h0 h1;by_cases hz:a=0∨b=0
 ·go_wp2_with fail;refine(Fz g c1 a b cs _ hb hs e0 e1 hc1 hz).mono ?_;rintro e w2 ⟨n,hn,rfl,b2⟩;go_wp2_with fail;refine(yT g c1 n hn _).mono ?_;rintro e w3 ⟨rfl,rfl⟩;have d1:decide ((n:Int)≤1)=true:=by simp;omega
  have HG:=hid (show dC a b=true by rcases hz with rfl | rfl <;> simp[dC]);clear hz;go_wp2_with fail;go_ret;exact⟨by rw[HG.out];rfl,b1.trans (b2.mono hg)⟩
 ·have ha:a≠0:=fun e=>hz (.inl e)
  have hb0:b≠0:=fun e=>hz (.inr e)
  have c0':=(hb.cell 0).trans e0;have c1':=(hb.cell 1).trans e1;go_wp2_with fail;refine(CI g c1 a b _ c0' c1' ha hb0).mono ?_;rintro e w2 ⟨rfl,rfl⟩;clear c0' c1';go_wp2_with fail;refine(CJ g c1 a b cs _ hb hs e0 e1 hc1).mono ?_;rintro e w3 ⟨rfl,b3⟩;have HG:=hid (show dC a b=decide (a=b) by rw[Bool.eq_iff_iff];simp[dC,ha,hb0]);by_cases hab:a=b
  ·have HA:=hid hab;rw[if_pos hab];clear hab;go_wp2_with fail;go_ret;exact⟨by rw[HG.out,decide_eq_true HA.out];rfl,b1.trans (b3.mono hg)⟩
  ·have HA:=hid hab;rw[if_neg hab];clear hab;go_wp2_with fail;go_ret;exact⟨by rw[HG.out,decide_eq_false HA.out];rfl,b1.trans (b3.mono hg)⟩
theorem zH (a wa gi:Int)(nu:Bool)(d:Value)(hd:d.oneCell'=true)(p off c:Nat)(k:Int)(w:World)(hp:p < w.heap.size)(h0:w.cell? ⟨p,off,none⟩=some (.int .u8 k)):
  Calls Tryz.prog 45 #[.agg #[.int .i64 a,.int .u8 wa,.int .u8 gi,.bool false,.bool nu,d],.slice (some ⟨p,off,none⟩) 1 c] w fun e w'=>e=.returned (.bool (dC k wa))∧Below w.heap.size w w':=by
 have hB:=aa w (.cells #[.int .i64 a,.int .u8 wa,.int .u8 gi,.bool false,.bool nu,d] 76);have hO:=ag.new w 76 #[.int .i64 a,.int .u8 wa,.int .u8 gi,.bool false,.bool nu,d];have x1:=hO.cell 1;have x3:=hO.cell 3;simp only[List.getElem?_toArray,List.getElem?_cons_zero,List.getElem?_cons_succ] at x1 x3;have c0:=(hB.cell (p:=⟨p,off,none⟩) hp).trans h0;go_enter Tryz.func45,Tryz.ntmps45;go_wp2_with fail;generalize w.alloc (.cells #[.int .i64 a,.int .u8 wa,.int .u8 gi,.bool false,.bool nu,d] 76)=W at*;refine wp_loop_rounds 2 ?_;rw[rounds_succ];go_wp2_with fail;have gN:=ag.new W 5 #[.int .u8 k,.int .u8 wa];have bN:=aa W (.cells #[.int .u8 k,.int .u8 wa] 5);refine(oM W.heap.size 0 2 k wa _ (by simp) (gN.cell 0) (gN.cell 1)).mono ?_;rintro e W2 ⟨rfl,b2⟩;have hW2:=ae.then bN b2
 replace hB:=ae.then hB hW2
 replace hO:=hO.later hW2;clear x1 x3 c0 gN bN b2 hW2;cases hg1:dC k wa
 ·go_wp2_with fail;go_ret;exact⟨by rw[hg1];rfl,hB⟩
 have x1:=hO.cell 1;have x3:=hO.cell 3;simp only[List.getElem?_toArray,List.getElem?_cons_zero,List.getElem?_cons_succ] at x1 x3;have c0:=(hB.cell (p:=⟨p,off,none⟩) hp).trans h0;go_wp2_with fail;rw[rounds_succ];go_wp2_with fail;go_ret;exact⟨by rw[hg1];rfl,hB⟩
theorem zI (a wa gi:Int)(al nu:Bool)(d:Value)(hd:d.oneCell'=true)(p off c:Nat)(k j:Int)(w:World)(hp:p < w.heap.size)(h0:w.cell? ⟨p,off,none⟩=some (.int .u8 k))(h1:w.cell? ⟨p,off+1,none⟩=some (.int .u8 j)):
  Calls Tryz.prog 45 #[.agg #[.int .i64 a,.int .u8 wa,.int .u8 gi,.bool al,.bool nu,d],.slice (some ⟨p,off,none⟩) 2 c] w fun e w'=>e=.returned (.bool (dC k wa &&(dC j wa &&(!al || dC k j))))∧Below w.heap.size w w':=by
 have hB:=aa w (.cells #[.int .i64 a,.int .u8 wa,.int .u8 gi,.bool al,.bool nu,d] 76);have hO:=ag.new w 76 #[.int .i64 a,.int .u8 wa,.int .u8 gi,.bool al,.bool nu,d];have x1:=hO.cell 1;have x3:=hO.cell 3;simp only[List.getElem?_toArray,List.getElem?_cons_zero,List.getElem?_cons_succ] at x1 x3;have c0:=(hB.cell (p:=⟨p,off,none⟩) hp).trans h0;have c1:=(hB.cell (p:=⟨p,off+1,none⟩) hp).trans h1;go_enter Tryz.func45,Tryz.ntmps45;go_wp2_with fail;generalize w.alloc (.cells #[.int .i64 a,.int .u8 wa,.int .u8 gi,.bool al,.bool nu,d] 76)=W at*;refine wp_loop_rounds 3 ?_;rw[rounds_succ];go_wp2_with fail;have gN:=ag.new W 5 #[.int .u8 k,.int .u8 wa];have bN:=aa W (.cells #[.int .u8 k,.int .u8 wa] 5);refine(oM W.heap.size 0 2 k wa _ (by simp) (gN.cell 0) (gN.cell 1)).mono ?_;rintro e W2 ⟨rfl,b2⟩;have hW2:=ae.then bN b2
 replace hB:=ae.then hB hW2
 replace hO:=hO.later hW2;clear x1 x3 c0 c1 gN bN b2 hW2;cases hg1:dC k wa
 ·go_wp2_with fail;go_ret;exact⟨by rw[hg1];rfl,hB⟩
 have x1:=hO.cell 1;have x3:=hO.cell 3;simp only[List.getElem?_toArray,List.getElem?_cons_zero,List.getElem?_cons_succ] at x1 x3;have c0:=(hB.cell (p:=⟨p,off,none⟩) hp).trans h0;have c1:=(hB.cell (p:=⟨p,off+1,none⟩) hp).trans h1;go_wp2_with fail;rw[rounds_succ];go_wp2_with fail;have gN:=ag.new W2 5 #[.int .u8 j,.int .u8 wa];have bN:=aa W2 (.cells #[.int .u8 j,.int .u8 wa] 5);refine(oM W2.heap.size 0 2 j wa _ (by simp) (gN.cell 0) (gN.cell 1)).mono ?_;rintro e W3 ⟨rfl,b2⟩;have hW3:=ae.then bN b2
 replace hB:=ae.then hB hW3
 replace hO:=hO.later hW3;clear x1 x3 c0 c1 gN bN b2 hW3;cases hg2:dC j wa
 ·go_wp2_with fail;go_ret;exact⟨by rw[hg1,hg2];rfl,hB⟩
 have x1:=hO.cell 1;have x3:=hO.cell 3;simp only[List.getElem?_toArray,List.getElem?_cons_zero,List.getElem?_cons_succ] at x1 x3;have c0:=(hB.cell (p:=⟨p,off,none⟩) hp).trans h0;have c1:=(hB.cell (p:=⟨p,off+1,none⟩) hp).trans h1;go_wp2_with fail;rw[rounds_succ];cases al
 ·go_wp2_with fail;go_ret;exact⟨by rw[hg1,hg2];rfl,hB⟩
 ·go_wp2_with fail;refine(oM p off c k j _ (Nat.lt_of_lt_of_le hp hB.size) c0 c1).mono ?_;rintro e w9 ⟨rfl,b9⟩;go_wp2_with fail;go_ret;exact⟨by rw[hg1,hg2];rfl,ae.then hB b9⟩
theorem yU (p off c:Nat)(k:Int)(w:World)(h0:w.cell? ⟨p,off,none⟩=some (.int .u8 k)):
  Calls Tryz.prog 70 #[.slice (some ⟨p,off,none⟩) 1 c,.int .u8 0] w fun e w'=>e=.returned (.int .i64 (if k=0 then 0 else -1))∧w=w':=by
 by_cases hk:k=0
 ·subst hk;go_enter Tryz.func70,Tryz.ntmps70;go_wp2_with fail;refine wp_loop_rounds 2 ?_;rw[rounds_succ];go_wp2_with fail;go_ret;exact⟨rfl,rfl⟩
 ·have hk2:((0:Int)==k)=false:=by rw[beq_eq_false_iff_ne];omega
  rw[if_neg hk];clear hk;go_enter Tryz.func70,Tryz.ntmps70;go_wp2_with fail;refine wp_loop_rounds 2 ?_;rw[rounds_succ];go_wp2_with fail;rw[rounds_succ];go_wp2_with fail;go_ret;exact⟨rfl,rfl⟩
theorem yV (p off c:Nat)(k j:Int)(w:World)(h0:w.cell? ⟨p,off,none⟩=some (.int .u8 k))(h1:w.cell? ⟨p,off+1,none⟩=some (.int .u8 j)):
  Calls Tryz.prog 70 #[.slice (some ⟨p,off,none⟩) 2 c,.int .u8 0] w fun e w'=>e=.returned (.int .i64 (if k=0 then 0 else if j=0 then 1 else -1))∧w=w':=by
 by_cases hk:k=0
 ·subst hk;go_enter Tryz.func70,Tryz.ntmps70;go_wp2_with fail;refine wp_loop_rounds 3 ?_;rw[rounds_succ];go_wp2_with fail;go_ret;exact⟨rfl,rfl⟩
 ·have hk2:((0:Int)==k)=false:=by rw[beq_eq_false_iff_ne];omega
  rw[if_neg hk];clear hk;by_cases hj:j=0
  ·subst hj;go_enter Tryz.func70,Tryz.ntmps70;go_wp2_with fail;refine wp_loop_rounds 3 ?_;rw[rounds_succ];go_wp2_with fail;rw[rounds_succ];go_wp2_with fail;go_ret;exact⟨rfl,rfl⟩
  ·have hj2:((0:Int)==j)=false:=by rw[beq_eq_false_iff_ne];omega
   rw[if_neg hj];clear hj;go_enter Tryz.func70,Tryz.ntmps70;go_wp2_with fail;refine wp_loop_rounds 3 ?_;rw[rounds_succ];go_wp2_with fail;rw[rounds_succ];go_wp2_with fail;rw[rounds_succ];go_wp2_with fail;go_ret;exact⟨rfl,rfl⟩
theorem CK (p off c:Nat)(k:Int)(w:World)(h0:w.cell? ⟨p,off,none⟩=some (.int .u8 k)):
  Calls Tryz.prog 46 #[.slice (some ⟨p,off,none⟩) 1 c,.int .u8 0] w fun e w'=>e=.returned (.bool (k==0))∧w=w':=by
 have K:=hid (yU p off c k w h0);go_enter Tryz.func46,Tryz.ntmps46;go_wp2_with fail;refine K.out.mono ?_;rintro e w1 ⟨rfl,rfl⟩;by_cases hk:k=0
 ·subst hk;go_wp2_with fail;go_ret;exact⟨rfl,rfl⟩
 ·have hk2:(k==0)=false:=by simpa using hk
  rw[if_neg hk];go_wp2_with fail;go_ret;exact⟨by rw[hk2];rfl,rfl⟩
theorem CM (p off c:Nat)(k j:Int)(w:World)(h0:w.cell? ⟨p,off,none⟩=some (.int .u8 k))(h1:w.cell? ⟨p,off+1,none⟩=some (.int .u8 j)):
  Calls Tryz.prog 46 #[.slice (some ⟨p,off,none⟩) 2 c,.int .u8 0] w fun e w'=>e=.returned (.bool (k==0 || j==0))∧w=w':=by
 have K:=hid (yV p off c k j w h0 h1);go_enter Tryz.func46,Tryz.ntmps46;go_wp2_with fail;refine K.out.mono ?_;rintro e w1 ⟨rfl,rfl⟩;by_cases hk:k=0
 ·subst hk;go_wp2_with fail;go_ret;exact⟨rfl,rfl⟩
 ·have hk2:(k==0)=false:=by simpa using hk
  rw[if_neg hk];by_cases hj:j=0
  ·subst hj;go_wp2_with fail;go_ret;exact⟨by rw[hk2];rfl,rfl⟩
  ·have hj2:(j==0)=false:=by simpa using hj
   rw[if_neg hj];go_wp2_with fail;go_ret;exact⟨by rw[hk2,hj2];rfl,rfl⟩
def wF (k:Nat)(wd:Int)(l:List Val):Val×Int:=
 match k,l with
 | 3,[a]=>Mo a.n
 | 4,[a]=>(aL (a.n==0),0)
 | 5,[a,b]=>vq a.n b.n
 | 6,[a,b]=>vr a.n b.n
 | 7,[a,b]=>vt a.n b.n
 | 8,[a,b]=>tI a.n b.n
 | 9,[a,b]=>tJ a.n b.n
 | 10,[a,b]=>(aL (decide (gf a b=0)),0)
 | 11,[a,b]=>(aL (!decide (gf a b=0)),0)
 | 12,[a,b]=>(aL (decide (gf a b < 0)),0)
 | 13,[a,b]=>(aL (decide (gf a b≤0)),0)
 | 14,[a,b]=>(aL (decide (0 < gf a b)),0)
 | 15,[a,b]=>(aL (decide (0≤gf a b)),0)
 | 16,l=>(js false l,0)
 | 17,l=>(js true l,0)
 | 18,[a]=>(aL ((a.k==0)==true),0)
 | 19,[a]=>(aL ((a.k==0)==false),0)
 | 20,[a]=>rX a.n wd
 | _,_=>(ah,0)
def L0 (w:World)(d:Value)(x:Ex)(l:List Val)(r:Val×Int):Prop:=∃f CN,d=.func (.func f) #[] CN∧(CN= #[]∨∃p,CN= #[p])∧(∀(args:Array Value) (w:World),(callFunc f args).run Tryz.prog w=.ok (.enter f args) w)∧
 ∀(W:World) (A:Option Addr) (c:Nat),Below w.heap.size w W→RV W W.heap.size A l→Calls Tryz.prog f (#[.agg #[.int .u8 x.op,.int .u8 x.v.k,.int .i64 x.v.n,.string x.v.s,.string x.name,.int .i64 x.width,.slice x.A x.n x.c],.slice A l.length c]++CN) W fun e w'=>e=.returned (cI r.1 r.2)∧Below W.heap.size W w'
theorem My (args:Array Value)(w:World):(callFunc 77 args).run Tryz.prog w=.ok (.enter 77 args) w:=by kernel_rfl
theorem Mz (args:Array Value)(w:World):(callFunc 79 args).run Tryz.prog w=.ok (.enter 79 args) w:=by kernel_rfl
theorem MA (args:Array Value)(w:World):(callFunc 97 args).run Tryz.prog w=.ok (.enter 97 args) w:=by kernel_rfl
theorem oN (args:Array Value)(w:World):(callFunc 115 args).run Tryz.prog w=.ok (.enter 115 args) w:=by kernel_rfl
theorem mJ (args:Array Value)(w:World):(callFunc 117 args).run Tryz.prog w=.ok (.enter 117 args) w:=by kernel_rfl
theorem CO (args:Array Value)(w:World):(callFunc 119 args).run Tryz.prog w=.ok (.enter 119 args) w:=by kernel_rfl
theorem CP (args:Array Value)(w:World):(callFunc 121 args).run Tryz.prog w=.ok (.enter 121 args) w:=by kernel_rfl
theorem ij.does {w:World} {k:Nat} {a wa gi:Int} {al nu:Bool} {d:Value}(h:ij w k (.agg (cu a wa gi al nu d)))(x:Ex)(l:List Val)(hl:(l.length:Int)=a)(aZ:∀v∈l,v.Ok)(hwd:k=20→1≤x.width∧x.width≤1099511627776):L0 w d x l (wF k x.width l):=by
 have two:a=2→∃u v,l=[u,v]:=fun e=>by
  match l,hl with
  | [u,v],_=>exact⟨u,v,rfl⟩
  | [],h=>simp at h;omega
  | [u],h=>simp at h;omega
  | u::v::z::r,h=>simp at h;omega
 have one:a=1→∃u,l=[u]:=fun e=>by
  match l,hl with
  | [u],_=>exact⟨u,rfl⟩
  | [],h=>simp at h;omega
  | u::v::r,h=>simp at h;omega
 unfold ij at h;split at h
 ·simp only[eP,cu,Value.agg.injEq,Array.mk.injEq,List.cons.injEq,Value.int.injEq,Value.bool.injEq,true_and,and_true] at h;obtain⟨h1,h2,h3,h4,h5,rfl⟩:=h;obtain⟨u,rfl⟩:=one (by omega);exact⟨_,#[],rfl,.inl rfl,My,fun W A c hb hr=>Qp x A c u W hr⟩
 ·simp only[eP,cu,Value.agg.injEq,Array.mk.injEq,List.cons.injEq,Value.int.injEq,Value.bool.injEq,true_and,and_true] at h;obtain⟨h1,h2,h3,h4,h5,rfl⟩:=h;obtain⟨u,rfl⟩:=one (by omega);exact⟨_,#[],rfl,.inl rfl,Mz,fun W A c hb hr=>Qq x A c u W hr⟩
 ·obtain⟨q,h,hq⟩:=h;simp only[eP,cu,Value.agg.injEq,Array.mk.injEq,List.cons.injEq,Value.int.injEq,Value.bool.injEq,true_and,and_true] at h;obtain⟨h1,h2,h3,h4,h5,rfl⟩:=h;obtain⟨u,v,rfl⟩:=two (by omega);exact⟨_,#[_],rfl,.inr ⟨_,rfl⟩,oN,fun W A c hb hr=>Ur x A c q u v W hr (hq.later hb)⟩
 ·obtain⟨q,h,hq⟩:=h;simp only[eP,cu,Value.agg.injEq,Array.mk.injEq,List.cons.injEq,Value.int.injEq,Value.bool.injEq,true_and,and_true] at h;obtain⟨h1,h2,h3,h4,h5,rfl⟩:=h;obtain⟨u,v,rfl⟩:=two (by omega);exact⟨_,#[_],rfl,.inr ⟨_,rfl⟩,oN,fun W A c hb hr=>Us x A c q u v W hr (hq.later hb)⟩
 ·obtain⟨q,h,hq⟩:=h;simp only[eP,cu,Value.agg.injEq,Array.mk.injEq,List.cons.injEq,Value.int.injEq,Value.bool.injEq,true_and,and_true] at h;obtain⟨h1,h2,h3,h4,h5,rfl⟩:=h;obtain⟨u,v,rfl⟩:=two (by omega);exact⟨_,#[_],rfl,.inr ⟨_,rfl⟩,oN,fun W A c hb hr=>Mq x A c q u v W hr (hq.later hb)⟩
 ·obtain⟨q,q2,h,hq,oh⟩:=h;simp only[eP,cu,Value.agg.injEq,Array.mk.injEq,List.cons.injEq,Value.int.injEq,Value.bool.injEq,true_and,and_true] at h;obtain⟨h1,h2,h3,h4,h5,rfl⟩:=h;obtain⟨u,v,rfl⟩:=two (by omega);exact⟨_,#[_],rfl,.inr ⟨_,rfl⟩,oN,fun W A c hb hr=>Ut x A c q u v q2 W hr (hq.later hb) (oh.later hb)⟩
 ·obtain⟨q,q2,h,hq,oh⟩:=h;simp only[eP,cu,Value.agg.injEq,Array.mk.injEq,List.cons.injEq,Value.int.injEq,Value.bool.injEq,true_and,and_true] at h;obtain⟨h1,h2,h3,h4,h5,rfl⟩:=h;obtain⟨u,v,rfl⟩:=two (by omega);exact⟨_,#[_],rfl,.inr ⟨_,rfl⟩,oN,fun W A c hb hr=>Uu x A c q u v q2 W hr (hq.later hb) (oh.later hb)⟩
 ·obtain⟨q,h,hq⟩:=h;simp only[eP,cu,Value.agg.injEq,Array.mk.injEq,List.cons.injEq,Value.int.injEq,Value.bool.injEq,true_and,and_true] at h;obtain⟨h1,h2,h3,h4,h5,rfl⟩:=h;obtain⟨u,v,rfl⟩:=two (by omega);exact⟨_,#[_],rfl,.inr ⟨_,rfl⟩,mJ,fun W A c hb hr=>XN x A c q u v W hr (hq.later hb)⟩
 ·obtain⟨q,h,hq⟩:=h;simp only[eP,cu,Value.agg.injEq,Array.mk.injEq,List.cons.injEq,Value.int.injEq,Value.bool.injEq,true_and,and_true] at h;obtain⟨h1,h2,h3,h4,h5,rfl⟩:=h;obtain⟨u,v,rfl⟩:=two (by omega);exact⟨_,#[_],rfl,.inr ⟨_,rfl⟩,mJ,fun W A c hb hr=>XO x A c q u v W hr (hq.later hb)⟩
 ·obtain⟨q,h,hq⟩:=h;simp only[eP,cu,Value.agg.injEq,Array.mk.injEq,List.cons.injEq,Value.int.injEq,Value.bool.injEq,true_and,and_true] at h;obtain⟨h1,h2,h3,h4,h5,rfl⟩:=h;obtain⟨u,v,rfl⟩:=two (by omega);exact⟨_,#[_],rfl,.inr ⟨_,rfl⟩,mJ,fun W A c hb hr=>XP x A c q u v W hr (hq.later hb)⟩
 ·obtain⟨q,h,hq⟩:=h;simp only[eP,cu,Value.agg.injEq,Array.mk.injEq,List.cons.injEq,Value.int.injEq,Value.bool.injEq,true_and,and_true] at h;obtain⟨h1,h2,h3,h4,h5,rfl⟩:=h;obtain⟨u,v,rfl⟩:=two (by omega);exact⟨_,#[_],rfl,.inr ⟨_,rfl⟩,mJ,fun W A c hb hr=>XQ x A c q u v W hr (hq.later hb)⟩
 ·obtain⟨q,h,hq⟩:=h;simp only[eP,cu,Value.agg.injEq,Array.mk.injEq,List.cons.injEq,Value.int.injEq,Value.bool.injEq,true_and,and_true] at h;obtain⟨h1,h2,h3,h4,h5,rfl⟩:=h;obtain⟨u,v,rfl⟩:=two (by omega);exact⟨_,#[_],rfl,.inr ⟨_,rfl⟩,mJ,fun W A c hb hr=>XR x A c q u v W hr (hq.later hb)⟩
 ·obtain⟨q,h,hq⟩:=h;simp only[eP,cu,Value.agg.injEq,Array.mk.injEq,List.cons.injEq,Value.int.injEq,Value.bool.injEq,true_and,and_true] at h;obtain⟨h1,h2,h3,h4,h5,rfl⟩:=h;obtain⟨u,v,rfl⟩:=two (by omega);exact⟨_,#[_],rfl,.inr ⟨_,rfl⟩,mJ,fun W A c hb hr=>XS x A c q u v W hr (hq.later hb)⟩
 ·obtain⟨q,h,hq⟩:=h;simp only[eP,cu,Value.agg.injEq,Array.mk.injEq,List.cons.injEq,Value.int.injEq,Value.bool.injEq,true_and,and_true] at h;obtain⟨h1,h2,h3,h4,h5,rfl⟩:=h;obtain⟨u,v,rfl⟩:=two (by omega);exact⟨_,#[_],rfl,.inr ⟨_,rfl⟩,CO,fun W A c hb hr=>CB x A c q _ [u,v] W hr (by simp) (hq.later hb)⟩
 ·obtain⟨q,h,hq⟩:=h;simp only[eP,cu,Value.agg.injEq,Array.mk.injEq,List.cons.injEq,Value.int.injEq,Value.bool.injEq,true_and,and_true] at h;obtain⟨h1,h2,h3,h4,h5,rfl⟩:=h;obtain⟨u,v,rfl⟩:=two (by omega);exact⟨_,#[_],rfl,.inr ⟨_,rfl⟩,CO,fun W A c hb hr=>CB x A c q _ [u,v] W hr (by simp) (hq.later hb)⟩
 ·obtain⟨q,h,hq⟩:=h;simp only[eP,cu,Value.agg.injEq,Array.mk.injEq,List.cons.injEq,Value.int.injEq,Value.bool.injEq,true_and,and_true] at h;obtain⟨h1,h2,h3,h4,h5,rfl⟩:=h;obtain⟨u,rfl⟩:=one (by omega);exact⟨_,#[_],rfl,.inr ⟨_,rfl⟩,CP,fun W A c hb hr=>Cz x A c q _ u W hr (hq.later hb)⟩
 ·obtain⟨q,h,hq⟩:=h;simp only[eP,cu,Value.agg.injEq,Array.mk.injEq,List.cons.injEq,Value.int.injEq,Value.bool.injEq,true_and,and_true] at h;obtain⟨h1,h2,h3,h4,h5,rfl⟩:=h;obtain⟨u,rfl⟩:=one (by omega);exact⟨_,#[_],rfl,.inr ⟨_,rfl⟩,CP,fun W A c hb hr=>Cz x A c q _ u W hr (hq.later hb)⟩
 ·simp only[eP,cu,Value.agg.injEq,Array.mk.injEq,List.cons.injEq,Value.int.injEq,Value.bool.injEq,true_and,and_true] at h;obtain⟨h1,h2,h3,h4,h5,rfl⟩:=h;obtain⟨u,rfl⟩:=one (by omega);exact⟨_,#[],rfl,.inl rfl,MA,fun W A c hb hr=>JG x A c u W hr (hwd rfl).1 (hwd rfl).2 (aZ u (by simp))⟩
 ·exact h.elim
section
variable {α:Type} {f:α→List Value} {e:TypeId} {size:Nat} {base:Nat} {lv:Value} {l:List α} {y:α}
structure AR (f:α→List Value) (e:TypeId) (size base:Nat) (lv:Value) (l:List α) (y:α) (a b:World):Prop where
 grown:a.grownBy b lv.ownBlock
 old:aQ f e size a base lv l→aQ f e size b base lv l
 new:∀u,aQ f e size a base u (l++ [y])→aQ f e size b base u (l++ [y])
theorem AR.refl (w:World):AR f e size base lv l y w w:=⟨⟨rfl,rfl,rfl,Nat.le_refl _,fun _ _ _=>rfl⟩,id,fun _=>id⟩
theorem AR.trans {a b c:World}(h:AR f e size base lv l y a b)(k:AR f e size base lv l y b c):AR f e size base lv l y a c:=
 ⟨h.grown.trans k.grown,fun o=>k.old (h.old o),fun u o=>k.new u (h.new u o)⟩
theorem AR.later {a b:World}(h:Below a.heap.size a b):AR f e size base lv l y a b:=
 ⟨⟨h.os,h.tape,h.output,h.size,fun k hk _=>h.block k hk⟩,fun o=>o.later h,fun u o=>o.later h⟩
theorem AR.drew (w:World):AR f e size base lv l y w w.drew:=AR.later (ae.drew w)
theorem ei {P:Program} {w:World}(t ty:TypeId)(z:Value)(bytes:Nat)(ht:P.underlying t=some (.slice e))(jV:(P.info? e).map (fun i=>(i.zero,i.size,i.bytes))=some (some z,size,bytes))(hzs:z.cells.size=size)(hsz:0 < size)
  (hf:∀x,(f x).length=size) (h1:∀u∈f y,u.oneCell'=true) (hown:aQ f e size w base lv l)
  (g0:Nat) (hg0:ag w g0 e (f y).toArray) (hlen:(l.length+1)*bytes≤140737488355328) (ld:l.length+1≤140737488355328) (hbase:base≤w.heap.size):
  ∃v' w',(Builtin.append_ #[t,t] ty #[lv,.slice (some ⟨g0,0,none⟩) 1 1]).run P w=.ok v' w'∧aQ f e size w' base v' (l++ [y])∧AR f e size base lv l y w w':=by
 obtain⟨i0,qj,hz0,hz1,hz2⟩:=info_parts jV;have hnews:∀j u,(f y)[j]?=some u→w.cell? ((⟨g0,0,none⟩:Addr).add j)=some u:=by
  intro j u hu;have:(Addr.add ⟨g0,0,none⟩ j)=⟨g0,j,none⟩:=by unfold Addr.add;split <;> simp_all
  rw[this,hg0.cell];simpa using hu
 have dN:(f y).length=1*size:=by rw[hf];omega
 have conv:∀ {w':World} {v':Value},w'.ownsRow base e size v' (l.length+1) (l.flatMap f++f y)→aQ f e size w' base v' (l++ [y]):=fun h=>by unfold aQ;rw[List.length_append,List.flatMap_append];simpa using h
 by_cases hroom:∃g cap,lv=.slice (some ⟨g,0,none⟩) l.length cap∧l.length+1≤cap
 ·obtain⟨g,cap,rfl,hr⟩:=hroom;obtain⟨w',hrun,ho,hg⟩:=run_append_fits (P:=P) w base t ty e i0 size ht qj hz1 g l.length cap (l.flatMap f) hown ⟨g0,0,none⟩ 1 1 (f y) dN hnews h1 hr;refine⟨_,w',hrun,conv ho,hg,fun _=>?_,fun u hu=>?_⟩
  ·rcases ho.2 with ⟨h,_⟩|⟨g',cap',cur,h,hbg,dh,hn,hm,hs,Ux⟩
   ·cases h
   ·injection h with kD tE SK;injection kD with kD;injection kD with kD _ _;subst kD SK;refine⟨hown.1,.inr ⟨g,cap,cur,rfl,hbg,dh,by omega,hm,hs,?_⟩⟩;have hx:=congrArg (List.take (l.length*size)) Ux;rw[List.take_take,Nat.min_eq_left (Nat.mul_le_mul_right _ (by omega)),List.take_append_of_le_length (Nat.le_of_eq hown.1.symm)] at hx;rw[hx];exact List.take_of_length_le (Nat.le_of_eq hown.1)
  ·by_cases hb:u.ownBlock=some g
   ·rcases hu.2 with ⟨rfl,_⟩|⟨g',cap',cur,rfl,hbg,dh,hn,hm,hs,Ux⟩
    ·simp[Value.ownBlock] at hb
    ·simp only[Value.ownBlock,Option.some.injEq] at hb;subst hb;rcases hown.2 with ⟨h,_⟩|⟨g2,L1,L3,h,_,tK,_,_,hs2,_⟩
     ·cases h
     ·injection h with kD tE SK;injection kD with kD;injection kD with kD _ _;subst kD SK;rw[dh] at tK;injection tK with tK;injection tK with tK _ _;subst tK;have Uy:cap'=cap:=Nat.eq_of_mul_eq_mul_right hsz (hs.symm.trans hs2);subst Uy;have:=conv ho;rw[List.length_append];exact this
   ·exact hu.keep fun q hq=>hg.block q (hu.lt hq).1 fun e=>hb (by rw[hq];exact e)
 ·obtain⟨v',w',hrun,ho,hg,_,hat⟩:=run_append_own_at (P:=P) w base t ty e i0 z size bytes ht qj hz0 hz1 hz2 hzs hsz lv l.length (l.flatMap f) hown ⟨g0,0,none⟩ 1 1 (f y) dN hnews h1 (by unfold maxLen;omega) hlen hbase;have Uz:Below w.heap.size w w':=by
   rcases hown.2 with ⟨rfl,h0⟩|⟨g,cap,cur,rfl,hbg,dh,hn,hm,hs,yK⟩
   ·have hr:=run_append_nil (P:=P) w t ty e i0 z ht qj hz0 ⟨g0,0,none⟩ 1 1 (f y) (by rw[hz1];exact dN) hnews (by omega) (by omega) (by rw[hz2];have:1*bytes≤(l.length+1)*bytes:=Nat.mul_le_mul_right _ (by omega);omega);rw[hr] at hrun;injection hrun with _ hw;rw[← hw];exact(ae.drew w).alloc (Nat.le_refl _) _
   ·have hno:¬l.length+1≤cap:=fun h=>hroom ⟨g,cap,rfl,h⟩
    have holds:∀j u,(l.flatMap f)[j]?=some u→w.cell? ((⟨g,0,none⟩:Addr).add j)=some u:=World.ownsRow.cells hown (g:=g) rfl;have hr:=run_append_grow (P:=P) w t ty e i0 z ht qj hz0 ⟨g,0,none⟩ l.length cap (l.flatMap f) (by rw[hz1];exact hown.1) holds ⟨g0,0,none⟩ 1 1 (f y) (by rw[hz1];exact dN) hnews (by omega) (by omega) (by rw[hz2];exact growslice_fits (by omega) hlen);rw[hr] at hrun;injection hrun with _ hw;rw[← hw];exact(ae.drew w).alloc (Nat.le_refl _) _
  exact⟨v',w',hrun,conv ho,AR.later Uz⟩
end
def dD (v:Val):List Value:=[.int .u8 v.k,.int .i64 v.n,.string v.s]
def gu (k:Int):List Value:=[.int .u8 k]
theorem CQ:(Tryz.prog.info? 26).map (fun i=>(i.zero,i.size,i.bytes))=some (some (.agg #[.int .u8 0,.int .i64 0,.string ⟨#[]⟩]),3,32):=by kernel_rfl
theorem CR (b off n:Nat):Addr.add ⟨b,off,none⟩ n=⟨b,off+n,none⟩:=by
 unfold Addr.add;split
 ·rename_i h;subst h;rfl
 ·rfl
theorem Ie {α:Type} {f:α→List Value} {size:Nat}(hf:∀x,(f x).length=size):∀(l:List α) (i j:Nat) (x:α),l[i]?=some x→j < size→(l.flatMap f)[i*size+j]?=(f x)[j]?
 | [],i,j,x,h,hj=>by simp at h
 | y::l,0,j,x,h,hj=>by simp at h;subst h;simp only[List.flatMap_cons,Nat.zero_mul,Nat.zero_add];rw[List.getElem?_append_left (by rw[hf];exact hj)]
 | y::l,i+1,j,x,h,hj=>by have:=Ie hf l i j x (by simpa using h) hj;simp only[List.flatMap_cons];rw[List.getElem?_append_right (by rw[hf,Nat.succ_mul];omega),hf,← this];congr 1;rw[Nat.succ_mul];omega
theorem tL {α:Type} {f:α→List Value} {e:TypeId} {size:Nat}(hf:∀x,(f x).length=size) {w:World} {base:Nat} {v:Value} {l:List α}(h:aQ f e size w base v l):
  ∃A c,v=.slice A l.length c∧(l=[]∨∃g,A=some ⟨g,0,none⟩∧g < w.heap.size∧∀i x j u,l[i]?=some x→j < size→(f x)[j]?=some u→w.cell? ⟨g,i*size+j,none⟩=some u):=by
 obtain⟨A,c,rfl,hr,_,hA⟩:=h.reads;refine⟨A,c,rfl,?_⟩;rcases hA with rfl |⟨g,rfl,hg⟩
 ·exact .inl rfl
 ·rcases List.eq_nil_or_concat l with rfl | hne
  ·exact .inl rfl
  ·have JK:0 < l.length:=by obtain⟨_,_,rfl⟩:=hne;simp
   obtain⟨ad,e,hb,hc⟩:=hr.2 JK;injection e with e;subst e;refine .inr ⟨g,rfl,hb,fun i x j u hx hj hu=>?_⟩;have:=hc (i*size+j) u ((Ie hf l i j x hx hj).trans hu);rw[CR] at this;simpa using this
theorem UA {w:World} {base:Nat} {v:Value} {l:List Val}(h:aQ dD 26 3 w base v l):∃A c,v=.slice A l.length c∧RV w w.heap.size A l:=by
 obtain⟨A,c,rfl,hc⟩:=tL (f:=dD) (size:=3) (fun _=>rfl) h;refine⟨A,c,rfl,?_⟩;rcases hc with hc |⟨g,rfl,hg,hc⟩
 ·exact .inl hc
 ·refine .inr ⟨g,0,rfl,hg,fun i x hx=>?_⟩;have k:=fun j u hj hu=>hc i x j u hx hj hu
  exact⟨by simpa using k 0 _ (by omega) rfl,by simpa using k 1 _ (by omega) rfl,by simpa using k 2 _ (by omega) rfl⟩
def nB (op:Int):Int:=if op=4∨op=16∨op=17 then 1 else if 10≤op∧op≤15∨op=18∨op=19 then 0 else 2
def lj (op:Int):Int:=if op=4∨10≤op∧op≤19 then 1 else 2
def qU (op:Int):Bool:=decide (10≤op∧op≤15)
def qV (op:Int):Bool:=decide (16≤op∧op≤19)
theorem ij.fields {w:World} {k:Nat} {a wa gi:Int} {al nu:Bool} {d:Value}(h:ij w k (.agg (cu a wa gi al nu d))):wa=nB k∧gi=lj k∧al=qU k∧nu=qV k:=by
 unfold ij at h;split at h;all_goals first
  | exact h.elim
  |(simp[eP,cu] at h;simp[nB,lj,qU,qV];simp_all)
  |(obtain⟨q,q2,h1,_⟩:=h;simp[eP,cu] at h1;simp[nB,lj,qU,qV];simp_all)
  |(obtain⟨q,h1,_⟩:=h;simp[eP,cu] at h1;simp[nB,lj,qU,qV];simp_all)
theorem wG {x:Ex}(h:bc x=0)(h2:x.op≠2)(h1:x.op≠1):gp x.op=true∧(x.n:Int)=lh x.op∧(x.op=20→1≤x.width∧x.width≤1099511627776):=by
 unfold bc at h;rw[if_neg (by simp[h1,h2])] at h;split at h
 ·rename_i hc;refine⟨hc.1,hc.2.1,fun e=>?_⟩;rcases hc.2.2 with h3 | h3
  ·exact absurd e h3
  ·exact h3
 ·split at h <;> omega
theorem pM {op:Int} {xv:Val} {name:ByteArray} {width:Int} {A:Option Addr} {α:Type} {l:List α} {c:Nat}(h:bc ⟨op,xv,name,width,A,l.length,c⟩=0)(h2:op=2):l=[]:=by
 subst h2;unfold bc at h;split at h
 ·rename_i hc;rcases hc with ⟨h3,_⟩|⟨_,h3⟩
  ·exact absurd h3 (show¬((2:Int)=1) by decide)
  ·exact List.eq_nil_of_length_eq_zero h3
 ·split at h
  ·rename_i hc;exact absurd hc.1 (show¬(gp 2=true) by decide)
  ·split at h <;> omega
def fq (op:Int):List Int→Bool
 | [k]=>dC k (nB op)
 | [k,j]=>dC k (nB op)&&(dC j (nB op)&&(!qU op || dC k j))
 | _=>false
def cn (op width:Int)(vs:List Val):Val×Int:=
 if fq op (vs.map (·.k))=false then(ah,40)else if qV op=false∧(vs.map (·.k)).any (· ==0)=true then(ah,0)else wF op.toNat width vs
def om (x:Ex)(vs:List Val):Val×Int:=
 if bc x≠0 then(ah,bc x)else if x.op=1 then(x.v,0)else cn x.op x.width vs
def Yi (base:Nat)(lv kv:Value)(vs:List Val)(v:Val)(g:Nat):Nat→World→Value→Prop
 | 0=>fun _ u=>u=lv
 | 1=>fun _ u=>u=.agg #[.int .u8 v.k,.int .i64 v.n,.string v.s]
 | 2=>fun w u=>∃q,u=.slice (some ⟨q,0,none⟩) 1 1∧ag w q 26 (dD v).toArray∧some q≠lv.ownBlock
 | 3=>fun w u=>aQ dD 26 3 w base u (vs++ [v])
 | 4=>fun _ u=>u=kv
 | 5=>fun _ u=>u=.pointer (some ⟨g,0,none⟩)
 | 6=>fun _ u=>u=.int .u8 v.k
 | 7=>fun w u=>∃q,u=.slice (some ⟨q,0,none⟩) 1 1∧ag w q 5 (gu v.k).toArray∧some q≠lv.ownBlock
 | _=>fun _ _=>True
theorem zJ (base:Nat)(lv kv:Value)(vs:List Val)(v:Val)(g:Nat)(i:Nat)(w w':World)(u:Value)(h:Yi base lv kv vs v g i w u)(hr:AR dD 26 3 base lv vs v w w'):Yi base lv kv vs v g i w' u:=by
 unfold Yi at*;split at h
 ·exact h
 ·exact h
 ·obtain⟨q,h1,h2,h3⟩:=h;exact⟨q,h1,h2.grown hr.grown h3,h3⟩
 ·exact hr.new _ h
 ·exact h
 ·exact h
 ·exact h
 ·obtain⟨q,h1,h2,h3⟩:=h;exact⟨q,h1,h2.grown hr.grown h3,h3⟩
 ·trivial
theorem Yj {α:Type} {l:List α}(h:l.length=1):∃p,l=[p]:=by
 match l,h with
 | [p],_=>exact⟨p,rfl⟩
theorem Yk {α:Type} {l:List α}(h:l.length=2):∃p q,l=[p,q]:=by
 match l,h with
 | [p,q],_=>exact⟨p,q,rfl⟩
theorem aQ.differ {α β:Type} {f:α→List Value} {f':β→List Value} {e e':TypeId} {size size' base base':Nat} {w:World} {u u':Value} {l:List α} {l':List β}(h:aQ f e size w base u l)(h':aQ f' e' size' w base' u' l')(hne:e≠e') {q:Nat}(hq:u.ownBlock=some q):some q≠u'.ownBlock:=by intro hq';obtain⟨_,_,c1,h1⟩:=h.lt hq;obtain⟨_,_,c2,h2⟩:=h'.lt hq'.symm;rw[h1] at h2;injection h2 with h2;injection h2 with _ h2 _;exact hne h2
theorem aQ.past {α β:Type} {f:α→List Value} {f':β→List Value} {e e':TypeId} {size size' base base':Nat} {w w':World} {u u':Value} {l:List α} {l':List β}(h:aQ f e size w base u l)(h':aQ f' e' size' w base' u' l')(hne:e≠e')(hg:w.grownBy w' u'.ownBlock):aQ f e size w' base u l:=
 h.keep fun q hq=>hg.block q (h.lt hq).1 (h.differ h' hne hq)
def cw (w:World)(b off:Nat)(y:Ex):Prop:=
 w.cell? ⟨b,off,none⟩=some (.int .u8 y.op)∧w.cell? ⟨b,off+1,none⟩=some (.int .u8 y.v.k)∧w.cell? ⟨b,off+2,none⟩=some (.int .i64 y.v.n)∧w.cell? ⟨b,off+3,none⟩=some (.string y.v.s)∧
 w.cell? ⟨b,off+4,none⟩=some (.string y.name)∧w.cell? ⟨b,off+5,none⟩=some (.int .i64 y.width)∧w.cell? ⟨b,off+6,none⟩=some (.slice y.A y.n y.c)
theorem cw.keep {w w':World} {b off:Nat} {x:Ex}(h:cw w b off x)(hk:∀o,w'.cell? ⟨b,o,none⟩=w.cell? ⟨b,o,none⟩):cw w' b off x:=by unfold cw at*;simp only[hk];exact h
def RE (w:World)(B:Nat)(A:Option Addr)(l:List Ex):Prop:=
 l=[]∨∃b off,A=some ⟨b,off,none⟩∧b < B∧∀i x,l[i]?=some x→cw w b (off+i*7) x
theorem RE.below {w w':World} {B:Nat} {A:Option Addr} {l:List Ex}(h:RE w B A l)(hb:Below B w w'):RE w' B A l:=by
 rcases h with h |⟨b,off,h1,h2,h3⟩
 ·exact .inl h
 ·exact .inr ⟨b,off,h1,h2,fun i x hx=>(h3 i x hx).keep fun o=>hb.cell (p:=⟨b,o,none⟩) h2⟩
theorem RE.more {w:World} {B B':Nat} {A:Option Addr} {l:List Ex}(h:RE w B A l)(hB:B≤B'):RE w B' A l:=by
 rcases h with h |⟨b,off,h1,h2,h3⟩
 ·exact .inl h
 ·exact .inr ⟨b,off,h1,by omega,h3⟩
theorem RE.at_ {w:World} {B:Nat} {A:Option Addr} {l:List Ex}(h:RE w B A l) {k:Nat}(hk:k < l.length):∃b off,A=some ⟨b,off,none⟩∧b < B∧cw w b (off+k*7) l[k]:=by
 rcases h with h |⟨b,off,h1,h2,h3⟩
 ·subst h;simp at hk
 ·exact⟨b,off,h1,h2,h3 k _ (List.getElem?_eq_getElem hk)⟩
def qW (w:World)(cV rV:Value)(y:Ex)(v:Val)(e:Int):Prop:=∀W,Below w.heap.size w W→Calls Tryz.prog 24 #[.agg #[.int .u8 y.op,.int .u8 y.v.k,.int .i64 y.v.n,.string y.v.s,.string y.name,.int .i64 y.width,.slice y.A y.n y.c],cV,rV] W fun en w'=>en=.returned (cI v e)∧Below W.heap.size W w'
end Go.Proofs.YtfmbcoeallmnnaaGreatDoor
