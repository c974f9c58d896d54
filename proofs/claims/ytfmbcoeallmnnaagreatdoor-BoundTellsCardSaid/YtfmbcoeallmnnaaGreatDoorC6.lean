/- Parts of the proof. -/
import Derived.Test.YtfmbcoeallmnnaaGreatDoorC5
namespace Go.Proofs.YtfmbcoeallmnnaaGreatDoor
open Go.Lib (hid)
open Go.ChangeShapes Go.WideShapes Go.ChangeAt Go.RowKit
set_option linter.unusedVariables false
set_option linter.unusedSimpArgs false
theorem oH (t:Int)(w:World):Calls Tryz.prog 49 #[.int .u8 t] w fun e w'=>e=.returned (.bool (t==0))∧w=w':=by go_enter Tryz.func49,Tryz.ntmps49;go_wp2;go_ret;exact⟨rfl,rfl⟩
def il (a b:Int):Int:=if a=0 then 0 else if b=0 then 1 else -1
set_option maxHeartbeats 1000000
set_option maxRecDepth 100000
theorem pB (g c:Nat)(a b:Int)(w:World)(h0:w.cell? ⟨g,0,none⟩=some (.int .u8 a))(h1:w.cell? ⟨g,1,none⟩=some (.int .u8 b)):
  Calls Tryz.prog 71 #[.slice (some ⟨g,0,none⟩) 2 c,.func (.func 49) #[] #[]] w fun e w'=>e=.returned (.int .i64 (il a b))∧w=w':=by
 unfold il;cases ha:(a==0)
 ·have ha':¬a=0:=by simpa using ha
  rw[if_neg ha'];cases hb:(b==0)
  ·have hb':¬b=0:=by simpa using hb
   rw[if_neg hb'];have k1:=oH a;have k2:=oH b;rw[ha] at k1;rw[hb] at k2;have K1:=hid k1;have K2:=hid k2;clear k1 k2 ha' hb';go_enter Tryz.func71,Tryz.ntmps71;go_wp2_with fail;refine wp_loop_rounds 3 ?_;rw[rounds_succ];go_wp2_with fail;refine(K1.out _).mono ?_;rintro e w1 ⟨rfl,rfl⟩;go_wp2_with fail;rw[rounds_succ];go_wp2_with fail;refine(K2.out _).mono ?_;rintro e w1 ⟨rfl,rfl⟩;go_wp2_with fail;rw[rounds_succ];go_wp2_with fail;go_ret;exact⟨rfl,rfl⟩
  ·have hb':b=0:=by simpa using hb
   rw[if_pos hb'];have k1:=oH a;have k2:=oH b;rw[ha] at k1;rw[hb] at k2;have K1:=hid k1;have K2:=hid k2;clear k1 k2 ha' hb';go_enter Tryz.func71,Tryz.ntmps71;go_wp2_with fail;refine wp_loop_rounds 3 ?_;rw[rounds_succ];go_wp2_with fail;refine(K1.out _).mono ?_;rintro e w1 ⟨rfl,rfl⟩;go_wp2_with fail;rw[rounds_succ];go_wp2_with fail;refine(K2.out _).mono ?_;rintro e w1 ⟨rfl,rfl⟩;go_wp2_with fail;go_ret;exact⟨rfl,rfl⟩
 ·have ha':a=0:=by simpa using ha
  rw[if_pos ha'];have k1:=oH a;rw[ha] at k1;have K1:=hid k1;clear k1 ha';go_enter Tryz.func71,Tryz.ntmps71;go_wp2_with fail;refine wp_loop_rounds 3 ?_;rw[rounds_succ];go_wp2_with fail;refine(K1.out _).mono ?_;rintro e w1 ⟨rfl,rfl⟩;go_wp2_with fail;go_ret;exact⟨rfl,rfl⟩
theorem Mm (w:World):(zeroValue 5).run Tryz.prog w=.ok (.int .u8 0) w:=by kernel_rfl
theorem oI (w:World)(g o n c:Nat)(cs:Array Value)(h:ah w g 5 cs)(hn:0 < n)(hs:o+n≤cs.size):
  (Builtin.clear_ #[73] 0 #[.slice (some ⟨g,o,none⟩) n c]).run Tryz.prog w=.ok (.tuple #[]) (w.setCells g o (List.replicate n (.int .u8 0))):=
 Go.Lib.run_clear_slice w 73 5 0 (.int .u8 0) Tryz.underlying73 Mm rfl rfl g o n c hn (fun j hj=>by rw[h.cell,Array.getElem?_eq_getElem (by omega)];rfl) (fun j hj=>h.frozen _)
theorem fN {B:Nat} {w0:World}(g:Nat)(hg:B≤g):∀(vs:List Value) (o:Nat) (w:World),Below B w0 w→Below B w0 (w.setCells g o vs)
 | [],o,w,h=>h
 | v::vs,o,w,h=>by rw[World.setCells];exact fN g hg vs (o+1) _ (h.setCell (p:=⟨g,o,none⟩) hg v)
def Mn (g c:Nat)(w:World)(e:Ending)(w':World):Prop:=∃n,n≤1∧e=.returned (.slice (some ⟨g,0,none⟩) n c)∧Below g w w'
set_option maxHeartbeats 2000000
theorem CB (g c:Nat)(a b:Int)(cs:Array Value)(w:World)(h:ah w g 5 cs)(hsz:2≤cs.size)(h0:cs[0]?=some (.int .u8 a))(h1:cs[1]?=some (.int .u8 b))(hc:2≤c)(hab:a=0∨b=0):
  Calls Tryz.prog 47 #[.slice (some ⟨g,0,none⟩) 2 c,.func (.func 49) #[] #[]] w (Mn g c w):=by
 have c0:=(h.cell 0).trans h0;have c1:=(h.cell 1).trans h1;have fz:=h.frozen;have ki:=pB g c a b w c0 c1;have k2:=oH b;cases ha:(a==0)
 ·have ha':¬a=0:=by simpa using ha
  have hb':b=0:=by omega
  have e0:il a b=1:=by simp[il,ha',hb']
  rw[e0] at ki;have KI:=hid ki;have gR:=oI w g 1 1 (c - 1) cs h (by omega) (by omega);have hB:=fN g (Nat.le_refl g) (List.replicate 1 (.int .u8 0)) 1 w (Below.refl g w);clear ki k2 e0 ha' hb' hab;generalize w.setCells g 1 (List.replicate 1 (.int .u8 0))=W at*;go_enter Tryz.func47,Tryz.ntmps47;go_wp2_with fail;refine KI.out.mono ?_;rintro e w1 ⟨rfl,rfl⟩;go_wp2_with fail;refine wp_loop_rounds 3 ?_;rw[rounds_succ];go_wp2_with fail;go_ret;exact⟨1,Nat.le_refl _,rfl,hB⟩
 ·have ha':a=0:=by simpa using ha
  have e0:il a b=0:=by simp[il,ha']
  rw[e0] at ki;have KI:=hid ki;clear ki e0 ha' hab;cases hb:(b==0)
  ·rw[hb] at k2;have K2:=hid k2;clear k2;have hs:=h.cn 0 (.int .u8 b);have gR:=oI (w.setCell ⟨g,0,none⟩ (.int .u8 b)) g 1 1 (c - 1) _ hs (by omega) (by simp;omega);have hB:=fN g (Nat.le_refl g) (List.replicate 1 (.int .u8 0)) 1 _ ((Below.refl g w).setCell (p:=⟨g,0,none⟩) (Nat.le_refl g) (.int .u8 b));generalize (w.setCell ⟨g,0,none⟩ (.int .u8 b)).setCells g 1 (List.replicate 1 (.int .u8 0))=W at*;go_enter Tryz.func47,Tryz.ntmps47;go_wp2_with fail;refine KI.out.mono ?_;rintro e w1 ⟨rfl,rfl⟩;go_wp2_with fail;refine wp_loop_rounds 3 ?_;rw[rounds_succ];go_wp2_with fail;refine(K2.out _).mono ?_;rintro e w1 ⟨rfl,rfl⟩;go_wp2_with fail;rw[rounds_succ];go_wp2_with fail;go_ret;exact⟨1,Nat.le_refl _,rfl,hB⟩
  ·rw[hb] at k2;have K2:=hid k2;clear k2;have gR:=oI w g 0 2 c cs h (by omega) (by omega);have hB:=fN g (Nat.le_refl g) (List.replicate 2 (.int .u8 0)) 0 w (Below.refl g w);generalize w.setCells g 0 (List.replicate 2 (.int .u8 0))=W at*;go_enter Tryz.func47,Tryz.ntmps47;go_wp2_with fail;refine KI.out.mono ?_;rintro e w1 ⟨rfl,rfl⟩;go_wp2_with fail;refine wp_loop_rounds 3 ?_;rw[rounds_succ];go_wp2_with fail;refine(K2.out _).mono ?_;rintro e w1 ⟨rfl,rfl⟩;go_wp2_with fail;rw[rounds_succ];go_wp2_with fail;go_ret;exact⟨0,by omega,rfl,hB⟩
theorem Ad (g c:Nat)(a b:Int)(w:World)(c0:w.cell? ⟨g,0,none⟩=some (.int .u8 a))(c1:w.cell? ⟨g,1,none⟩=some (.int .u8 b))(ha:a≠0)(hb:b≠0):
  Calls Tryz.prog 47 #[.slice (some ⟨g,0,none⟩) 2 c,.func (.func 49) #[] #[]] w fun e w'=>e=.returned (.slice (some ⟨g,0,none⟩) 2 c)∧w=w':=by
 have ki:=pB g c a b w c0 c1;have e0:il a b= -1:=by simp[il,ha,hb]
 rw[e0] at ki;have KI:=hid ki;clear ki e0;go_enter Tryz.func47,Tryz.ntmps47;go_wp2_with fail;refine KI.out.mono ?_;rintro e w1 ⟨rfl,rfl⟩;go_wp2_with fail;go_ret;exact⟨rfl,rfl⟩
theorem wO (g c n:Nat)(hn:n≤1)(w:World):Calls Tryz.prog 50 #[.slice (some ⟨g,0,none⟩) n c] w fun e w'=>e=.returned (.slice (some ⟨g,0,none⟩) n c)∧w=w':=by
 have d1:decide ((n:Int)< 2)=true:=by simp;omega
 go_enter Tryz.func50,Tryz.ntmps50;go_wp2_with fail;go_ret;exact⟨rfl,rfl⟩
theorem Ae (g c:Nat)(a b:Int)(cs:Array Value)(w:World)(h:ah w g 5 cs)(hsz:2≤cs.size)(h0:cs[0]?=some (.int .u8 a))(h1:cs[1]?=some (.int .u8 b))(hc:2≤c):
  Calls Tryz.prog 50 #[.slice (some ⟨g,0,none⟩) 2 c] w fun e w'=>e=.returned (.slice (some ⟨g,0,none⟩) (if a=b then 1 else 2) c)∧Below g w w':=by
 have c0:=fun y:Ext w.heap.size w=>((h.later y.h).cell 0).trans h0
 have c1:=fun y:Ext w.heap.size w=>((h.later y.h).cell 1).trans h1
 cases hab:(b==a)
 ·have IK:¬a=b:=fun e=>by simp[e] at hab
  rw[if_neg IK];clear IK;go_enter Tryz.func50,Tryz.ntmps50;go_wp2_with fail;refine wp_loop_rounds 3 ?_;rw[rounds_succ];go_wp2_with fail;refine cZ 10 w.heap.size w (Below.refl _ _) (by kernel_rfl) (by kernel_rfl) (by kernel_rfl) (by kernel_rfl) ?_;simp only[List.take_succ_cons,List.take_zero,List.drop_succ_cons,List.drop_zero];repeat (go_big_quiet_step (fail))
  refine wpQuiet_nil ?_;rintro W2 ⟨y2,uj⟩;have hW:=y2.h;rw[← uj] at hW;clear uj y2 c0 c1;go_wp2_with fail;rw[rounds_succ];go_wp2_with fail;go_ret;exact⟨rfl,hW.mono (Nat.le_of_lt h.lt)⟩
 ·have IK:a=b:=by have:=hab;simp at this;exact this.symm
  rw[if_pos IK];clear IK;go_enter Tryz.func50,Tryz.ntmps50;go_wp2_with fail;refine wp_loop_rounds 3 ?_;rw[rounds_succ];go_wp2_with fail;refine cZ 10 w.heap.size w (Below.refl _ _) (by kernel_rfl) (by kernel_rfl) (by kernel_rfl) (by kernel_rfl) ?_;simp only[List.take_succ_cons,List.take_zero,List.drop_succ_cons,List.drop_zero];repeat (go_big_quiet_step (fail))
  refine wpQuiet_nil ?_;rintro W2 ⟨y2,uj⟩;have hW:=y2.h;rw[← uj] at hW;clear uj y2 c0 c1;have h2:=h.later hW;have gR:=oI W2 g 1 1 (c - 1) cs h2 (by omega) (by omega);have hB:=fN g (Nat.le_refl g) (List.replicate 1 (.int .u8 0)) 1 W2 (hW.mono (Nat.le_of_lt h.lt));generalize W2.setCells g 1 (List.replicate 1 (.int .u8 0))=W3 at*;go_wp2_with fail;refine wp_loop_rounds 3 ?_;rw[rounds_succ];go_wp2_with fail;go_ret;exact⟨rfl,hB⟩
theorem yB:(Tryz.prog.info? 5).map (fun i=>(i.zero,i.size,i.bytes))=some (some (.int .u8 0),1,1):=by kernel_rfl
def FD (a b:Int)(w:World)(e:Ending)(w':World):Prop:=∃g c cs,e=.returned (.slice (some ⟨g,0,none⟩) 2 c)∧w.heap.size≤g∧ah w' g 5 cs∧cs[0]?=some (.int .u8 a)∧cs[1]?=some (.int .u8 b)∧2≤cs.size∧2≤c∧Below w.heap.size w w'
theorem FE (p off c:Nat)(a b:Int)(w:World)(hp:p < w.heap.size)(h0:w.cell? ⟨p,off,none⟩=some (.int .u8 a))(h1:w.cell? ⟨p,off+1,none⟩=some (.int .u8 b)):
  Calls Tryz.prog 48 #[.slice (some ⟨p,off,none⟩) 2 c] w (FD a b w):=by
 obtain⟨i0,pj,hz0,hz1,hz2⟩:=info_parts yB;have hB:=aa w (.cells #[] 5);have hown:(w.alloc (.cells #[] 5)).ownsRow w.heap.size 5 1 (.slice (some ⟨w.heap.size,0,none⟩) 0 0) 0 []:=⟨by simp,.inr ⟨w.heap.size,0,#[],rfl,Nat.le_refl _,heap_alloc_new w _,Nat.le_refl _,by unfold maxLen;omega,rfl,rfl⟩⟩;have En:Reads (w.alloc (.cells #[] 5)) w.heap.size 1 (some ⟨p,off,none⟩) 2 [.int .u8 a,.int .u8 b]:=by
  refine⟨rfl,fun _=>⟨_,rfl,hp,fun j u hu=>?_⟩⟩
  match j,hu with
  | 0,hu=>simp at hu;subst hu;exact(hB.cell (p:=⟨p,off,none⟩) hp).trans h0
  | 1,hu=>simp at hu;subst hu;exact(hB.cell (p:=⟨p,off+1,none⟩) hp).trans h1
  |(n+2),hu=>simp at hu
 have HW:=hid hown;have HR:=hid En;clear hown En;have hnil:(binOp .eql 73 (.slice (some ⟨p,off,none⟩) 2 c) (.slice none 0 0)).run Tryz.prog w=.ok (.bool false) w:=Go.Lib.run_eql_slice_nil w 73 5 (some ⟨p,off,none⟩) 2 c 0 0 Tryz.underlying73;go_enter Tryz.func48,Tryz.ntmps48;go_wp2_with (first
  |(at_builtin
    refine eu _ rfl (.tmp 5) (.tmp 6) 73 rfl w.heap.size 5 i0 (.int .u8 0) 1 1 Tryz.underlying73 pj hz0 hz1 hz2 rfl (by omega) (.slice (some ⟨w.heap.size,0,none⟩) 0 0) 0 [] rfl HW.out w.heap.size (some ⟨p,off,none⟩) 2 c [.int .u8 a,.int .u8 b] rfl HR.out (by simp[Value.oneCell']) (by unfold maxLen;omega) (by omega) (by simp) ?_
    intro v2 w2 o2 g2 _
    have O2:=hid o2
    have G2:=hid g2
    clear o2 g2 HW HR))
 go_ret;rcases O2.out.2 with ⟨_,hz⟩|⟨g,cap,cur,rfl,hb,hg,hn,hm,hs,ht⟩
 ·omega
 ·refine⟨g,cap,cur,rfl,hb,hg,?_,?_,by omega,hn,?_⟩
  ·have:=congrArg (fun l=>l[0]?) ht;simp at this;simpa using this
  ·have:=congrArg (fun l=>l[1]?) ht;simp at this;simpa using this
  ·refine hB.trans ⟨G2.out.os,G2.out.tape,G2.out.output,G2.out.size,fun k hk=>G2.out.block k (by simp;omega) fun e=>?_⟩;simp[Value.ownBlock] at e;omega
def fq (a b:Int):Bool:=a==0 || b==0 || a==b
theorem qM (p off c:Nat)(a b:Int)(w:World)(hp:p < w.heap.size)(h0:w.cell? ⟨p,off,none⟩=some (.int .u8 a))(h1:w.cell? ⟨p,off+1,none⟩=some (.int .u8 b)):
  Calls Tryz.prog 25 #[.slice (some ⟨p,off,none⟩) 2 c] w fun e w'=>e=.returned (.bool (fq a b))∧Below w.heap.size w w':=by
 go_enter Tryz.func25,Tryz.ntmps25;go_wp2_with fail;refine(FE p off c a b _ hp h0 h1).mono ?_;rintro e w1 ⟨g,c1,cs,rfl,hg,hb,e0,e1,hs,hc1,b1⟩;clear h0 h1;by_cases hz:a=0∨b=0
 ·go_wp2_with fail;refine(CB g c1 a b cs _ hb hs e0 e1 hc1 hz).mono ?_;rintro e w2 ⟨n,hn,rfl,b2⟩;go_wp2_with fail;refine(wO g c1 n hn _).mono ?_;rintro e w3 ⟨rfl,rfl⟩;have d1:decide ((n:Int)≤1)=true:=by simp;omega
  have HG:=hid (show fq a b=true by rcases hz with rfl | rfl <;> simp[fq]);clear hz;go_wp2_with fail;go_ret;exact⟨by rw[HG.out];rfl,b1.trans (b2.mono hg)⟩
 ·have ha:a≠0:=fun e=>hz (.inl e)
  have hb0:b≠0:=fun e=>hz (.inr e)
  have Zc:=(hb.cell 0).trans e0;have c1':=(hb.cell 1).trans e1;go_wp2_with fail;refine(Ad g c1 a b _ Zc c1' ha hb0).mono ?_;rintro e w2 ⟨rfl,rfl⟩;clear Zc c1';go_wp2_with fail;refine(Ae g c1 a b cs _ hb hs e0 e1 hc1).mono ?_;rintro e w3 ⟨rfl,b3⟩;have HG:=hid (show fq a b=decide (a=b) by rw[Bool.eq_iff_iff];simp[fq,ha,hb0]);by_cases hab:a=b
  ·have HA:=hid hab;rw[if_pos hab];clear hab;go_wp2_with fail;go_ret;exact⟨by rw[HG.out,decide_eq_true HA.out];rfl,b1.trans (b3.mono hg)⟩
  ·have HA:=hid hab;rw[if_neg hab];clear hab;go_wp2_with fail;go_ret;exact⟨by rw[HG.out,decide_eq_false HA.out];rfl,b1.trans (b3.mono hg)⟩
theorem FH (a wa gi:Int)(nu:Bool)(d:Value)(hd:d.oneCell'=true)(p off c:Nat)(k:Int)(w:World)(hp:p < w.heap.size)(h0:w.cell? ⟨p,off,none⟩=some (.int .u8 k)):
  Calls Tryz.prog 45 #[.agg #[.int .i64 a,.int .u8 wa,.int .u8 gi,.bool false,.bool nu,d],.slice (some ⟨p,off,none⟩) 1 c] w fun e w'=>e=.returned (.bool (fq k wa))∧Below w.heap.size w w':=by
 have hB:=aa w (.cells #[.int .i64 a,.int .u8 wa,.int .u8 gi,.bool false,.bool nu,d] 76);have hO:=ah.new w 76 #[.int .i64 a,.int .u8 wa,.int .u8 gi,.bool false,.bool nu,d];have x1:=hO.cell 1;have x3:=hO.cell 3;simp only[List.getElem?_toArray,List.getElem?_cons_zero,List.getElem?_cons_succ] at x1 x3;have c0:=(hB.cell (p:=⟨p,off,none⟩) hp).trans h0;go_enter Tryz.func45,Tryz.ntmps45;go_wp2_with fail;generalize w.alloc (.cells #[.int .i64 a,.int .u8 wa,.int .u8 gi,.bool false,.bool nu,d] 76)=W at*;refine wp_loop_rounds 2 ?_;rw[rounds_succ];go_wp2_with fail;have gN:=ah.new W 5 #[.int .u8 k,.int .u8 wa];have bN:=aa W (.cells #[.int .u8 k,.int .u8 wa] 5);refine(qM W.heap.size 0 2 k wa _ (by simp) (gN.cell 0) (gN.cell 1)).mono ?_;rintro e W2 ⟨rfl,b2⟩;have hW2:=ae.then bN b2
 replace hB:=ae.then hB hW2
 replace hO:=hO.later hW2;clear x1 x3 c0 gN bN b2 hW2;cases hg1:fq k wa
 ·go_wp2_with fail;go_ret;exact⟨by rw[hg1];rfl,hB⟩
 have x1:=hO.cell 1;have x3:=hO.cell 3;simp only[List.getElem?_toArray,List.getElem?_cons_zero,List.getElem?_cons_succ] at x1 x3;have c0:=(hB.cell (p:=⟨p,off,none⟩) hp).trans h0;go_wp2_with fail;rw[rounds_succ];go_wp2_with fail;go_ret;exact⟨by rw[hg1];rfl,hB⟩
theorem FI (a wa gi:Int)(al nu:Bool)(d:Value)(hd:d.oneCell'=true)(p off c:Nat)(k j:Int)(w:World)(hp:p < w.heap.size)(h0:w.cell? ⟨p,off,none⟩=some (.int .u8 k))(h1:w.cell? ⟨p,off+1,none⟩=some (.int .u8 j)):
  Calls Tryz.prog 45 #[.agg #[.int .i64 a,.int .u8 wa,.int .u8 gi,.bool al,.bool nu,d],.slice (some ⟨p,off,none⟩) 2 c] w fun e w'=>e=.returned (.bool (fq k wa &&(fq j wa &&(!al || fq k j))))∧Below w.heap.size w w':=by
 have hB:=aa w (.cells #[.int .i64 a,.int .u8 wa,.int .u8 gi,.bool al,.bool nu,d] 76);have hO:=ah.new w 76 #[.int .i64 a,.int .u8 wa,.int .u8 gi,.bool al,.bool nu,d];have x1:=hO.cell 1;have x3:=hO.cell 3;simp only[List.getElem?_toArray,List.getElem?_cons_zero,List.getElem?_cons_succ] at x1 x3;have c0:=(hB.cell (p:=⟨p,off,none⟩) hp).trans h0;have c1:=(hB.cell (p:=⟨p,off+1,none⟩) hp).trans h1;go_enter Tryz.func45,Tryz.ntmps45;go_wp2_with fail;generalize w.alloc (.cells #[.int .i64 a,.int .u8 wa,.int .u8 gi,.bool al,.bool nu,d] 76)=W at*;refine wp_loop_rounds 3 ?_;rw[rounds_succ];go_wp2_with fail;have gN:=ah.new W 5 #[.int .u8 k,.int .u8 wa];have bN:=aa W (.cells #[.int .u8 k,.int .u8 wa] 5);refine(qM W.heap.size 0 2 k wa _ (by simp) (gN.cell 0) (gN.cell 1)).mono ?_;rintro e W2 ⟨rfl,b2⟩;have hW2:=ae.then bN b2
 replace hB:=ae.then hB hW2
 replace hO:=hO.later hW2;clear x1 x3 c0 c1 gN bN b2 hW2;cases hg1:fq k wa
 ·go_wp2_with fail;go_ret;exact⟨by rw[hg1];rfl,hB⟩
 have x1:=hO.cell 1;have x3:=hO.cell 3;simp only[List.getElem?_toArray,List.getElem?_cons_zero,List.getElem?_cons_succ] at x1 x3;have c0:=(hB.cell (p:=⟨p,off,none⟩) hp).trans h0;have c1:=(hB.cell (p:=⟨p,off+1,none⟩) hp).trans h1;go_wp2_with fail;rw[rounds_succ];go_wp2_with fail;have gN:=ah.new W2 5 #[.int .u8 j,.int .u8 wa];have bN:=aa W2 (.cells #[.int .u8 j,.int .u8 wa] 5);refine(qM W2.heap.size 0 2 j wa _ (by simp) (gN.cell 0) (gN.cell 1)).mono ?_;rintro e W3 ⟨rfl,b2⟩;have hW3:=ae.then bN b2
 replace hB:=ae.then hB hW3
 replace hO:=hO.later hW3;clear x1 x3 c0 c1 gN bN b2 hW3;cases hg2:fq j wa
 ·go_wp2_with fail;go_ret;exact⟨by rw[hg1,hg2];rfl,hB⟩
 have x1:=hO.cell 1;have x3:=hO.cell 3;simp only[List.getElem?_toArray,List.getElem?_cons_zero,List.getElem?_cons_succ] at x1 x3;have c0:=(hB.cell (p:=⟨p,off,none⟩) hp).trans h0;have c1:=(hB.cell (p:=⟨p,off+1,none⟩) hp).trans h1;go_wp2_with fail;rw[rounds_succ];cases al
 ·go_wp2_with fail;go_ret;exact⟨by rw[hg1,hg2];rfl,hB⟩
 ·go_wp2_with fail;refine(qM p off c k j _ (Nat.lt_of_lt_of_le hp hB.size) c0 c1).mono ?_;rintro e w9 ⟨rfl,b9⟩;go_wp2_with fail;go_ret;exact⟨by rw[hg1,hg2];rfl,ae.then hB b9⟩
def S9 (k:Nat)(wd:Int)(l:List Val):Val×Int:=
 match k,l with
 | 3,[a]=>Wt a.n
 | 4,[a]=>(kY (a.n==0),0)
 | 5,[a,b]=>Wk a.n b.n
 | 6,[a,b]=>Wl a.n b.n
 | 7,[a,b]=>Wm a.n b.n
 | 8,[a,b]=>Wu a.n b.n
 | 9,[a,b]=>Wv a.n b.n
 | 10,[a,b]=>(kY (decide (FB a b=0)),0)
 | 11,[a,b]=>(kY (!decide (FB a b=0)),0)
 | 12,[a,b]=>(kY (decide (FB a b < 0)),0)
 | 13,[a,b]=>(kY (decide (FB a b≤0)),0)
 | 14,[a,b]=>(kY (decide (0 < FB a b)),0)
 | 15,[a,b]=>(kY (decide (0≤FB a b)),0)
 | 16,l=>(IC false l,0)
 | 17,l=>(IC true l,0)
 | 18,[a]=>(kY ((a.k==0)==true),0)
 | 19,[a]=>(kY ((a.k==0)==false),0)
 | 20,[a]=>Mi a.n wd
 | _,_=>(aL,0)
section
variable {α:Type} {f:α→List Value} {e:TypeId} {size:Nat} {base:Nat} {lv:Value} {l:List α} {y:α}
structure AR (f:α→List Value) (e:TypeId) (size base:Nat) (lv:Value) (l:List α) (y:α) (a b:World):Prop where
 grown:a.grownBy b lv.ownBlock
 old:aW f e size a base lv l→aW f e size b base lv l
 new:∀u,aW f e size a base u (l++ [y])→aW f e size b base u (l++ [y])
theorem AR.later {a b:World}(h:Below a.heap.size a b):AR f e size base lv l y a b:=
 ⟨⟨h.os,h.tape,h.output,h.size,fun k hk _=>h.block k hk⟩,fun o=>o.later h,fun u o=>o.later h⟩
theorem fO {P:Program} {w:World}(t ty:TypeId)(z:Value)(bytes:Nat)(ht:P.underlying t=some (.slice e))(jw:(P.info? e).map (fun i=>(i.zero,i.size,i.bytes))=some (some z,size,bytes))(hzs:z.cells.size=size)(hsz:0 < size)
  (hf:∀x,(f x).length=size) (h1:∀u∈f y,u.oneCell'=true) (hown:aW f e size w base lv l)
  (g0:Nat) (hg0:ah w g0 e (f y).toArray) (hlen:(l.length+1)*bytes≤140737488355328) (kD:l.length+1≤140737488355328) (hbase:base≤w.heap.size):
  ∃v' w',(Builtin.append_ #[t,t] ty #[lv,.slice (some ⟨g0,0,none⟩) 1 1]).run P w=.ok v' w'∧aW f e size w' base v' (l++ [y])∧AR f e size base lv l y w w':=by
 obtain⟨i0,pj,hz0,hz1,hz2⟩:=info_parts jw;have hnews:∀j u,(f y)[j]?=some u→w.cell? ((⟨g0,0,none⟩:Addr).add j)=some u:=by
  intro j u hu;have:(Addr.add ⟨g0,0,none⟩ j)=⟨g0,j,none⟩:=by unfold Addr.add;split <;> simp_all
  rw[this,hg0.cell];simpa using hu
 have dG:(f y).length=1*size:=by rw[hf];omega
 have conv:∀ {w':World} {v':Value},w'.ownsRow base e size v' (l.length+1) (l.flatMap f++f y)→aW f e size w' base v' (l++ [y]):=fun h=>by unfold aW;rw[List.length_append,List.flatMap_append];simpa using h
 by_cases hroom:∃g cap,lv=.slice (some ⟨g,0,none⟩) l.length cap∧l.length+1≤cap
 ·obtain⟨g,cap,rfl,hr⟩:=hroom;obtain⟨w',hrun,ho,hg⟩:=run_append_fits (P:=P) w base t ty e i0 size ht pj hz1 g l.length cap (l.flatMap f) hown ⟨g0,0,none⟩ 1 1 (f y) dG hnews h1 hr;refine⟨_,w',hrun,conv ho,hg,fun _=>?_,fun u hu=>?_⟩
  ·rcases ho.2 with ⟨h,_⟩|⟨g',cap',cur,h,hbg,cU,hn,hm,hs,PS⟩
   ·cases h
   ·injection h with jS rH Oq;injection jS with jS;injection jS with jS _ _;subst jS Oq;refine⟨hown.1,.inr ⟨g,cap,cur,rfl,hbg,cU,by omega,hm,hs,?_⟩⟩;have hx:=congrArg (List.take (l.length*size)) PS;rw[List.take_take,Nat.min_eq_left (Nat.mul_le_mul_right _ (by omega)),List.take_append_of_le_length (Nat.le_of_eq hown.1.symm)] at hx;rw[hx];exact List.take_of_length_le (Nat.le_of_eq hown.1)
  ·by_cases hb:u.ownBlock=some g
   ·rcases hu.2 with ⟨rfl,_⟩|⟨g',cap',cur,rfl,hbg,cU,hn,hm,hs,PS⟩
    ·simp[Value.ownBlock] at hb
    ·simp only[Value.ownBlock,Option.some.injEq] at hb;subst hb;rcases hown.2 with ⟨h,_⟩|⟨g2,WE,WG,h,_,rM,_,_,hs2,_⟩
     ·cases h
     ·injection h with jS rH Oq;injection jS with jS;injection jS with jS _ _;subst jS Oq;rw[cU] at rM;injection rM with rM;injection rM with rM _ _;subst rM;have PT:cap'=cap:=Nat.eq_of_mul_eq_mul_right hsz (hs.symm.trans hs2);subst PT;have:=conv ho;rw[List.length_append];exact this
   ·exact hu.keep fun q hq=>hg.block q (hu.lt hq).1 fun e=>hb (by rw[hq];exact e)
 ·obtain⟨v',w',hrun,ho,hg,_,hat⟩:=run_append_own_at (P:=P) w base t ty e i0 z size bytes ht pj hz0 hz1 hz2 hzs hsz lv l.length (l.flatMap f) hown ⟨g0,0,none⟩ 1 1 (f y) dG hnews h1 (by unfold maxLen;omega) hlen hbase;have PU:Below w.heap.size w w':=by
   rcases hown.2 with ⟨rfl,h0⟩|⟨g,cap,cur,rfl,hbg,cU,hn,hm,hs,yC⟩
   ·have hr:=run_append_nil (P:=P) w t ty e i0 z ht pj hz0 ⟨g0,0,none⟩ 1 1 (f y) (by rw[hz1];exact dG) hnews (by omega) (by omega) (by rw[hz2];have:1*bytes≤(l.length+1)*bytes:=Nat.mul_le_mul_right _ (by omega);omega);rw[hr] at hrun;injection hrun with _ hw;rw[← hw];exact(ae.drew w).alloc (Nat.le_refl _) _
   ·have hno:¬l.length+1≤cap:=fun h=>hroom ⟨g,cap,rfl,h⟩
    have holds:∀j u,(l.flatMap f)[j]?=some u→w.cell? ((⟨g,0,none⟩:Addr).add j)=some u:=World.ownsRow.cells hown (g:=g) rfl;have hr:=run_append_grow (P:=P) w t ty e i0 z ht pj hz0 ⟨g,0,none⟩ l.length cap (l.flatMap f) (by rw[hz1];exact hown.1) holds ⟨g0,0,none⟩ 1 1 (f y) (by rw[hz1];exact dG) hnews (by omega) (by omega) (by rw[hz2];exact growslice_fits (by omega) hlen);rw[hr] at hrun;injection hrun with _ hw;rw[← hw];exact(ae.drew w).alloc (Nat.le_refl _) _
  exact⟨v',w',hrun,conv ho,AR.later PU⟩
end
def nL (k:Int):List Value:=[.int .u8 k]
theorem Af (b off n:Nat):Addr.add ⟨b,off,none⟩ n=⟨b,off+n,none⟩:=by
 unfold Addr.add;split
 ·rename_i h;subst h;rfl
 ·rfl
theorem Et {α:Type} {f:α→List Value} {size:Nat}(hf:∀x,(f x).length=size):∀(l:List α) (i j:Nat) (x:α),l[i]?=some x→j < size→(l.flatMap f)[i*size+j]?=(f x)[j]?
 | [],i,j,x,h,hj=>by simp at h
 | y::l,0,j,x,h,hj=>by simp at h;subst h;simp only[List.flatMap_cons,Nat.zero_mul,Nat.zero_add];rw[List.getElem?_append_left (by rw[hf];exact hj)]
 | y::l,i+1,j,x,h,hj=>by have:=Et hf l i j x (by simpa using h) hj;simp only[List.flatMap_cons];rw[List.getElem?_append_right (by rw[hf,Nat.succ_mul];omega),hf,← this];congr 1;rw[Nat.succ_mul];omega
theorem FJ {α:Type} {f:α→List Value} {e:TypeId} {size:Nat}(hf:∀x,(f x).length=size) {w:World} {base:Nat} {v:Value} {l:List α}(h:aW f e size w base v l):
  ∃A c,v=.slice A l.length c∧(l=[]∨∃g,A=some ⟨g,0,none⟩∧g < w.heap.size∧∀i x j u,l[i]?=some x→j < size→(f x)[j]?=some u→w.cell? ⟨g,i*size+j,none⟩=some u):=by
 obtain⟨A,c,rfl,hr,_,hA⟩:=h.reads;refine⟨A,c,rfl,?_⟩;rcases hA with rfl |⟨g,rfl,hg⟩
 ·exact .inl rfl
 ·rcases List.eq_nil_or_concat l with rfl | hne
  ·exact .inl rfl
  ·have FK:0 < l.length:=by obtain⟨_,_,rfl⟩:=hne;simp
   obtain⟨ad,e,hb,hc⟩:=hr.2 FK;injection e with e;subst e;refine .inr ⟨g,rfl,hb,fun i x j u hx hj hu=>?_⟩;have:=hc (i*size+j) u ((Et hf l i j x hx hj).trans hu);rw[Af] at this;simpa using this
def pX (op:Int):Int:=if op=4∨op=16∨op=17 then 1 else if 10≤op∧op≤15∨op=18∨op=19 then 0 else 2
def lN (op:Int):Int:=if op=4∨10≤op∧op≤19 then 1 else 2
def rN (op:Int):Bool:=decide (10≤op∧op≤15)
def yD (op:Int):Bool:=decide (16≤op∧op≤19)
theorem iB.fields {w:World} {k:Nat} {a wa gi:Int} {al nu:Bool} {d:Value}(h:iB w k (.agg (ey a wa gi al nu d))):wa=pX k∧gi=lN k∧al=rN k∧nu=yD k:=by
 unfold iB at h;split at h;all_goals first
  | exact h.elim
  |(simp[jW,ey] at h;simp[pX,lN,rN,yD];simp_all)
  |(obtain⟨q,q2,h1,_⟩:=h;simp[jW,ey] at h1;simp[pX,lN,rN,yD];simp_all)
  |(obtain⟨q,h1,_⟩:=h;simp[jW,ey] at h1;simp[pX,lN,rN,yD];simp_all)
theorem CC {x:Ex}(h:bJ x=0)(h2:x.op≠2)(h1:x.op≠1):gL x.op=true∧(x.n:Int)=lg x.op∧(x.op=20→1≤x.width∧x.width≤1099511627776):=by
 unfold bJ at h;rw[if_neg (by simp[h1,h2])] at h;split at h
 ·rename_i hc;refine⟨hc.1,hc.2.1,fun e=>?_⟩;rcases hc.2.2 with h3 | h3
  ·exact absurd e h3
  ·exact h3
 ·split at h <;> omega
theorem xo {op:Int} {xv:Val} {name:ByteArray} {width:Int} {A:Option Addr} {α:Type} {l:List α} {c:Nat}(h:bJ ⟨op,xv,name,width,A,l.length,c⟩=0)(h2:op=2):l=[]:=by
 subst h2;unfold bJ at h;split at h
 ·rename_i hc;rcases hc with ⟨h3,_⟩|⟨_,h3⟩
  ·exact absurd h3 (show¬((2:Int)=1) by decide)
  ·exact List.eq_nil_of_length_eq_zero h3
 ·split at h
  ·rename_i hc;exact absurd hc.1 (show¬(gL 2=true) by decide)
  ·split at h <;> omega
def mK (op:Int):List Int→Bool
 | [k]=>fq k (pX op)
 | [k,j]=>fq k (pX op)&&(fq j (pX op)&&(!rN op || fq k j))
 | _=>false
theorem WH {α:Type} {l:List α}(h:l.length=1):∃p,l=[p]:=by
 match l,h with
 | [p],_=>exact⟨p,rfl⟩
theorem WI {α:Type} {l:List α}(h:l.length=2):∃p q,l=[p,q]:=by
 match l,h with
 | [p,q],_=>exact⟨p,q,rfl⟩
def bp (w:World)(b off:Nat)(y:Ex):Prop:=
 w.cell? ⟨b,off,none⟩=some (.int .u8 y.op)∧w.cell? ⟨b,off+1,none⟩=some (.int .u8 y.v.k)∧w.cell? ⟨b,off+2,none⟩=some (.int .i64 y.v.n)∧w.cell? ⟨b,off+3,none⟩=some (.string y.v.s)∧
 w.cell? ⟨b,off+4,none⟩=some (.string y.name)∧w.cell? ⟨b,off+5,none⟩=some (.int .i64 y.width)∧w.cell? ⟨b,off+6,none⟩=some (.slice y.A y.n y.c)
theorem bp.keep {w w':World} {b off:Nat} {x:Ex}(h:bp w b off x)(hk:∀o,w'.cell? ⟨b,o,none⟩=w.cell? ⟨b,o,none⟩):bp w' b off x:=by unfold bp at*;simp only[hk];exact h
def RE (w:World)(B:Nat)(A:Option Addr)(l:List Ex):Prop:=
 l=[]∨∃b off,A=some ⟨b,off,none⟩∧b < B∧∀i x,l[i]?=some x→bp w b (off+i*7) x
theorem RE.below {w w':World} {B:Nat} {A:Option Addr} {l:List Ex}(h:RE w B A l)(hb:Below B w w'):RE w' B A l:=by
 rcases h with h |⟨b,off,h1,h2,h3⟩
 ·exact .inl h
 ·exact .inr ⟨b,off,h1,h2,fun i x hx=>(h3 i x hx).keep fun o=>hb.cell (p:=⟨b,o,none⟩) h2⟩
theorem RE.more {w:World} {B B':Nat} {A:Option Addr} {l:List Ex}(h:RE w B A l)(hB:B≤B'):RE w B' A l:=by
 rcases h with h |⟨b,off,h1,h2,h3⟩
 ·exact .inl h
 ·exact .inr ⟨b,off,h1,by omega,h3⟩
theorem RE.at_ {w:World} {B:Nat} {A:Option Addr} {l:List Ex}(h:RE w B A l) {k:Nat}(hk:k < l.length):∃b off,A=some ⟨b,off,none⟩∧b < B∧bp w b (off+k*7) l[k]:=by
 rcases h with h |⟨b,off,h1,h2,h3⟩
 ·subst h;simp at hk
 ·exact⟨b,off,h1,h2,h3 k _ (List.getElem?_eq_getElem hk)⟩
inductive Tr where
 | mk (op:Int) (v:Val) (name:ByteArray) (width:Int) (args:List Tr)
def LV (w:World)(S:Nat→Prop)(A:Option Addr)(l:List Ex):Prop:=
 l=[]∨∃b off,A=some ⟨b,off,none⟩∧S b∧∀i x,l[i]?=some x→bp w b (off+i*7) x
mutual
def Tr.at_ (w:World)(S:Nat→Prop):Tr→Ex→Prop
 | .mk op v name width args,y=>y.op=op∧y.v=v∧y.name=name∧y.width=width∧y.n=args.length∧∃ys,LV w S y.A ys∧Tr.bL w S args ys
def Tr.bL (w:World)(S:Nat→Prop):List Tr→List Ex→Prop
 | [],ys=>ys=[]
 | t::ts,ys=>∃y ys',ys=y::ys'∧Tr.at_ w S t y∧Tr.bL w S ts ys'
end
theorem LV.keep {w w':World} {S S':Nat→Prop} {A:Option Addr} {l:List Ex}(h:LV w S A l)(hk:∀b,S b→(∀o,w'.cell? ⟨b,o,none⟩=w.cell? ⟨b,o,none⟩)∧S' b):LV w' S' A l:=by
 rcases h with h |⟨b,off,h1,h2,h3⟩
 ·exact .inl h
 ·exact .inr ⟨b,off,h1,(hk b h2).2,fun i x hx=>(h3 i x hx).keep (hk b h2).1⟩
mutual
theorem Tr.at_.keep {w w':World} {S S':Nat→Prop}(hk:∀b,S b→(∀o,w'.cell? ⟨b,o,none⟩=w.cell? ⟨b,o,none⟩)∧S' b):∀(t:Tr) (y:Ex),t.at_ w S y→t.at_ w' S' y
 | .mk op v name width args,y,h=>by unfold Tr.at_ at h ⊢;obtain⟨h1,h2,h3,h4,h5,ys,h6,h7⟩:=h;exact⟨h1,h2,h3,h4,h5,ys,h6.keep hk,Tr.bL.keep hk args ys h7⟩
theorem Tr.bL.keep {w w':World} {S S':Nat→Prop}(hk:∀b,S b→(∀o,w'.cell? ⟨b,o,none⟩=w.cell? ⟨b,o,none⟩)∧S' b):∀(ts:List Tr) (ys:List Ex),Tr.bL w S ts ys→Tr.bL w' S' ts ys
 | [],ys,h=>by unfold Tr.bL at h ⊢;exact h
 | t::ts,ys,h=>by unfold Tr.bL at h ⊢;obtain⟨y,ys',h1,h2,h3⟩:=h;exact⟨y,ys',h1,Tr.at_.keep hk t y h2,Tr.bL.keep hk ts ys' h3⟩
end
theorem Tr.bL.length {w:World} {S:Nat→Prop}:∀ {ts:List Tr} {ys:List Ex},Tr.bL w S ts ys→ys.length=ts.length
 | [],ys,h=>by unfold Tr.bL at h;subst h;rfl
 | t::ts,ys,h=>by unfold Tr.bL at h;obtain⟨y,ys',rfl,_,h3⟩:=h;simp[Tr.bL.length h3]
def Old (w:World):Nat→Prop:=fun b=>b < w.heap.size
theorem LV.old {w:World} {A:Option Addr} {l:List Ex}(h:LV w (Old w) A l):RE w w.heap.size A l:=h
theorem Tr.at_.later {w w':World} {t:Tr} {y:Ex}(h:t.at_ w (Old w) y)(hb:Below w.heap.size w w'):t.at_ w' (Old w') y:=
 Tr.at_.keep (fun b hS=>⟨fun o=>hb.cell (p:=⟨b,o,none⟩) hS,Nat.lt_of_lt_of_le hS hb.size⟩) t y h
theorem Tr.bL.later {w w':World} {ts:List Tr} {ys:List Ex}(h:Tr.bL w (Old w) ts ys)(hb:Below w.heap.size w w'):Tr.bL w' (Old w') ts ys:=
 Tr.bL.keep (fun b hS=>⟨fun o=>hb.cell (p:=⟨b,o,none⟩) hS,Nat.lt_of_lt_of_le hS hb.size⟩) ts ys h
mutual
def Tr.ok:Tr→Prop
 | .mk op v name width args=>v.Ok∧args.length≤1599289640356∧(0≤op∧op≤255)∧(-9223372036854775808≤width∧width≤9223372036854775807)∧(0≤v.k∧v.k≤255)∧Tr.iW args
def Tr.iW:List Tr→Prop
 | []=>True
 | t::ts=>t.ok∧Tr.iW ts
end
structure uk where
 name:ByteArray
 t:Int
def sW (w:World)(b off:Nat)(x:uk):Prop:=w.cell? ⟨b,off,none⟩=some (.string x.name)∧w.cell? ⟨b,off+1,none⟩=some (.int .u8 x.t)
theorem sW.keep {w w':World} {b off:Nat} {x:uk}(h:sW w b off x)(hk:∀o,w'.cell? ⟨b,o,none⟩=w.cell? ⟨b,o,none⟩):sW w' b off x:=by unfold sW at*;simp only[hk];exact h
def RC (w:World)(B:Nat)(A:Option Addr)(l:List uk):Prop:=
 l=[]∨∃b off,A=some ⟨b,off,none⟩∧b < B∧∀i x,l[i]?=some x→sW w b (off+i*2) x
theorem RC.below {w w':World} {B:Nat} {A:Option Addr} {l:List uk}(h:RC w B A l)(hb:Below B w w'):RC w' B A l:=by
 rcases h with h |⟨b,off,h1,h2,h3⟩
 ·exact .inl h
 ·exact .inr ⟨b,off,h1,h2,fun i x hx=>(h3 i x hx).keep fun o=>hb.cell (p:=⟨b,o,none⟩) h2⟩
theorem RC.more {w:World} {B B':Nat} {A:Option Addr} {l:List uk}(h:RC w B A l)(hB:B≤B'):RC w B' A l:=by
 rcases h with h |⟨b,off,h1,h2,h3⟩
 ·exact .inl h
 ·exact .inr ⟨b,off,h1,by omega,h3⟩
theorem RC.later {w w':World} {A:Option Addr} {l:List uk}(h:RC w w.heap.size A l)(hb:Below w.heap.size w w'):RC w' w'.heap.size A l:=(h.below hb).more hb.size
theorem RC.at_ {w:World} {B:Nat} {A:Option Addr} {l:List uk}(h:RC w B A l) {k:Nat}(hk:k < l.length):∃b off,A=some ⟨b,off,none⟩∧b < B∧sW w b (off+k*2) l[k]:=by
 rcases h with h |⟨b,off,h1,h2,h3⟩
 ·subst h;simp at hk
 ·exact⟨b,off,h1,h2,h3 k _ (List.getElem?_eq_getElem hk)⟩
def eG (name:ByteArray):List uk→Nat
 | []=>0
 | c::cs=>if (c.name.toList==name.toList)=true then 0 else eG name cs+1
def nM (name:ByteArray)(cols:List uk):Int:=if eG name cols < cols.length then eG name cols else -1
theorem CD (x:uk)(name:ByteArray)(g:Nat)(w:World)(hg:ah w g 9 #[.string name]):
  Calls Tryz.prog 69 #[.agg #[.string x.name,.int .u8 x.t],.pointer (some ⟨g,0,none⟩)] w fun e w'=>e=.returned (.bool (x.name.toList==name.toList))∧Below w.heap.size w w':=by
 have c0:=(hg.alloc (.cells #[.string x.name,.int .u8 x.t] 43)).cell 0;simp only[List.getElem?_toArray,List.getElem?_cons_zero] at c0;go_enter Tryz.func69,Tryz.ntmps69;go_wp2_with fail;go_ret;exact⟨rfl,by go_grown⟩
theorem FL {name:ByteArray} {c:uk} {cs:List uk}(h:(c.name.toList==name.toList)=false):eG name (c::cs)=eG name cs+1:=by show(if (c.name.toList==name.toList)=true then 0 else eG name cs+1)=_;rw[if_neg (by rw[h];simp)]
theorem CE {name:ByteArray} {c:uk} {cs:List uk}(h:(c.name.toList==name.toList)=true):eG name (c::cs)=0:=by show(if (c.name.toList==name.toList)=true then 0 else eG name cs+1)=_;rw[if_pos h]
theorem cB {α:Type} {l:List α} {k:Nat}(h:k < l.length):l.drop k=l[k]::l.drop (k+1):=List.drop_eq_getElem_cons h
theorem yE (cols:List uk)(CA:Option Addr)(cc:Nat)(name:ByteArray)(g:Nat)(w:World)(hC:RC w w.heap.size CA cols)(hg:ah w g 9 #[.string name])(hl:cols.length≤140737488355328):
  Calls Tryz.prog 68 #[.slice CA cols.length cc,.func (.func 69) #[] #[.pointer (some ⟨g,0,none⟩)]] w fun e w'=>e=.returned (.int .i64 (nM name cols))∧Below w.heap.size w w':=by
 have HC:=hid hC;clear hC;go_enter Tryz.func68,Tryz.ntmps68;go_wp2_with fail;go_loopw [5,8] (fun _ i wr=>∃k:Nat,k≤cols.length∧i=.int .i64 k∧eG name cols=k+eG name (cols.drop k)∧Below w.heap.size w wr) (fun _ i _=>cols.length - (intOf i).toNat);case atStart=>exact⟨0,Nat.zero_le _,rfl,by simp,Below.refl _ _⟩
 case round=>
  obtain⟨k,hk,rfl,hp,hb⟩:=hrel;have HP:=hid hp;clear hp;by_cases hlt:k < cols.length
  ·obtain⟨b,off,rfl,FM,Mo⟩:=(HC.out.below hb).at_ hlt;have HD:=hid (cB hlt);generalize cols[k]=x at*;unfold sW at Mo;have hg2:=hg.later hb;go_wp2_with fail;refine(CD x name g _ hg2).mono ?_;rintro e w1 ⟨rfl,b1⟩;have hb1:=ae.then hb b1
   clear Mo hg2 b1 hb;cases hm:(x.name.toList==name.toList)
   ·go_wp2_with fail;go_roundw;case rel=>refine⟨k+1,by omega,by go_num,?_,hb1⟩;rw[HP.out,HD.out,FL hm];omega
    case measure=>simp[intOf];omega
   ·go_wp2_with fail;go_ret;refine⟨?_,hb1⟩;have WJ:eG name cols=k:=by rw[HP.out,HD.out,CE hm];omega
    unfold nM;rw[WJ,if_pos hlt];rfl
  ·go_wp2_with fail;go_ret;refine⟨?_,hb⟩;have WJ:eG name cols=cols.length:=by rw[HP.out,List.drop_eq_nil_of_le (by omega)];unfold eG;omega
   unfold nM;rw[WJ,if_neg (by omega)];rfl
theorem FN (cols:List uk)(CA:Option Addr)(cc:Nat)(name:ByteArray)(w:World)(hC:RC w w.heap.size CA cols)(hl:cols.length≤140737488355328):
  Calls Tryz.prog 43 #[.slice CA cols.length cc,.string name] w fun e w'=>e=.returned (.int .i64 (nM name cols))∧Below w.heap.size w w':=by
 have bb:=aa w (.cells #[.string name] 9);have hg:=ah.new w 9 #[.string name];have G7:=hid (hC.later bb);clear hC;go_enter Tryz.func43,Tryz.ntmps43;go_wp2_with fail;refine(yE cols CA cc name w.heap.size _ G7.out hg hl).mono ?_;rintro e w1 ⟨rfl,b1⟩;have hb:=ae.then bb b1
 clear b1 bb hg;go_wp2_with fail;go_ret;exact⟨rfl,hb⟩
end Go.Proofs.YtfmbcoeallmnnaaGreatDoor
