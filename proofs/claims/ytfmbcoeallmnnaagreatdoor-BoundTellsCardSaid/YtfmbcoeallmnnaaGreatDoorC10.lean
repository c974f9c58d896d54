/- Parts of the proof. -/
import Derived.Deep.DeepCutAuto
import Derived.Test.YtfmbcoeallmnnaaGreatDoorC9
namespace Go.Proofs.YtfmbcoeallmnnaaGreatDoor
open Go.Lib (hid)
open Go.ChangeShapes Go.WideShapes Go.ChangeAt Go.RowKit
set_option linter.unusedVariables false
set_option linter.unusedSimpArgs false
def ie (f:FuncId)(w:World)(y:Ex)(b:Bool):Prop:=∀W,Below w.heap.size w W→Calls Tryz.prog f #[.agg #[.int .u8 y.op,.int .u8 y.v.k,.int .i64 y.v.n,.string y.v.s,.string y.name,.int .i64 y.width,.slice y.A y.n y.c]] W fun e w'=>e=.returned (.bool b)∧Below W.heap.size W w'
def rS (f:FuncId)(w:World)(y:Ex)(b:Int):Prop:=∀W,Below w.heap.size w W→Calls Tryz.prog f #[.agg #[.int .u8 y.op,.int .u8 y.v.k,.int .i64 y.v.n,.string y.v.s,.string y.name,.int .i64 y.width,.slice y.A y.n y.c]] W fun e w'=>e=.returned (.int .i64 b)∧Below W.heap.size W w'
set_option maxHeartbeats 1000000
set_option maxRecDepth 100000
theorem cp (y:Ex)(w:World):Calls Tryz.prog 35 #[.agg #[.int .u8 y.op,.int .u8 y.v.k,.int .i64 y.v.n,.string y.v.s,.string y.name,.int .i64 y.width,.slice y.A y.n y.c]] w fun e w'=>e=.returned (.bool (aH y.op y.v))∧Below w.heap.size w w':=by
 have hb:=aa w (.cells #[.int .u8 y.op,.int .u8 y.v.k,.int .i64 y.v.n,.string y.v.s,.string y.name,.int .i64 y.width,.slice y.A y.n y.c] 34);cases ho:(y.op==1)
 ·go_enter Tryz.func35,Tryz.ntmps35;go_wp2_with fail;go_ret;exact⟨by first | rfl | simp[aH,ho],hb⟩
 ·go_enter Tryz.func35,Tryz.ntmps35;go_wp2_with fail;go_ret;exact⟨by first | rfl | simp[aH,ho],hb⟩
theorem rT (y:Ex)(aq:ByteArray)(w:World):Calls Tryz.prog 34 #[.agg #[.int .u8 y.op,.int .u8 y.v.k,.int .i64 y.v.n,.string y.v.s,.string y.name,.int .i64 y.width,.slice y.A y.n y.c],.string aq] w fun e w'=>e=.returned (.bool (y.op==2 && y.name.toList==aq.toList))∧Below w.heap.size w w':=by
 have hb:=aa w (.cells #[.int .u8 y.op,.int .u8 y.v.k,.int .i64 y.v.n,.string y.v.s,.string y.name,.int .i64 y.width,.slice y.A y.n y.c] 34);cases ho:(y.op==2)
 ·go_enter Tryz.func34,Tryz.ntmps34;go_wp2_with fail;go_ret;exact⟨by first | rfl | simp[aH,ho],hb⟩
 ·go_enter Tryz.func34,Tryz.ntmps34;go_wp2_with fail;go_ret;exact⟨by first | rfl | simp[aH,ho],hb⟩
theorem dH (y:Ex)(k:Int)(w:World):Calls Tryz.prog 39 #[.agg #[.int .u8 y.op,.int .u8 y.v.k,.int .i64 y.v.n,.string y.v.s,.string y.name,.int .i64 y.width,.slice y.A y.n y.c],.int .u8 k] w fun e w'=>e=.returned (.bool (y.op==1 && y.v.k==k))∧Below w.heap.size w w':=by
 have hb:=aa w (.cells #[.int .u8 y.op,.int .u8 y.v.k,.int .i64 y.v.n,.string y.v.s,.string y.name,.int .i64 y.width,.slice y.A y.n y.c] 34);cases ho:(y.op==1)
 ·go_enter Tryz.func39,Tryz.ntmps39;go_wp2_with fail;go_ret;exact⟨by first | rfl | simp[aH,ho],hb⟩
 ·go_enter Tryz.func39,Tryz.ntmps39;go_wp2_with fail;go_ret;exact⟨by first | rfl | simp[aH,ho],hb⟩
theorem CK (op:Int)(w:World):Calls Tryz.prog 41 #[.int .u8 op] w fun e w'=>e=.returned (.int .u8 (ez op))∧Below w.heap.size w w':=by
 have hb:=Below.refl w.heap.size w;by_cases h1:op=12
 ·subst h1;go_enter Tryz.func41,Tryz.ntmps41;go_wp2_with fail;go_ret;exact⟨rfl,hb⟩
 by_cases h2:op=13
 ·subst h2;go_enter Tryz.func41,Tryz.ntmps41;go_wp2_with fail;go_ret;exact⟨rfl,hb⟩
 by_cases h3:op=14
 ·subst h3;go_enter Tryz.func41,Tryz.ntmps41;go_wp2_with fail;go_ret;exact⟨rfl,hb⟩
 by_cases h4:op=15
 ·subst h4;go_enter Tryz.func41,Tryz.ntmps41;go_wp2_with fail;go_ret;exact⟨rfl,hb⟩
 have HE:=hid (show ez op=op by unfold ez;simp[h1,h2,h3,h4]);have f1:(op==12)=false:=by simpa using h1
 have f2:(op==13)=false:=by simpa using h2
 have f3:(op==14)=false:=by simpa using h3
 have f4:(op==15)=false:=by simpa using h4
 go_enter Tryz.func41,Tryz.ntmps41;go_wp2_with fail;go_ret;exact⟨by rw[HE.out];rfl,hb⟩
def pk:List Int→Int
 | []=>0
 | a::l=>max a (pk l)
theorem mg:∀(l:List Int) (a:Int),pk (l++ [a])=max (pk l) a
 | [],a=>by simp only[List.nil_append,pk];omega
 | b::l,a=>by simp only[List.cons_append,pk,mg l a];omega
theorem nR:∀ts:List Tr,Tr.gM ts=pk (ts.map Tr.depth)
 | []=>by simp[Tr.gM,pk]
 | t::ts=>by simp[Tr.gM,pk,nR ts]
theorem Ap (lO:Int)(yv:Val)(ft:ByteArray)(dL:Int)(A:Option Addr)(c:Nat)(args:List (Ex×Int))(w:World)(hl:args.length≤1599289640356)(hA:RE w w.heap.size A (args.map (·.1)))(hE:∀a∈args,rS 27 w a.1 a.2):Calls Tryz.prog 27 #[.agg #[.int .u8 lO,.int .u8 yv.k,.int .i64 yv.n,.string yv.s,.string ft,.int .i64 dL,.slice A args.length c]] w fun e w'=>e=.returned (.int .i64 (wrap64 (pk (args.map (·.2))+1)))∧Below w.heap.size w w':=by
 have HA:=hid hA;have HE:=hid hE;clear hA hE;have HX:=ah.new w 34 #[.int .u8 lO,.int .u8 yv.k,.int .i64 yv.n,.string yv.s,.string ft,.int .i64 dL,.slice A args.length c];have hb0:=aa w (.cells #[.int .u8 lO,.int .u8 yv.k,.int .i64 yv.n,.string yv.s,.string ft,.int .i64 dL,.slice A args.length c] 34);go_enter Tryz.func27,Tryz.ntmps27;go_upto_region 1 with fail
 generalize w.alloc _=W at*;have HB:=hid hb0;clear hb0;have x6:=HX.cell 6;simp only[List.getElem?_toArray,List.getElem?_cons_zero,List.getElem?_cons_succ] at x6;go_wp2_with fail;clear x6;go_loopw [3,9] (fun m iv wr=>∃i:Nat,i≤args.length∧iv=.int .i64 i∧m=.int .i64 (pk ((args.take i).map (·.2)))∧Below W.heap.size W wr) (fun _ iv _=>args.length - (intOf iv).toNat);case atStart=>exact⟨0,Nat.zero_le _,rfl,rfl,Below.refl _ _⟩
 case round=>
  obtain⟨i,hi,rfl,rfl,kt⟩:=hrel;have x6:=(HX.later kt).cell 6;simp only[List.getElem?_toArray,List.getElem?_cons_zero,List.getElem?_cons_succ] at x6;by_cases hlt:i < args.length
  ·obtain⟨b,off,rfl,FM,hex⟩:=(HA.out.below (ae.then HB.out kt)).at_ (show i <(args.map (·.1)).length by simpa using hlt);have pD:(args.map (·.1))[i]'(by simpa using hlt)=args[i].1:=by simp
   rw[pD] at hex;clear pD;have mF:=HE.out args[i] (List.getElem_mem hlt);have HT:=hid (show args.take (i+1)=args.take i++ [args[i]] by rw[List.take_add_one,List.getElem?_eq_getElem hlt];rfl);generalize args[i]=yb at*;obtain⟨y,d⟩:=yb;dsimp only at*;unfold bp at hex;generalize hm:pk ((args.take i).map (·.2))=m;have HM:=hid hm;clear hm;by_cases I5:m < d
   ·go_wp2_with fail;have bx:=aa wr (.cells #[.int .u8 y.op,.int .u8 y.v.k,.int .i64 y.v.n,.string y.v.s,.string y.name,.int .i64 y.width,.slice y.A y.n y.c] 34);refine(mF _ (ae.then (ae.then HB.out kt) bx)).mono ?_;rintro e w1 ⟨rfl,b1⟩;have hb2:=ae.then kt (ae.then bx b1)
    clear bx;clear hex mF b1;go_wp2_with fail;go_roundw;case rel=>refine⟨i+1,hlt,by go_num,?_,hb2⟩;rw[HT.out,List.map_append,List.map_singleton,mg,HM.out];congr 1;omega
    case measure=>simp[intOf];omega
   ·go_wp2_with fail;have bx:=aa wr (.cells #[.int .u8 y.op,.int .u8 y.v.k,.int .i64 y.v.n,.string y.v.s,.string y.name,.int .i64 y.width,.slice y.A y.n y.c] 34);refine(mF _ (ae.then (ae.then HB.out kt) bx)).mono ?_;rintro e w1 ⟨rfl,b1⟩;have hb2:=ae.then kt (ae.then bx b1)
    clear bx;clear hex mF b1;go_wp2_with fail;go_roundw;case rel=>refine⟨i+1,hlt,by go_num,?_,hb2⟩;rw[HT.out,List.map_append,List.map_singleton,mg,HM.out];congr 1;omega
    case measure=>simp[intOf];omega
  ·obtain rfl:i=args.length:=by omega
   have yC:args.take args.length=args:=List.take_length;rw[yC];generalize hmx:pk (args.map (·.2))=m;have WU:=hid hmx;clear hmx;go_wp2_with fail;go_ret;exact⟨by rw[WU.out];rfl,ae.then HB.out kt⟩
theorem nS (lO:Int)(yv:Val)(ft:ByteArray)(dL:Int)(A:Option Addr)(c:Nat)(args:List (Ex×Int))(w:World)(hl:args.length≤1599289640356)(hA:RE w w.heap.size A (args.map (·.1)))(hE:∀a∈args,rS 31 w a.1 a.2):Calls Tryz.prog 31 #[.agg #[.int .u8 lO,.int .u8 yv.k,.int .i64 yv.n,.string yv.s,.string ft,.int .i64 dL,.slice A args.length c]] w fun e w'=>e=.returned (.int .i64 (wrap64 (pk (args.map (·.2))+1)))∧Below w.heap.size w w':=by
 have HA:=hid hA;have HE:=hid hE;clear hA hE;have HX:=ah.new w 34 #[.int .u8 lO,.int .u8 yv.k,.int .i64 yv.n,.string yv.s,.string ft,.int .i64 dL,.slice A args.length c];have hb0:=aa w (.cells #[.int .u8 lO,.int .u8 yv.k,.int .i64 yv.n,.string yv.s,.string ft,.int .i64 dL,.slice A args.length c] 34);go_enter Tryz.func31,Tryz.ntmps31;go_upto_region 1 with fail
 generalize w.alloc _=W at*;have HB:=hid hb0;clear hb0;have x6:=HX.cell 6;simp only[List.getElem?_toArray,List.getElem?_cons_zero,List.getElem?_cons_succ] at x6;go_wp2_with fail;clear x6;go_loopw [3,4] (fun m iv wr=>∃i:Nat,i≤args.length∧iv=.int .i64 i∧m=.int .i64 (pk ((args.take i).map (·.2)))∧Below W.heap.size W wr) (fun _ iv _=>args.length - (intOf iv).toNat);case atStart=>exact⟨0,Nat.zero_le _,rfl,rfl,Below.refl _ _⟩
 case round=>
  obtain⟨i,hi,rfl,rfl,kt⟩:=hrel;have x6:=(HX.later kt).cell 6;simp only[List.getElem?_toArray,List.getElem?_cons_zero,List.getElem?_cons_succ] at x6;by_cases hlt:i < args.length
  ·obtain⟨b,off,rfl,FM,hex⟩:=(HA.out.below (ae.then HB.out kt)).at_ (show i <(args.map (·.1)).length by simpa using hlt);have pD:(args.map (·.1))[i]'(by simpa using hlt)=args[i].1:=by simp
   rw[pD] at hex;clear pD;have mF:=HE.out args[i] (List.getElem_mem hlt);have HT:=hid (show args.take (i+1)=args.take i++ [args[i]] by rw[List.take_add_one,List.getElem?_eq_getElem hlt];rfl);generalize args[i]=yb at*;obtain⟨y,d⟩:=yb;dsimp only at*;unfold bp at hex;generalize hm:pk ((args.take i).map (·.2))=m;have HM:=hid hm;clear hm;by_cases I5:m < d
   ·go_wp2_with fail;refine(mF wr (ae.then HB.out kt)).mono ?_;rintro e w1 ⟨rfl,b1⟩;have hb2:=ae.then kt b1
    clear hex mF b1;go_wp2_with fail;go_roundw;case rel=>refine⟨i+1,hlt,by go_num,?_,hb2⟩;rw[HT.out,List.map_append,List.map_singleton,mg,HM.out];congr 1;omega
    case measure=>simp[intOf];omega
   ·go_wp2_with fail;refine(mF wr (ae.then HB.out kt)).mono ?_;rintro e w1 ⟨rfl,b1⟩;have hb2:=ae.then kt b1
    clear hex mF b1;go_wp2_with fail;go_roundw;case rel=>refine⟨i+1,hlt,by go_num,?_,hb2⟩;rw[HT.out,List.map_append,List.map_singleton,mg,HM.out];congr 1;omega
    case measure=>simp[intOf];omega
  ·obtain rfl:i=args.length:=by omega
   have yC:args.take args.length=args:=List.take_length;rw[yC];generalize hmx:pk (args.map (·.2))=m;have WU:=hid hmx;clear hmx;go_wp2_with fail;go_ret;exact⟨by rw[WU.out];rfl,ae.then HB.out kt⟩
structure gj (w:World):Prop where
 lt:0 < w.heap.size
 c0:w.cell? ⟨0,0,none⟩=some (.int .i64 (-4611687117939015680))
 c1:w.cell? ⟨0,1,none⟩=some (.int .i64 4611687117939015679)
theorem gj.later {w w':World}(h:gj w)(hb:Below w.heap.size w w'):gj w':=
 ⟨Nat.lt_of_lt_of_le h.lt hb.size,(hb.cell (p:=⟨0,0,none⟩) h.lt).trans h.c0,(hb.cell (p:=⟨0,1,none⟩) h.lt).trans h.c1⟩
theorem ai {w:World} {g:Nat} {t:TypeId} {a b:Int}(h:ah w g t #[.int .i64 a,.int .i64 b]):w.cell? ⟨g,0,none⟩=some (.int .i64 a)∧w.cell? ⟨g,1,none⟩=some (.int .i64 b):=⟨h.cell 0,h.cell 1⟩
def cv (s:Sp)(w:World)(e:Ending)(w':World):Prop:=e=.returned (aM s)∧Below w.heap.size w w'
theorem ku (s:Sp)(w:World):Calls Tryz.prog 23 #[aM s] w fun e w'=>e=.returned (.bool (decide (s.b≤s.a)))∧Below w.heap.size w w':=by unfold aM;have hb:=aa w (.cells #[.int .i64 s.a,.int .i64 s.b] 30);go_enter Tryz.func23,Tryz.ntmps23;go_wp2_with fail;go_ret;exact⟨rfl,hb⟩
theorem VN (s:Sp)(t:Int)(w:World):Calls Tryz.prog 14 #[aM s,.int .i64 t] w fun e w'=>e=.returned (.bool (decide (s.a≤t)&& decide (t < s.b)))∧Below w.heap.size w w':=by
 unfold aM;have hb:=aa w (.cells #[.int .i64 s.a,.int .i64 s.b] 30);by_cases h:s.a≤t
 ·have h1:=decide_eq_true h;go_enter Tryz.func14,Tryz.ntmps14;go_wp2_with fail;go_ret;exact⟨by simp[h],hb⟩
 ·have h1:=decide_eq_false h;go_enter Tryz.func14,Tryz.ntmps14;go_wp2_with fail;go_ret;exact⟨by simp[h],hb⟩
theorem mL (x y:Sp)(w:World):Calls Tryz.prog 12 #[aM x,aM y] w (cv (cw x y) w):=by
 obtain⟨a,b⟩:=x;obtain⟨c,d⟩:=y;unfold aM cv;dsimp only;have hX:=(((ah.new w 30 #[.int .i64 a,.int .i64 b]).later (aa _ (.cells #[.int .i64 c,.int .i64 d] 30))).later (aa _ (.cells #[.int .i64 0,.int .i64 0] 30)));have hY:=((ah.new (w.alloc (.cells #[.int .i64 a,.int .i64 b] 30)) 30 #[.int .i64 c,.int .i64 d]).later (aa _ (.cells #[.int .i64 0,.int .i64 0] 30)));have hZ:=ah.new ((w.alloc (.cells #[.int .i64 a,.int .i64 b] 30)).alloc (.cells #[.int .i64 c,.int .i64 d] 30)) 30 #[.int .i64 0,.int .i64 0];have hB:=ae.then (ae.then (aa w (.cells #[.int .i64 a,.int .i64 b] 30)) (aa _ (.cells #[.int .i64 c,.int .i64 d] 30))) (aa _ (.cells #[.int .i64 0,.int .i64 0] 30))
 rw[World.size_alloc] at hY;rw[World.size_alloc,World.size_alloc] at hZ;go_enter Tryz.func12,Tryz.ntmps12;go_upto_region 1 with fail
 generalize ((w.alloc (.cells #[.int .i64 a,.int .i64 b] 30)).alloc (.cells #[.int .i64 c,.int .i64 d] 30)).alloc (.cells #[.int .i64 0,.int .i64 0] 30)=W at*;have dF:w.heap.size≤w.heap.size+1+1:=by omega
 have gx:=ai hX;have gy:=ai hY;clear hX hY;generalize w.heap.size+1+1=gz at*;by_cases h1:a < c <;> by_cases h2:b≤d
 ·have HM:=hid (show max a c=c by omega);have HN:=hid (show min b d=b by omega);go_wp2_with fail;refine(ku ⟨c,b⟩ _).mono ?_;rintro e w1 ⟨rfl,b1⟩;replace hB:=ae.then (ae.then hB (aa W (.cells #[.int .i64 c,.int .i64 b] 30))) b1
  replace hZ:=(hZ.later (aa W (.cells #[.int .i64 c,.int .i64 b] 30))).later b1;have hR:=(ah.new W 30 #[.int .i64 c,.int .i64 b]).later b1;have gr:=ai hR;by_cases h3:b≤c
  ·have h4:=decide_eq_true h3;have HE:=hid (show cw ⟨a,b⟩ ⟨c,d⟩=aw by unfold cw ct;dsimp only;rw[HM.out,HN.out,if_pos h3]);clear b1 hR h1 h2;have bB:=ai hZ;have cX:=ah.frozen hZ;clear hZ;go_wp2_with fail;exact bodyPost_ret (v:=aM aw) (by simp[results,Tryz.results12,go_sem,bB,aM,aw]) rfl ⟨by rw[HE.out],(hB.setCell (dF) _).setCell (dF) _⟩
  ·have h4:=decide_eq_false h3;have HE:=hid (show cw ⟨a,b⟩ ⟨c,d⟩=⟨c,b⟩ by unfold cw ct;dsimp only;rw[HM.out,HN.out,if_neg h3]);clear b1 hR h1 h2;have bB:=ai hZ;have cX:=ah.frozen hZ;clear hZ;go_wp2_with fail;exact bodyPost_ret (v:=aM ⟨c,b⟩) (by simp[results,Tryz.results12,go_sem,bB,aM,aw]) rfl ⟨by rw[HE.out],(hB.setCell (dF) _).setCell (dF) _⟩
 ·have HM:=hid (show max a c=c by omega);have HN:=hid (show min b d=d by omega);go_wp2_with fail;refine(ku ⟨c,d⟩ _).mono ?_;rintro e w1 ⟨rfl,b1⟩;replace hB:=ae.then (ae.then hB (aa W (.cells #[.int .i64 c,.int .i64 d] 30))) b1
  replace hZ:=(hZ.later (aa W (.cells #[.int .i64 c,.int .i64 d] 30))).later b1;have hR:=(ah.new W 30 #[.int .i64 c,.int .i64 d]).later b1;have gr:=ai hR;by_cases h3:d≤c
  ·have h4:=decide_eq_true h3;have HE:=hid (show cw ⟨a,b⟩ ⟨c,d⟩=aw by unfold cw ct;dsimp only;rw[HM.out,HN.out,if_pos h3]);clear b1 hR h1 h2;have bB:=ai hZ;have cX:=ah.frozen hZ;clear hZ;go_wp2_with fail;exact bodyPost_ret (v:=aM aw) (by simp[results,Tryz.results12,go_sem,bB,aM,aw]) rfl ⟨by rw[HE.out],(hB.setCell (dF) _).setCell (dF) _⟩
  ·have h4:=decide_eq_false h3;have HE:=hid (show cw ⟨a,b⟩ ⟨c,d⟩=⟨c,d⟩ by unfold cw ct;dsimp only;rw[HM.out,HN.out,if_neg h3]);clear b1 hR h1 h2;have bB:=ai hZ;have cX:=ah.frozen hZ;clear hZ;go_wp2_with fail;exact bodyPost_ret (v:=aM ⟨c,d⟩) (by simp[results,Tryz.results12,go_sem,bB,aM,aw]) rfl ⟨by rw[HE.out],(hB.setCell (dF) _).setCell (dF) _⟩
 ·have HM:=hid (show max a c=a by omega);have HN:=hid (show min b d=b by omega);go_wp2_with fail;refine(ku ⟨a,b⟩ _).mono ?_;rintro e w1 ⟨rfl,b1⟩;replace hB:=ae.then (ae.then hB (aa W (.cells #[.int .i64 a,.int .i64 b] 30))) b1
  replace hZ:=(hZ.later (aa W (.cells #[.int .i64 a,.int .i64 b] 30))).later b1;have hR:=(ah.new W 30 #[.int .i64 a,.int .i64 b]).later b1;have gr:=ai hR;by_cases h3:b≤a
  ·have h4:=decide_eq_true h3;have HE:=hid (show cw ⟨a,b⟩ ⟨c,d⟩=aw by unfold cw ct;dsimp only;rw[HM.out,HN.out,if_pos h3]);clear b1 hR h1 h2;have bB:=ai hZ;have cX:=ah.frozen hZ;clear hZ;go_wp2_with fail;exact bodyPost_ret (v:=aM aw) (by simp[results,Tryz.results12,go_sem,bB,aM,aw]) rfl ⟨by rw[HE.out],(hB.setCell (dF) _).setCell (dF) _⟩
  ·have h4:=decide_eq_false h3;have HE:=hid (show cw ⟨a,b⟩ ⟨c,d⟩=⟨a,b⟩ by unfold cw ct;dsimp only;rw[HM.out,HN.out,if_neg h3]);clear b1 hR h1 h2;have bB:=ai hZ;have cX:=ah.frozen hZ;clear hZ;go_wp2_with fail;exact bodyPost_ret (v:=aM ⟨a,b⟩) (by simp[results,Tryz.results12,go_sem,bB,aM,aw]) rfl ⟨by rw[HE.out],(hB.setCell (dF) _).setCell (dF) _⟩
 ·have HM:=hid (show max a c=a by omega);have HN:=hid (show min b d=d by omega);go_wp2_with fail;refine(ku ⟨a,d⟩ _).mono ?_;rintro e w1 ⟨rfl,b1⟩;replace hB:=ae.then (ae.then hB (aa W (.cells #[.int .i64 a,.int .i64 d] 30))) b1
  replace hZ:=(hZ.later (aa W (.cells #[.int .i64 a,.int .i64 d] 30))).later b1;have hR:=(ah.new W 30 #[.int .i64 a,.int .i64 d]).later b1;have gr:=ai hR;by_cases h3:d≤a
  ·have h4:=decide_eq_true h3;have HE:=hid (show cw ⟨a,b⟩ ⟨c,d⟩=aw by unfold cw ct;dsimp only;rw[HM.out,HN.out,if_pos h3]);clear b1 hR h1 h2;have bB:=ai hZ;have cX:=ah.frozen hZ;clear hZ;go_wp2_with fail;exact bodyPost_ret (v:=aM aw) (by simp[results,Tryz.results12,go_sem,bB,aM,aw]) rfl ⟨by rw[HE.out],(hB.setCell (dF) _).setCell (dF) _⟩
  ·have h4:=decide_eq_false h3;have HE:=hid (show cw ⟨a,b⟩ ⟨c,d⟩=⟨a,d⟩ by unfold cw ct;dsimp only;rw[HM.out,HN.out,if_neg h3]);clear b1 hR h1 h2;have bB:=ai hZ;have cX:=ah.frozen hZ;clear hZ;go_wp2_with fail;exact bodyPost_ret (v:=aM ⟨a,d⟩) (by simp[results,Tryz.results12,go_sem,bB,aM,aw]) rfl ⟨by rw[HE.out],(hB.setCell (dF) _).setCell (dF) _⟩
theorem Aq {k m:Int}(h:min k bo=m):cw ⟨-4611687117939015680,m⟩ ⟨-4611687117939015680,4611687117939015679⟩=iV k:=by have hl:cP= -4611687117939015680:=rfl;have hh:bo=4611687117939015679:=rfl;unfold cw iV;dsimp only;congr 1 <;> omega
theorem Jf {k:Int}(h:¬bo - 1≤k):cw ⟨k+1,4611687117939015679⟩ ⟨-4611687117939015680,4611687117939015679⟩=kE k:=by have hl:cP= -4611687117939015680:=rfl;have hh:bo=4611687117939015679:=rfl;unfold cw kE;rw[if_neg h];dsimp only;congr 1 <;> omega
theorem Ar {k m:Int}(h:max k cP=m):cw ⟨m,4611687117939015679⟩ ⟨-4611687117939015680,4611687117939015679⟩=fM k:=by have hl:cP= -4611687117939015680:=rfl;have hh:bo=4611687117939015679:=rfl;unfold cw fM;dsimp only;congr 1 <;> omega
theorem rU (k:Int)(hk: -9223372036854775808≤k∧k≤9223372036854775807)(w:World)(hE:gj w):Calls Tryz.prog 63 #[.int .i64 k] w (cv (iV k) w):=by
 obtain⟨z,hz⟩:∃z,z=iV k:=⟨_,rfl⟩;have gb:=hid hz;unfold cv;rw[← hz];clear hz;have hl:cP= -4611687117939015680:=rfl;have hh:bo=4611687117939015679:=rfl;have HL:=hid hl;have HH:=hid hh;clear hl hh;have hZ:=ah.new w 30 #[.int .i64 0,.int .i64 0];have hB:=aa w (.cells #[.int .i64 0,.int .i64 0] 30);have E:=hE.later hB;go_enter Tryz.func63,Tryz.ntmps63;go_upto_region 1 with fail
 generalize w.alloc (.cells #[.int .i64 0,.int .i64 0] 30)=W at*;have dF:w.heap.size≤w.heap.size:=Nat.le_refl _;have e0:=E.c0;have e1:=E.c1;by_cases h1:k≤4611687117939015679
 ·go_wp2_with fail;refine(mL ⟨-4611687117939015680,k⟩ ⟨-4611687117939015680,4611687117939015679⟩ _).mono ?_;rintro e w1 ⟨rfl,b1⟩;rw[show cw ⟨-4611687117939015680,k⟩ ⟨-4611687117939015680,4611687117939015679⟩=z by rw[gb.out];exact Aq (by have:=HH.out;omega)];clear gb HL HH;replace hB:=ae.then hB b1
  replace hZ:=hZ.later b1;clear b1;unfold aM;have bB:=ai hZ;have cX:=ah.frozen hZ;clear hZ;go_wp2_with fail;exact bodyPost_ret (v:=aM z) (by simp[results,Tryz.results63,go_sem,bB,aM,aw]) rfl ⟨rfl,(hB.setCell (dF) _).setCell (dF) _⟩
 ·go_wp2_with fail;refine(mL ⟨-4611687117939015680,4611687117939015679⟩ ⟨-4611687117939015680,4611687117939015679⟩ _).mono ?_;rintro e w1 ⟨rfl,b1⟩;rw[show cw ⟨-4611687117939015680,4611687117939015679⟩ ⟨-4611687117939015680,4611687117939015679⟩=z by rw[gb.out];exact Aq (by have:=HH.out;omega)];clear gb HL HH;replace hB:=ae.then hB b1
  replace hZ:=hZ.later b1;clear b1;unfold aM;have bB:=ai hZ;have cX:=ah.frozen hZ;clear hZ;go_wp2_with fail;exact bodyPost_ret (v:=aM z) (by simp[results,Tryz.results63,go_sem,bB,aM,aw]) rfl ⟨rfl,(hB.setCell (dF) _).setCell (dF) _⟩
theorem xw (k:Int)(hk: -9223372036854775808≤k∧k≤9223372036854775807)(w:World)(hE:gj w):Calls Tryz.prog 61 #[.int .i64 k] w (cv (fM k) w):=by
 obtain⟨z,hz⟩:∃z,z=fM k:=⟨_,rfl⟩;have gb:=hid hz;unfold cv;rw[← hz];clear hz;have hl:cP= -4611687117939015680:=rfl;have hh:bo=4611687117939015679:=rfl;have HL:=hid hl;have HH:=hid hh;clear hl hh;have hZ:=ah.new w 30 #[.int .i64 0,.int .i64 0];have hB:=aa w (.cells #[.int .i64 0,.int .i64 0] 30);have E:=hE.later hB;go_enter Tryz.func61,Tryz.ntmps61;go_upto_region 1 with fail
 generalize w.alloc (.cells #[.int .i64 0,.int .i64 0] 30)=W at*;have dF:w.heap.size≤w.heap.size:=Nat.le_refl _;have e0:=E.c0;have e1:=E.c1;by_cases h1:k < -4611687117939015680
 ·go_wp2_with fail;refine(mL ⟨-4611687117939015680,4611687117939015679⟩ ⟨-4611687117939015680,4611687117939015679⟩ _).mono ?_;rintro e w1 ⟨rfl,b1⟩;rw[show cw ⟨-4611687117939015680,4611687117939015679⟩ ⟨-4611687117939015680,4611687117939015679⟩=z by rw[gb.out];exact Ar (by have:=HL.out;omega)];clear gb HL HH;replace hB:=ae.then hB b1
  replace hZ:=hZ.later b1;clear b1;unfold aM;have bB:=ai hZ;have cX:=ah.frozen hZ;clear hZ;go_wp2_with fail;exact bodyPost_ret (v:=aM z) (by simp[results,Tryz.results61,go_sem,bB,aM,aw]) rfl ⟨rfl,(hB.setCell (dF) _).setCell (dF) _⟩
 ·go_wp2_with fail;refine(mL ⟨k,4611687117939015679⟩ ⟨-4611687117939015680,4611687117939015679⟩ _).mono ?_;rintro e w1 ⟨rfl,b1⟩;rw[show cw ⟨k,4611687117939015679⟩ ⟨-4611687117939015680,4611687117939015679⟩=z by rw[gb.out];exact Ar (by have:=HL.out;omega)];clear gb HL HH;replace hB:=ae.then hB b1
  replace hZ:=hZ.later b1;clear b1;unfold aM;have bB:=ai hZ;have cX:=ah.frozen hZ;clear hZ;go_wp2_with fail;exact bodyPost_ret (v:=aM z) (by simp[results,Tryz.results61,go_sem,bB,aM,aw]) rfl ⟨rfl,(hB.setCell (dF) _).setCell (dF) _⟩
theorem FX (k:Int)(hk: -9223372036854775808≤k∧k≤9223372036854775807)(w:World)(hE:gj w):Calls Tryz.prog 64 #[.int .i64 k] w (cv (kE k) w):=by
 obtain⟨z,hz⟩:∃z,z=kE k:=⟨_,rfl⟩;have gb:=hid hz;unfold cv;rw[← hz];clear hz;have hl:cP= -4611687117939015680:=rfl;have hh:bo=4611687117939015679:=rfl;have HL:=hid hl;have HH:=hid hh;clear hl hh;have hZ:=ah.new w 30 #[.int .i64 0,.int .i64 0];have hB:=aa w (.cells #[.int .i64 0,.int .i64 0] 30);have E:=hE.later hB;go_enter Tryz.func64,Tryz.ntmps64;go_upto_region 1 with fail
 generalize w.alloc (.cells #[.int .i64 0,.int .i64 0] 30)=W at*;have dF:w.heap.size≤w.heap.size:=Nat.le_refl _;have e0:=E.c0;have e1:=E.c1;by_cases h1:4611687117939015678≤k
 ·have h2:=decide_eq_true h1;have HE:=hid (show z=aw by rw[gb.out];unfold kE;rw[if_pos (by have:=HH.out;omega)]);clear gb HL HH;have bB:=ai hZ;have cX:=ah.frozen hZ;clear hZ;go_wp2_with fail;exact bodyPost_ret (v:=aM aw) (by simp[results,Tryz.results64,go_sem,bB,aM,aw]) rfl ⟨by rw[HE.out],(hB.setCell (dF) _).setCell (dF) _⟩
 ·have h2:=decide_eq_false h1;go_wp2_with fail;refine(mL ⟨k+1,4611687117939015679⟩ ⟨-4611687117939015680,4611687117939015679⟩ _).mono ?_;rintro e w1 ⟨rfl,b1⟩;rw[show cw ⟨k+1,4611687117939015679⟩ ⟨-4611687117939015680,4611687117939015679⟩=z by rw[gb.out];exact Jf (by have:=HH.out;omega)];clear gb HL HH;replace hB:=ae.then hB b1
  replace hZ:=hZ.later b1;clear b1;unfold aM;have bB:=ai hZ;have cX:=ah.frozen hZ;clear hZ;go_wp2_with fail;exact bodyPost_ret (v:=aM z) (by simp[results,Tryz.results64,go_sem,bB,aM,aw]) rfl ⟨rfl,(hB.setCell (dF) _).setCell (dF) _⟩
theorem Au (k:Int)(hk: -9223372036854775808≤k∧k≤9223372036854775807)(w:World)(hE:gj w):Calls Tryz.prog 62 #[.int .i64 k] w (cv (jx k) w):=by
 obtain⟨z,hz⟩:∃z,z=jx k:=⟨_,rfl⟩;have gb:=hid hz;unfold cv;rw[← hz];clear hz;have hl:cP= -4611687117939015680:=rfl;have hh:bo=4611687117939015679:=rfl;have HL:=hid hl;have HH:=hid hh;clear hl hh;have hZ:=ah.new w 30 #[.int .i64 0,.int .i64 0];have hB:=aa w (.cells #[.int .i64 0,.int .i64 0] 30);have E:=hE.later hB;go_enter Tryz.func62,Tryz.ntmps62;go_upto_region 1 with fail
 generalize w.alloc (.cells #[.int .i64 0,.int .i64 0] 30)=W at*;have dF:w.heap.size≤w.heap.size:=Nat.le_refl _;have e0:=E.c0;have e1:=E.c1;by_cases h1:k≤4611687117939015678
 ·go_wp2_with fail;refine(rU (k+1) (by omega) _ E).mono ?_;rintro e w1 ⟨rfl,b1⟩;rw[show iV (k+1)=z by rw[gb.out];unfold jx;rw[show min k (bo - 1)=k by have:=HH.out;omega]];clear gb HL HH;replace hB:=ae.then hB b1
  replace hZ:=hZ.later b1;clear b1;unfold aM;have bB:=ai hZ;have cX:=ah.frozen hZ;clear hZ;go_wp2_with fail;exact bodyPost_ret (v:=aM z) (by simp[results,Tryz.results62,go_sem,bB,aM,aw]) rfl ⟨rfl,(hB.setCell (dF) _).setCell (dF) _⟩
 ·go_wp2_with fail;refine(rU (4611687117939015679) (by omega) _ E).mono ?_;rintro e w1 ⟨rfl,b1⟩;rw[show iV (4611687117939015679)=z by rw[gb.out];unfold jx;rw[show min k (bo - 1)=4611687117939015678 by have:=HH.out;omega];rfl];clear gb HL HH;replace hB:=ae.then hB b1
  replace hZ:=hZ.later b1;clear b1;unfold aM;have bB:=ai hZ;have cX:=ah.frozen hZ;clear hZ;go_wp2_with fail;exact bodyPost_ret (v:=aM z) (by simp[results,Tryz.results62,go_sem,bB,aM,aw]) rfl ⟨rfl,(hB.setCell (dF) _).setCell (dF) _⟩
def kH:List (Int×Value)→Nat→List MapEntry
 | [],_=> []
 | x::l,i=>⟨.int .u8 x.1,x.2,i⟩::kH l (i+1)
theorem uX (x:Int×Value):∀(l:List (Int×Value)) (i:Nat),kH (l++ [x]) i=kH l i++ [⟨.int .u8 x.1,x.2,i+l.length⟩]
 | [],i=>rfl
 | y::l,i=>by simp only[List.cons_append,kH,uX x l (i+1),List.length_cons];rw[show i+1+l.length=i+(l.length+1) by omega]
theorem yI (k:Int):∀(l:List (Int×Value)) (i j:Nat),match l.lookup k with
  | some v=>∃n,Instr.findNow (.int .u8) (.int .u8 k) (kH l i) j=some (some (n,v))
  | none=>Instr.findNow (.int .u8) (.int .u8 k) (kH l i) j=some none
 | [],i,j=>by simp[kH,Instr.findNow]
 |(x,v)::l,i,j=>by
  have ih:=yI k l (i+1) (j+1);have e:Instr.sameNow (.int .u8) (.int .u8 k) (.int .u8 x)=some (k==x):=rfl;rw[List.lookup_cons];cases hx:(k==x)
  ·have e2:Instr.findNow (.int .u8) (.int .u8 k) (kH ((x,v)::l) i) j=Instr.findNow (.int .u8) (.int .u8 k) (kH l (i+1)) (j+1):=by simp only[kH,Instr.findNow,e,hx]
   simp only[e2];exact ih
  ·simp only;exact⟨j,by simp only[kH,Instr.findNow,e,hx]⟩
def qc (w:World)(g:Nat)(l:List (Int×Value)):Prop:=w.heap[g]?=some (.map (kH l 0).toArray l.length)
theorem CM {w:World} {g:Nat} {es es':Array MapEntry} {c c':Nat}(hg:w.heap[g]?=some (.map es c)):(aI w g es' c').heap[g]?=some (.map es' c'):=by
 have:g < w.heap.size:=by
  rcases Nat.lt_or_ge g w.heap.size with h | h
  ·exact h
  ·rw[Array.getElem?_eq_none h] at hg;cases hg
 simp[aI,this]
theorem Av {w:World} {g q:Nat}(es:Array MapEntry)(c:Nat)(h:g≠q):(aI w g es c).heap[q]?=w.heap[q]?:=by simp only[aI,Array.getElem?_setIfInBounds];rw[if_neg h]
section
variable {P:Program} {T K V:TypeId} (hT:P.underlying T=some (.map K V)) (hK:P.underlying K=some (.int .u8))
include hT hK
theorem FY {w:World} {g:Nat} {l:List (Int×Value)}(hg:qc w g l) {x:Int} {v:Value}(hx:l.lookup x=none):
  (Instr.mapUpdate T (.map (some g)) (.int .u8 x) v).run P w=.ok () (aI w g (kH (l++ [(x,v)]) 0).toArray (l.length+1)):=by
 have hf:=yI x l 0 0;rw[hx] at hf;have hk:∀e (k:Int) (w:World),(Instr.checkKey e 10000 K (.int .u8 k)).run P w=.ok () w:=fun e k w=>MapKept.run_checkKey hK (by simp[MapKept.IsKey]) e 9999
 unfold Instr.mapUpdate;simp only[Sem.run_bind,run_underlying hT,Result.andThen_ok,MapKept.run_getObj_map hg,hk,Instr.findKey,run_underlying hK,hf,Sem.run_pure,MapKept.run_setObj_map _ hg];rw[uX];simp[aI]
theorem CN {w:World} {g:Nat} {l:List (Int×Value)}(hg:qc w g l)(k:Int) {z:Value}(hz:∀w:World,(zeroValue V).run P w=.ok z w):
  (Instr.lookup T (.map (some g)) (.int .u8 k) false).run P w=.ok ((l.lookup k).getD z) w:=by
 have hf:=yI k l 0 0;have hk:∀e (k:Int) (w:World),(Instr.checkKey e 10000 K (.int .u8 k)).run P w=.ok () w:=fun e k w=>MapKept.run_checkKey hK (by simp[MapKept.IsKey]) e 9999
 unfold Instr.lookup;cases hc:l.lookup k with
 | none=>rw[hc] at hf;simp only[Sem.run_bind,run_underlying hT,Result.andThen_ok,MapKept.run_getObj_map hg,hk,Instr.findKey,run_underlying hK,hf,Sem.run_pure,hz];rfl
 | some v=>rw[hc] at hf;obtain⟨n,hf⟩:=hf;simp only[Sem.run_bind,run_underlying hT,Result.andThen_ok,MapKept.run_getObj_map hg,hk,Instr.findKey,run_underlying hK,hf,Sem.run_pure];rfl
theorem Aw {w:World} {g:Nat} {l:List (Int×Value)}(hg:qc w g l)(k:Int) {z:Value}(hz:∀w:World,(zeroValue V).run P w=.ok z w):
  (Instr.lookup T (.map (some g)) (.int .u8 k) true).run P w=.ok (.tuple #[(l.lookup k).getD z,.bool (l.lookup k).isSome]) w:=by
 have hf:=yI k l 0 0;have hk:∀e (k:Int) (w:World),(Instr.checkKey e 10000 K (.int .u8 k)).run P w=.ok () w:=fun e k w=>MapKept.run_checkKey hK (by simp[MapKept.IsKey]) e 9999
 unfold Instr.lookup;cases hc:l.lookup k with
 | none=>rw[hc] at hf;simp only[Sem.run_bind,run_underlying hT,Result.andThen_ok,MapKept.run_getObj_map hg,hk,Instr.findKey,run_underlying hK,hf,Sem.run_pure,hz];rfl
 | some v=>rw[hc] at hf;obtain⟨n,hf⟩:=hf;simp only[Sem.run_bind,run_underlying hT,Result.andThen_ok,MapKept.run_getObj_map hg,hk,Instr.findKey,run_underlying hK,hf,Sem.run_pure];rfl
omit hT hK in
theorem wR (w:World)(g:Nat)(es:Array MapEntry)(c:Nat):w.grownBy (aI w g es c) (some g):=
 ⟨rfl,rfl,rfl,by simp[aI],fun i hi hne=>Av es c (fun e=>hne (by rw[e]))⟩
omit hT hK in
theorem qc.new (w:World):qc (w.alloc (.map #[] 0)) w.heap.size []:=by show(w.heap.push (.map #[] 0))[w.heap.size]?=_;rw[Array.getElem?_push_size];rfl
variable {ops:Array Oper} {rest:List Oper} {o:Oper} {a:Act} {w:World} {Q:Exit→Act→World→Prop}
theorem iE (hgd:o.guard=none)(m x y:Operand)(ho:o.op=.insert T m x y)(g:Nat)(hm:a.eval m=.map (some g))(k:Int)(hx:a.eval x=.int .u8 k)(v:Value)(hv:a.eval y=v) {l:List (Int×Value)}(hM:qc w g l)(hl:l.lookup k=none)
  (h:∀w',qc w' g (l++ [(k,v)])→w.grownBy w' (some g)→wpList P ops Q rest (a.put o.dst undef) w'):wpList P ops Q (o::rest) a w:=
 wpList_plain hgd fun K Qc=>by
  unfold Oper.wp execOp;simp only[ho,hm,hx,hv,Sem.run_bind,FY hT hK hM hl,Result.andThen_ok];have I6:qc (aI w g (kH (l++ [(k,v)]) 0).toArray (l.length+1)) g (l++ [(k,v)]):=by have:=CM (es':=(kH (l++ [(k,v)]) 0).toArray) (c':=l.length+1) hM;unfold qc;rw[List.length_append,List.length_singleton];exact this
  exact Qc _ _ (h _ I6 (wR _ _ _ _))
omit hT hK in
theorem pH (hgd:o.guard=none)(T:TypeId)(ho:o.op=.makeMap T none)(h:wpList P ops Q rest (a.put o.dst (.map (some w.heap.size))) (w.alloc (.map #[] 0))):wpList P ops Q (o::rest) a w:=
 wpList_plain hgd fun K Qc=>by unfold Oper.wp execOp;simp only[ho,Option.map_none,Sem.run_bind,run_makeMap,Result.andThen_ok];exact Qc _ _ h
theorem dQ (hgd:o.guard=none)(m x:Operand)(ho:o.op=.lookup T m x false)(g:Nat)(hm:a.eval m=.map (some g))(k:Int)(hx:a.eval x=.int .u8 k) {l:List (Int×Value)}(hM:qc w g l) {z:Value}(hz:∀w:World,(zeroValue V).run P w=.ok z w)
  (h:wpList P ops Q rest (a.put o.dst ((l.lookup k).getD z)) w):wpList P ops Q (o::rest) a w:=
 wpList_plain hgd fun K Qc=>by unfold Oper.wp execOp;simp only[ho,hm,hx,Sem.run_bind,CN hT hK hM k hz,Result.andThen_ok];exact Qc _ _ h
theorem fP (hgd:o.guard=none)(m x:Operand)(ho:o.op=.lookup T m x true)(g:Nat)(hm:a.eval m=.map (some g))(k:Int)(hx:a.eval x=.int .u8 k) {l:List (Int×Value)}(hM:qc w g l) {z:Value}(hz:∀w:World,(zeroValue V).run P w=.ok z w)
  (h:wpList P ops Q rest (a.put o.dst (.tuple #[(l.lookup k).getD z,.bool (l.lookup k).isSome])) w):wpList P ops Q (o::rest) a w:=
 wpList_plain hgd fun K Qc=>by unfold Oper.wp execOp;simp only[ho,hm,hx,Sem.run_bind,Aw hT hK hM k hz,Result.andThen_ok];exact Qc _ _ h
end
theorem iF {p B:Nat} {a b:World}(h:a.grownBy b (some p))(hB:B≤a.heap.size)(hp:B≤p):Below B a b:=
 ⟨h.os,h.tape,h.output,h.size,fun k hk=>h.block k (by omega) (by intro e;injection e with e;omega)⟩
def Tu (f:FuncId):Value:=.func (.func f) #[] #[]
theorem FZ (k:Int)(hk: -9223372036854775808≤k∧k≤9223372036854775807)(w:World)(hE:gj w)(g1 g2:Nat)(l1:g1 < w.heap.size)(l2:g2 < w.heap.size)(f1:w.cell? ⟨g1,0,none⟩=some (Tu 61))(f2:w.cell? ⟨g2,0,none⟩=some (Tu 62)):
  Calls Tryz.prog 65 #[.int .i64 k,.pointer (some ⟨g1,0,none⟩),.pointer (some ⟨g2,0,none⟩)] w (cv (cw (fM k) (jx k)) w):=by
 unfold cv;obtain⟨z,hz⟩:∃z,z=cw (fM k) (jx k):=⟨_,rfl⟩;have gb:=hid hz;rw[← hz];clear hz;have hZ:=ah.new w 30 #[.int .i64 0,.int .i64 0];have hB:=aa w (.cells #[.int .i64 0,.int .i64 0] 30);have E:=hE.later hB;have c1:=(hB.cell (p:=⟨g1,0,none⟩) l1).trans f1;have c2:=(hB.cell (p:=⟨g2,0,none⟩) l2).trans f2;have m1:=Nat.lt_of_lt_of_le l1 hB.size;have m2:=Nat.lt_of_lt_of_le l2 hB.size;clear f1 f2 l1 l2;unfold Tu at c1 c2;go_enter Tryz.func65,Tryz.ntmps65;go_upto_region 1 with fail
 generalize w.alloc (.cells #[.int .i64 0,.int .i64 0] 30)=W at*;have dF:w.heap.size≤w.heap.size:=Nat.le_refl _;have q1:=fun q:Ext W.heap.size W=>(q.h.cell (p:=⟨g1,0,none⟩) m1).trans c1
 have q2:=fun q:Ext W.heap.size W=>(q.h.cell (p:=⟨g2,0,none⟩) m2).trans c2
 have n1:=fun q:Ext W.heap.size W=>xw k hk q.w (E.later q.h)
 have n2:=fun q:Ext W.heap.size W=>Au k hk q.w (E.later q.h)
 have n3:∀q:Ext W.heap.size W,Calls Tryz.prog 12 #[aM (fM k),aM (jx k)] q.w (fun e w'=>e=.returned (aM z)∧Below q.w.heap.size q.w w'):=fun q=>by rw[gb.out];exact mL _ _ _
 unfold cv at n1 n2;clear gb;clear c1 c2;refine cZ 7 W.heap.size W (Below.refl _ _) (by kernel_rfl) (by kernel_rfl) (by kernel_rfl) (by kernel_rfl) ?_;simp only[List.append,List.take_succ_cons,List.take_zero,List.drop_succ_cons,List.drop_zero];repeat (go_big_quiet_step (first
  |(go_at_call 61;exact dP (Nat.le_refl _) (n1 _))
  |(go_at_call 62;exact dP (Nat.le_refl _) (n2 _))
  |(go_at_call 12;exact dP (Nat.le_refl _) (n3 _))))
 refine wpQuiet_nil ?_;rintro V4 ⟨x9,xq⟩;have VO:=x9.h;rw[← xq] at VO;clear xq x9 q1 q2 n1 n2 n3;replace hB:=ae.then hB VO
 replace hZ:=hZ.later VO;clear VO;unfold aM;have bB:=ai hZ;have cX:=ah.frozen hZ;clear hZ;go_wp2_with fail;exact bodyPost_ret (v:=aM z) (by simp[results,Tryz.results65,go_sem,bB,aM,aw]) rfl ⟨rfl,(hB.setCell (dF) _).setCell (dF) _⟩
def pI (g1 g2:Nat):List (Int×Value):=[(12,.func (.func 63) #[] #[]),(14,.func (.func 64) #[] #[]),(15,.func (.func 61) #[] #[]),(13,.func (.func 62) #[] #[]),(10,.func (.func 65) #[] #[.pointer (some ⟨g1,0,none⟩),.pointer (some ⟨g2,0,none⟩)])]
def Jg (w:World)(e:Ending)(w':World):Prop:=∃g g1 g2,e=.returned (.map (some g))∧qc w' g (pI g1 g2)∧g1 < w'.heap.size∧g2 < w'.heap.size∧w'.cell? ⟨g1,0,none⟩=some (Tu 61)∧w'.cell? ⟨g2,0,none⟩=some (Tu 62)∧Below w.heap.size w w'
theorem jz (w:World):Calls Tryz.prog 37 #[] w (Jg w):=by
 have SY:∀(fn:Fn) (first cap:Array Value) (w:World),(Instr.makeFunc fn first cap).run Tryz.prog w=.ok (.func fn first cap) w:=fun _ _ _ _=>rfl
 have h1:=(ah.new w 67 #[.func (.func 61) #[] #[]]).later (aa _ (.cells #[.func (.func 62) #[] #[]] 67));have h2:=ah.new (w.alloc (.cells #[.func (.func 61) #[] #[]] 67)) 67 #[.func (.func 62) #[] #[]];have hB:=ae.then (aa w (.cells #[.func (.func 61) #[] #[]] 67)) (aa _ (.cells #[.func (.func 62) #[] #[]] 67))
 rw[World.size_alloc] at h2;go_enter Tryz.func37,Tryz.ntmps37;go_upto_region 3 with fail
 generalize World.alloc (World.alloc w _) _=W at*;have l1:=h1.lt;have l2:=h2.lt;have n1:some w.heap.size≠some W.heap.size:=fun e=>by injection e with e;omega
 have n2:some (w.heap.size+1)≠some W.heap.size:=fun e=>by injection e with e;omega
 have hw:w.heap.size≤W.heap.size:=hB.size;have hM:=qc.new W;have hBm:=aa W (.map #[] 0);replace h1:=h1.later hBm;replace h2:=h2.later hBm;replace hB:=ae.then hB hBm
 clear hBm l1 l2;refine wp_region_lit ?_;refine pH rfl 68 rfl ?_;generalize W.heap.size=gm at*;generalize W.alloc _=W0 at*;have c1:=h1.cell 0;have c2:=h2.cell 0;simp only[List.getElem?_toArray,List.getElem?_cons_zero] at c1 c2;go_wp2_with (first
  |(refine iE Tryz.underlying68 Tryz.underlying5 rfl _ _ _ rfl gm rfl _ rfl _ rfl hM (by rfl) ?_
    clear hM c1 c2
    intro wm hM hgr
    replace h1:=h1.grown hgr n1
    replace h2:=h2.grown hgr n2
    replace hB:=hB.trans (iF hgr hB.size hw)
    clear hgr
    have c1:=h1.cell 0
    have c2:=h2.cell 0
    simp only[List.getElem?_toArray,List.getElem?_cons_zero] at c1 c2))
 go_ret;exact⟨gm,w.heap.size,w.heap.size+1,rfl,hM,h1.lt,h2.lt,c1,c2,hB⟩
end Go.Proofs.YtfmbcoeallmnnaaGreatDoor
