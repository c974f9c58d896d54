/- Parts of the proof. -/
import Derived.Deep.DeepCutAuto
import Derived.Test.YtfmbcoeallmnnaaGreatDoorD12
namespace Go.Proofs.YtfmbcoeallmnnaaGreatDoor
open Go.Lib (hid)
set_option linter.unusedVariables false
set_option linter.unusedSimpArgs false
def mL (op:Int):Int:=if op=12 then 14 else if op=14 then 12 else if op=13 then 15 else if op=15 then 13 else op
def aO (op:Int)(v:Val):Bool:=op==1 && v.k==0
def wU (t:Tr):Bool:=aO t.op t.v
def kE (op:Int)(v:Val):Bool:=aO op v ||(op==1 && fw v ⟨1,0,ByteArray.empty⟩)
def iP (aA:ByteArray)(t:Tr):Bool:=t.op==2 && t.name.toList==aA.toList
def qD:Tr:=.mk 0 ah ByteArray.empty 0 []
def bF (op:Int)(aA:ByteArray)(a b:Tr):Int×Val×Bool:=
 if iP aA b=true then(mL op,a.v,iP aA b && a.op==1)else(op,b.v,iP aA a && b.op==1)
def qE (op:Int)(aA:ByteArray)(a b:Tr):Sp:=
 if (bF op aA a b).2.2=true∧(bF op aA a b).2.1.k=2∧AX (bF op aA a b).1=true then jX (bF op aA a b).1 (bF op aA a b).2.1.n else aY
def sy (aA:ByteArray)(op:Int)(v:Val)(args:List Tr)(sp:List Sp):Sp:=
 if op=16 then bT (sp.getD 0 br) (sp.getD 1 br)
 else if op=17 then Jz (sp.getD 0 br) (sp.getD 1 br)
 else if kE op v=true then br
 else if op < 10∨15 < op then aY
 else if args.any wU=true then br
 else qE op aA (args.getD 0 qD) (args.getD 1 qD)
mutual
def Tr.span (aA:ByteArray):Tr→Sp
 | .mk op v name width args=>sy aA op v args (Tr.sB aA args)
def Tr.sB (aA:ByteArray):List Tr→List Sp
 | []=> []
 | t::ts=>t.span aA::Tr.sB aA ts
end
def UO (aA:ByteArray)(op:Int)(args:List Tr)(vs:List (Option Val)):Option Val:=
 if op=16 then(match vs.getD 0 none with | some x=>some x | none=>vs.getD 1 none)
 else if op=17 then(match vs.getD 0 none,vs.getD 1 none with | some x,some y=>if fw x y=true then some x else none | _,_=>none)
 else if op=10 then
  (if (bF op aA (args.getD 0 qD) (args.getD 1 qD)).2.2=true∧(bF op aA (args.getD 0 qD) (args.getD 1 qD)).2.1.k≠0 then some (bF op aA (args.getD 0 qD) (args.getD 1 qD)).2.1 else none)
 else none
mutual
def Tr.value (aA:ByteArray):Tr→Option Val
 | .mk op v name width args=>UO aA op args (Tr.values aA args)
def Tr.values (aA:ByteArray):List Tr→List (Option Val)
 | []=> []
 | t::ts=>t.value aA::Tr.values aA ts
end
def wV (op:Int)(v:Val)(width:Int)(n:Nat):Bool:=SR ⟨op,v,ByteArray.empty,width,none,n,0⟩
mutual
def Tr.forms:Tr→Bool
 | .mk op v name width args=>Tr.wW args && wV op v width args.length
def Tr.wW:List Tr→Bool
 | []=>true
 | t::ts=>t.forms && Tr.wW ts
end
mutual
def Tr.depth:Tr→Int
 | .mk op v name width args=>RowKit.wrap64 (Tr.il args+1)
def Tr.il:List Tr→Int
 | []=>0
 | t::ts=>max t.depth (Tr.il ts)
end
def mM (l:List Tr):Bool:=match l with
 | [t]=>decide (t.depth≤32)&&(t.forms && t.safe)
 | _=>false
def eN (l:List Tr)(aA:ByteArray):Sp:=if mM l=true then(l.getD 0 qD).span aA else aY
def fF (l:List Tr)(aA:ByteArray):Option Val:=if mM l=true then(l.getD 0 qD).value aA else none
def lp:Option Val→Val
 | some v=>v
 | none=>ah
def Sp.fit (s:Sp):Prop:=s=br∨(s.a < s.b∧dz≤s.a∧s.b≤bR)
theorem sD:br.fit:=.inl rfl
theorem Bi:aY.fit:=.inr ⟨by decide,by decide,by decide⟩
theorem mN {a b:Int}(ha:dz≤a)(hb:b≤bR):(dG a b).fit:=by
 unfold dG;split
 ·exact sD
 ·exact .inr ⟨by show a < b;omega,ha,hb⟩
theorem Sp.fit.low {s:Sp}(h:s.fit):dz≤s.a:=by
 rcases h with rfl | h
 ·decide
 ·exact h.2.1
theorem Sp.fit.high {s:Sp}(h:s.fit):s.b≤bR:=by
 rcases h with rfl | h
 ·decide
 ·exact h.2.2
theorem Ir {x y:Sp}(hx:x.fit)(hy:y.fit):(bT x y).fit:=by have:=hx.low;have:=hx.high;exact mN (by omega) (by omega)
theorem UQ {x y:Sp}(hx:x.fit)(hy:y.fit):(Jz x y).fit:=by
 unfold Jz;split
 ·exact hy
 ·split
  ·exact hx
  ·have:=hx.low;have:=hx.high;have:=hy.low;have:=hy.high;exact .inr ⟨by show min x.a y.a < max x.b y.b;omega,by show dz≤min x.a y.a;omega,by show max x.b y.b≤bR;omega⟩
theorem QO (op k:Int):(jX op k).fit:=by
 have h1:(fD k).fit:=mN (by decide) (by omega);have h2:(ey k).fit:=mN (by omega) (by decide);have h3:(jW k).fit:=mN (by decide) (by omega);unfold jX;split
 ·exact h1
 split
 ·unfold lg;split
  ·exact sD
  ·exact mN (by omega) (by decide)
 split
 ·exact h2
 split
 ·exact h3
 ·exact Ir h2 h3
theorem sF {l:List Sp}(h:∀s∈l,s.fit)(i:Nat):(l.getD i br).fit:=by
 rw[List.getD_eq_getElem?_getD];cases hi:l[i]? with
 | none=>exact sD
 | some s=>exact h s (List.mem_of_getElem? hi)
theorem MT (aA:ByteArray)(op:Int)(v:Val)(args:List Tr) {sp:List Sp}(h:∀s∈sp,s.fit):(sy aA op v args sp).fit:=by
 unfold sy;split
 ·exact Ir (sF h 0) (sF h 1)
 split
 ·exact UQ (sF h 0) (sF h 1)
 split
 ·exact sD
 split
 ·exact Bi
 split
 ·exact sD
 ·unfold qE;split
  ·exact QO _ _
  ·exact Bi
mutual
theorem Tr.wX (aA:ByteArray):∀t:Tr,(t.span aA).fit
 | .mk op v name width args=>by unfold Tr.span;exact MT aA op v args (Tr.zQ aA args)
theorem Tr.zQ (aA:ByteArray):∀(ts:List Tr),∀s∈Tr.sB aA ts,s.fit
 | [],s,hs=>by simp[Tr.sB] at hs
 | t::ts,s,hs=>by
   unfold Tr.sB at hs;rcases List.mem_cons.1 hs with rfl | hs
   ·exact Tr.wX aA t
   ·exact Tr.zQ aA ts s hs
end
theorem Kb (l:List Tr)(aA:ByteArray):(eN l aA).fit:=by
 unfold eN;split
 ·exact Tr.wX aA _
 ·exact Bi
theorem Sp.fit.QP {s:Sp}(h:s.fit):bT s aY=s:=by
 rcases h with rfl | h
 ·kernel_rfl
 ·obtain⟨a,b⟩:=s;unfold bT dG;have e1:max a aY.a=a:=by have:=h.2.1;show max a dz=a;dsimp only at this;omega
  have e2:min b aY.b=b:=by have:=h.2.2;show min b bR=b;dsimp only at this;omega
  dsimp only;rw[e1,e2,if_neg (by have:=h.1;dsimp only at this;omega)]
open Go.ChangeShapes Go.WideShapes Go.ChangeAt Go.RowKit
def lu (f:FuncId)(w:World)(y:Ex)(b:Bool):Prop:=∀W,Below w.heap.size w W→Calls Tryz.prog f #[.agg #[.int .u8 y.op,.int .u8 y.v.k,.int .i64 y.v.n,.string y.v.s,.string y.name,.int .i64 y.width,.slice y.A y.n y.c]] W fun e w'=>e=.returned (.bool b)∧Below W.heap.size W w'
def Bj (f:FuncId)(w:World)(y:Ex)(b:Int):Prop:=∀W,Below w.heap.size w W→Calls Tryz.prog f #[.agg #[.int .u8 y.op,.int .u8 y.v.k,.int .i64 y.v.n,.string y.v.s,.string y.name,.int .i64 y.width,.slice y.A y.n y.c]] W fun e w'=>e=.returned (.int .i64 b)∧Below W.heap.size W w'
set_option maxHeartbeats 1000000
set_option maxRecDepth 100000
theorem cx (y:Ex)(w:World):Calls Tryz.prog 35 #[.agg #[.int .u8 y.op,.int .u8 y.v.k,.int .i64 y.v.n,.string y.v.s,.string y.name,.int .i64 y.width,.slice y.A y.n y.c]] w fun e w'=>e=.returned (.bool (aO y.op y.v))∧Below w.heap.size w w':=by
 have hb:=aa w (.cells #[.int .u8 y.op,.int .u8 y.v.k,.int .i64 y.v.n,.string y.v.s,.string y.name,.int .i64 y.width,.slice y.A y.n y.c] 34);cases ho:(y.op==1)
 ·go_enter Tryz.func35,Tryz.ntmps35;go_wp2_with fail;go_ret;exact⟨by first | rfl | simp[aO,ho],hb⟩
 ·go_enter Tryz.func35,Tryz.ntmps35;go_wp2_with fail;go_ret;exact⟨by first | rfl | simp[aO,ho],hb⟩
def ql:List Int→Int
 | []=>0
 | a::l=>max a (ql l)
theorem mO:∀(l:List Int) (a:Int),ql (l++ [a])=max (ql l) a
 | [],a=>by simp only[List.nil_append,ql];omega
 | b::l,a=>by simp only[List.cons_append,ql,mO l a];omega
theorem uM:∀ts:List Tr,Tr.il ts=ql (ts.map Tr.depth)
 | []=>by simp[Tr.il,ql]
 | t::ts=>by simp[Tr.il,ql,uM ts]
theorem Dc (nD:Int)(yv:Val)(fI:ByteArray)(dO:Int)(A:Option Addr)(c:Nat)(args:List (Ex×Int))(w:World)(hl:args.length≤1599289640356)(hA:RE w w.heap.size A (args.map (·.1)))(hE:∀a∈args,Bj 27 w a.1 a.2):Calls Tryz.prog 27 #[.agg #[.int .u8 nD,.int .u8 yv.k,.int .i64 yv.n,.string yv.s,.string fI,.int .i64 dO,.slice A args.length c]] w fun e w'=>e=.returned (.int .i64 (wrap64 (ql (args.map (·.2))+1)))∧Below w.heap.size w w':=by
 have HA:=hid hA;have HE:=hid hE;clear hA hE;have HX:=ag.new w 34 #[.int .u8 nD,.int .u8 yv.k,.int .i64 yv.n,.string yv.s,.string fI,.int .i64 dO,.slice A args.length c];have hb0:=aa w (.cells #[.int .u8 nD,.int .u8 yv.k,.int .i64 yv.n,.string yv.s,.string fI,.int .i64 dO,.slice A args.length c] 34);go_enter Tryz.func27,Tryz.ntmps27;go_upto_region 1 with fail
 generalize w.alloc _=W at*;have HB:=hid hb0;clear hb0;have x6:=HX.cell 6;simp only[List.getElem?_toArray,List.getElem?_cons_zero,List.getElem?_cons_succ] at x6;go_wp2_with fail;clear x6;go_loopw [3,9] (fun m iv wr=>∃i:Nat,i≤args.length∧iv=.int .i64 i∧m=.int .i64 (ql ((args.take i).map (·.2)))∧Below W.heap.size W wr) (fun _ iv _=>args.length - (intOf iv).toNat);case atStart=>exact⟨0,Nat.zero_le _,rfl,rfl,Below.refl _ _⟩
 case round=>
  obtain⟨i,hi,rfl,rfl,mD⟩:=hrel;have x6:=(HX.later mD).cell 6;simp only[List.getElem?_toArray,List.getElem?_cons_zero,List.getElem?_cons_succ] at x6;by_cases hlt:i < args.length
  ·obtain⟨b,off,rfl,Fe,hex⟩:=(HA.out.below (ae.then HB.out mD)).at_ (show i <(args.map (·.1)).length by simpa using hlt);have oO:(args.map (·.1))[i]'(by simpa using hlt)=args[i].1:=by simp
   rw[oO] at hex;clear oO;have mC:=HE.out args[i] (List.getElem_mem hlt);have HT:=hid (show args.take (i+1)=args.take i++ [args[i]] by rw[List.take_add_one,List.getElem?_eq_getElem hlt];rfl);generalize args[i]=yb at*;obtain⟨y,d⟩:=yb;dsimp only at*;unfold cw at hex;generalize hm:ql ((args.take i).map (·.2))=m;have HM:=hid hm;clear hm;by_cases hmd:m < d
   ·go_wp2_with fail;have bx:=aa wr (.cells #[.int .u8 y.op,.int .u8 y.v.k,.int .i64 y.v.n,.string y.v.s,.string y.name,.int .i64 y.width,.slice y.A y.n y.c] 34);refine(mC _ (ae.then (ae.then HB.out mD) bx)).mono ?_;rintro e w1 ⟨rfl,b1⟩;have hb2:=ae.then mD (ae.then bx b1)
    clear bx;clear hex mC b1;go_wp2_with fail;go_roundw;case rel=>refine⟨i+1,hlt,by go_num,?_,hb2⟩;rw[HT.out,List.map_append,List.map_singleton,mO,HM.out];congr 1;omega
    case measure=>simp[intOf];omega
   ·go_wp2_with fail;have bx:=aa wr (.cells #[.int .u8 y.op,.int .u8 y.v.k,.int .i64 y.v.n,.string y.v.s,.string y.name,.int .i64 y.width,.slice y.A y.n y.c] 34);refine(mC _ (ae.then (ae.then HB.out mD) bx)).mono ?_;rintro e w1 ⟨rfl,b1⟩;have hb2:=ae.then mD (ae.then bx b1)
    clear bx;clear hex mC b1;go_wp2_with fail;go_roundw;case rel=>refine⟨i+1,hlt,by go_num,?_,hb2⟩;rw[HT.out,List.map_append,List.map_singleton,mO,HM.out];congr 1;omega
    case measure=>simp[intOf];omega
  ·obtain rfl:i=args.length:=by omega
   have yK:args.take args.length=args:=List.take_length;rw[yK];generalize hmx:ql (args.map (·.2))=m;have M5:=hid hmx;clear hmx;go_wp2_with fail;go_ret;exact⟨by rw[M5.out];rfl,ae.then HB.out mD⟩
theorem uN (nD:Int)(yv:Val)(fI:ByteArray)(dO:Int)(A:Option Addr)(c:Nat)(args:List (Ex×Int))(w:World)(hl:args.length≤1599289640356)(hA:RE w w.heap.size A (args.map (·.1)))(hE:∀a∈args,Bj 31 w a.1 a.2):Calls Tryz.prog 31 #[.agg #[.int .u8 nD,.int .u8 yv.k,.int .i64 yv.n,.string yv.s,.string fI,.int .i64 dO,.slice A args.length c]] w fun e w'=>e=.returned (.int .i64 (wrap64 (ql (args.map (·.2))+1)))∧Below w.heap.size w w':=by
 have HA:=hid hA;have HE:=hid hE;clear hA hE;have HX:=ag.new w 34 #[.int .u8 nD,.int .u8 yv.k,.int .i64 yv.n,.string yv.s,.string fI,.int .i64 dO,.slice A args.length c];have hb0:=aa w (.cells #[.int .u8 nD,.int .u8 yv.k,.int .i64 yv.n,.string yv.s,.string fI,.int .i64 dO,.slice A args.length c] 34);go_enter Tryz.func31,Tryz.ntmps31;go_upto_region 1 with fail
 generalize w.alloc _=W at*;have HB:=hid hb0;clear hb0;have x6:=HX.cell 6;simp only[List.getElem?_toArray,List.getElem?_cons_zero,List.getElem?_cons_succ] at x6;go_wp2_with fail;clear x6;go_loopw [3,4] (fun m iv wr=>∃i:Nat,i≤args.length∧iv=.int .i64 i∧m=.int .i64 (ql ((args.take i).map (·.2)))∧Below W.heap.size W wr) (fun _ iv _=>args.length - (intOf iv).toNat);case atStart=>exact⟨0,Nat.zero_le _,rfl,rfl,Below.refl _ _⟩
 case round=>
  obtain⟨i,hi,rfl,rfl,mD⟩:=hrel;have x6:=(HX.later mD).cell 6;simp only[List.getElem?_toArray,List.getElem?_cons_zero,List.getElem?_cons_succ] at x6;by_cases hlt:i < args.length
  ·obtain⟨b,off,rfl,Fe,hex⟩:=(HA.out.below (ae.then HB.out mD)).at_ (show i <(args.map (·.1)).length by simpa using hlt);have oO:(args.map (·.1))[i]'(by simpa using hlt)=args[i].1:=by simp
   rw[oO] at hex;clear oO;have mC:=HE.out args[i] (List.getElem_mem hlt);have HT:=hid (show args.take (i+1)=args.take i++ [args[i]] by rw[List.take_add_one,List.getElem?_eq_getElem hlt];rfl);generalize args[i]=yb at*;obtain⟨y,d⟩:=yb;dsimp only at*;unfold cw at hex;generalize hm:ql ((args.take i).map (·.2))=m;have HM:=hid hm;clear hm;by_cases hmd:m < d
   ·go_wp2_with fail;refine(mC wr (ae.then HB.out mD)).mono ?_;rintro e w1 ⟨rfl,b1⟩;have hb2:=ae.then mD b1
    clear hex mC b1;go_wp2_with fail;go_roundw;case rel=>refine⟨i+1,hlt,by go_num,?_,hb2⟩;rw[HT.out,List.map_append,List.map_singleton,mO,HM.out];congr 1;omega
    case measure=>simp[intOf];omega
   ·go_wp2_with fail;refine(mC wr (ae.then HB.out mD)).mono ?_;rintro e w1 ⟨rfl,b1⟩;have hb2:=ae.then mD b1
    clear hex mC b1;go_wp2_with fail;go_roundw;case rel=>refine⟨i+1,hlt,by go_num,?_,hb2⟩;rw[HT.out,List.map_append,List.map_singleton,mO,HM.out];congr 1;omega
    case measure=>simp[intOf];omega
  ·obtain rfl:i=args.length:=by omega
   have yK:args.take args.length=args:=List.take_length;rw[yK];generalize hmx:ql (args.map (·.2))=m;have M5:=hid hmx;clear hmx;go_wp2_with fail;go_ret;exact⟨by rw[M5.out];rfl,ae.then HB.out mD⟩
structure fQ (w:World):Prop where
 lt:0 < w.heap.size
 c0:w.cell? ⟨0,0,none⟩=some (.int .i64 (-4611687117939015680))
 c1:w.cell? ⟨0,1,none⟩=some (.int .i64 4611687117939015679)
theorem fQ.later {w w':World}(h:fQ w)(hb:Below w.heap.size w w'):fQ w':=
 ⟨Nat.lt_of_lt_of_le h.lt hb.size,(hb.cell (p:=⟨0,0,none⟩) h.lt).trans h.c0,(hb.cell (p:=⟨0,1,none⟩) h.lt).trans h.c1⟩
theorem ar {w:World} {g:Nat} {t:TypeId} {a b:Int}(h:ag w g t #[.int .i64 a,.int .i64 b]):w.cell? ⟨g,0,none⟩=some (.int .i64 a)∧w.cell? ⟨g,1,none⟩=some (.int .i64 b):=⟨h.cell 0,h.cell 1⟩
def ej (s:Sp)(w:World)(e:Ending)(w':World):Prop:=e=.returned (cC s)∧Below w.heap.size w w'
theorem kU (s:Sp)(w:World):Calls Tryz.prog 23 #[cC s] w fun e w'=>e=.returned (.bool (decide (s.b≤s.a)))∧Below w.heap.size w w':=by unfold cC;have hb:=aa w (.cells #[.int .i64 s.a,.int .i64 s.b] 30);go_enter Tryz.func23,Tryz.ntmps23;go_wp2_with fail;go_ret;exact⟨rfl,hb⟩
theorem Iu (s:Sp)(t:Int)(w:World):Calls Tryz.prog 14 #[cC s,.int .i64 t] w fun e w'=>e=.returned (.bool (decide (s.a≤t)&& decide (t < s.b)))∧Below w.heap.size w w':=by
 unfold cC;have hb:=aa w (.cells #[.int .i64 s.a,.int .i64 s.b] 30);by_cases h:s.a≤t
 ·have h1:=decide_eq_true h;go_enter Tryz.func14,Tryz.ntmps14;go_wp2_with fail;go_ret;exact⟨by simp[h],hb⟩
 ·have h1:=decide_eq_false h;go_enter Tryz.func14,Tryz.ntmps14;go_wp2_with fail;go_ret;exact⟨by simp[h],hb⟩
theorem jI (x y:Sp)(w:World):Calls Tryz.prog 12 #[cC x,cC y] w (ej (bT x y) w):=by
 obtain⟨a,b⟩:=x;obtain⟨c,d⟩:=y;unfold cC ej;dsimp only;have hX:=(((ag.new w 30 #[.int .i64 a,.int .i64 b]).later (aa _ (.cells #[.int .i64 c,.int .i64 d] 30))).later (aa _ (.cells #[.int .i64 0,.int .i64 0] 30)));have hY:=((ag.new (w.alloc (.cells #[.int .i64 a,.int .i64 b] 30)) 30 #[.int .i64 c,.int .i64 d]).later (aa _ (.cells #[.int .i64 0,.int .i64 0] 30)));have hZ:=ag.new ((w.alloc (.cells #[.int .i64 a,.int .i64 b] 30)).alloc (.cells #[.int .i64 c,.int .i64 d] 30)) 30 #[.int .i64 0,.int .i64 0];have hB:=ae.then (ae.then (aa w (.cells #[.int .i64 a,.int .i64 b] 30)) (aa _ (.cells #[.int .i64 c,.int .i64 d] 30))) (aa _ (.cells #[.int .i64 0,.int .i64 0] 30))
 rw[World.size_alloc] at hY;rw[World.size_alloc,World.size_alloc] at hZ;go_enter Tryz.func12,Tryz.ntmps12;go_upto_region 1 with fail
 generalize ((w.alloc (.cells #[.int .i64 a,.int .i64 b] 30)).alloc (.cells #[.int .i64 c,.int .i64 d] 30)).alloc (.cells #[.int .i64 0,.int .i64 0] 30)=W at*;have kJ:w.heap.size≤w.heap.size+1+1:=by omega
 have gx:=ar hX;have gy:=ar hY;clear hX hY;generalize w.heap.size+1+1=gz at*;by_cases h1:a < c <;> by_cases h2:b≤d
 ·have HM:=hid (show max a c=c by omega);have HN:=hid (show min b d=b by omega);go_wp2_with fail;refine(kU ⟨c,b⟩ _).mono ?_;rintro e w1 ⟨rfl,b1⟩;replace hB:=ae.then (ae.then hB (aa W (.cells #[.int .i64 c,.int .i64 b] 30))) b1
  replace hZ:=(hZ.later (aa W (.cells #[.int .i64 c,.int .i64 b] 30))).later b1;have hR:=(ag.new W 30 #[.int .i64 c,.int .i64 b]).later b1;have gr:=ar hR;by_cases h3:b≤c
  ·have h4:=decide_eq_true h3;have HE:=hid (show bT ⟨a,b⟩ ⟨c,d⟩=br by unfold bT dG;dsimp only;rw[HM.out,HN.out,if_pos h3]);clear b1 hR h1 h2;have bK:=ar hZ;have dn:=ag.frozen hZ;clear hZ;go_wp2_with fail;exact bodyPost_ret (v:=cC br) (by simp[results,Tryz.results12,go_sem,bK,cC,br]) rfl ⟨by rw[HE.out],(hB.setCell (kJ) _).setCell (kJ) _⟩
  ·have h4:=decide_eq_false h3;have HE:=hid (show bT ⟨a,b⟩ ⟨c,d⟩=⟨c,b⟩ by unfold bT dG;dsimp only;rw[HM.out,HN.out,if_neg h3]);clear b1 hR h1 h2;have bK:=ar hZ;have dn:=ag.frozen hZ;clear hZ;go_wp2_with fail;exact bodyPost_ret (v:=cC ⟨c,b⟩) (by simp[results,Tryz.results12,go_sem,bK,cC,br]) rfl ⟨by rw[HE.out],(hB.setCell (kJ) _).setCell (kJ) _⟩
 ·have HM:=hid (show max a c=c by omega);have HN:=hid (show min b d=d by omega);go_wp2_with fail;refine(kU ⟨c,d⟩ _).mono ?_;rintro e w1 ⟨rfl,b1⟩;replace hB:=ae.then (ae.then hB (aa W (.cells #[.int .i64 c,.int .i64 d] 30))) b1
  replace hZ:=(hZ.later (aa W (.cells #[.int .i64 c,.int .i64 d] 30))).later b1;have hR:=(ag.new W 30 #[.int .i64 c,.int .i64 d]).later b1;have gr:=ar hR;by_cases h3:d≤c
  ·have h4:=decide_eq_true h3;have HE:=hid (show bT ⟨a,b⟩ ⟨c,d⟩=br by unfold bT dG;dsimp only;rw[HM.out,HN.out,if_pos h3]);clear b1 hR h1 h2;have bK:=ar hZ;have dn:=ag.frozen hZ;clear hZ;go_wp2_with fail;exact bodyPost_ret (v:=cC br) (by simp[results,Tryz.results12,go_sem,bK,cC,br]) rfl ⟨by rw[HE.out],(hB.setCell (kJ) _).setCell (kJ) _⟩
  ·have h4:=decide_eq_false h3;have HE:=hid (show bT ⟨a,b⟩ ⟨c,d⟩=⟨c,d⟩ by unfold bT dG;dsimp only;rw[HM.out,HN.out,if_neg h3]);clear b1 hR h1 h2;have bK:=ar hZ;have dn:=ag.frozen hZ;clear hZ;go_wp2_with fail;exact bodyPost_ret (v:=cC ⟨c,d⟩) (by simp[results,Tryz.results12,go_sem,bK,cC,br]) rfl ⟨by rw[HE.out],(hB.setCell (kJ) _).setCell (kJ) _⟩
 ·have HM:=hid (show max a c=a by omega);have HN:=hid (show min b d=b by omega);go_wp2_with fail;refine(kU ⟨a,b⟩ _).mono ?_;rintro e w1 ⟨rfl,b1⟩;replace hB:=ae.then (ae.then hB (aa W (.cells #[.int .i64 a,.int .i64 b] 30))) b1
  replace hZ:=(hZ.later (aa W (.cells #[.int .i64 a,.int .i64 b] 30))).later b1;have hR:=(ag.new W 30 #[.int .i64 a,.int .i64 b]).later b1;have gr:=ar hR;by_cases h3:b≤a
  ·have h4:=decide_eq_true h3;have HE:=hid (show bT ⟨a,b⟩ ⟨c,d⟩=br by unfold bT dG;dsimp only;rw[HM.out,HN.out,if_pos h3]);clear b1 hR h1 h2;have bK:=ar hZ;have dn:=ag.frozen hZ;clear hZ;go_wp2_with fail;exact bodyPost_ret (v:=cC br) (by simp[results,Tryz.results12,go_sem,bK,cC,br]) rfl ⟨by rw[HE.out],(hB.setCell (kJ) _).setCell (kJ) _⟩
  ·have h4:=decide_eq_false h3;have HE:=hid (show bT ⟨a,b⟩ ⟨c,d⟩=⟨a,b⟩ by unfold bT dG;dsimp only;rw[HM.out,HN.out,if_neg h3]);clear b1 hR h1 h2;have bK:=ar hZ;have dn:=ag.frozen hZ;clear hZ;go_wp2_with fail;exact bodyPost_ret (v:=cC ⟨a,b⟩) (by simp[results,Tryz.results12,go_sem,bK,cC,br]) rfl ⟨by rw[HE.out],(hB.setCell (kJ) _).setCell (kJ) _⟩
 ·have HM:=hid (show max a c=a by omega);have HN:=hid (show min b d=d by omega);go_wp2_with fail;refine(kU ⟨a,d⟩ _).mono ?_;rintro e w1 ⟨rfl,b1⟩;replace hB:=ae.then (ae.then hB (aa W (.cells #[.int .i64 a,.int .i64 d] 30))) b1
  replace hZ:=(hZ.later (aa W (.cells #[.int .i64 a,.int .i64 d] 30))).later b1;have hR:=(ag.new W 30 #[.int .i64 a,.int .i64 d]).later b1;have gr:=ar hR;by_cases h3:d≤a
  ·have h4:=decide_eq_true h3;have HE:=hid (show bT ⟨a,b⟩ ⟨c,d⟩=br by unfold bT dG;dsimp only;rw[HM.out,HN.out,if_pos h3]);clear b1 hR h1 h2;have bK:=ar hZ;have dn:=ag.frozen hZ;clear hZ;go_wp2_with fail;exact bodyPost_ret (v:=cC br) (by simp[results,Tryz.results12,go_sem,bK,cC,br]) rfl ⟨by rw[HE.out],(hB.setCell (kJ) _).setCell (kJ) _⟩
  ·have h4:=decide_eq_false h3;have HE:=hid (show bT ⟨a,b⟩ ⟨c,d⟩=⟨a,d⟩ by unfold bT dG;dsimp only;rw[HM.out,HN.out,if_neg h3]);clear b1 hR h1 h2;have bK:=ar hZ;have dn:=ag.frozen hZ;clear hZ;go_wp2_with fail;exact bodyPost_ret (v:=cC ⟨a,d⟩) (by simp[results,Tryz.results12,go_sem,bK,cC,br]) rfl ⟨by rw[HE.out],(hB.setCell (kJ) _).setCell (kJ) _⟩
theorem Dd {k m:Int}(h:min k bR=m):bT ⟨-4611687117939015680,m⟩ ⟨-4611687117939015680,4611687117939015679⟩=fD k:=by have hl:dz= -4611687117939015680:=rfl;have hh:bR=4611687117939015679:=rfl;unfold bT fD;dsimp only;congr 1 <;> omega
theorem MU {k:Int}(h:¬bR - 1≤k):bT ⟨k+1,4611687117939015679⟩ ⟨-4611687117939015680,4611687117939015679⟩=lg k:=by have hl:dz= -4611687117939015680:=rfl;have hh:bR=4611687117939015679:=rfl;unfold bT lg;rw[if_neg h];dsimp only;congr 1 <;> omega
theorem De {k m:Int}(h:max k dz=m):bT ⟨m,4611687117939015679⟩ ⟨-4611687117939015680,4611687117939015679⟩=ey k:=by have hl:dz= -4611687117939015680:=rfl;have hh:bR=4611687117939015679:=rfl;unfold bT ey;dsimp only;congr 1 <;> omega
theorem tQ (k:Int)(hk: -9223372036854775808≤k∧k≤9223372036854775807)(w:World)(hE:fQ w):Calls Tryz.prog 63 #[.int .i64 k] w (ej (fD k) w):=by
 obtain⟨z,hz⟩:∃z,z=fD k:=⟨_,rfl⟩;have vu:=hid hz;unfold ej;rw[← hz];clear hz;have hl:dz= -4611687117939015680:=rfl;have hh:bR=4611687117939015679:=rfl;have HL:=hid hl;have HH:=hid hh;clear hl hh;have hZ:=ag.new w 30 #[.int .i64 0,.int .i64 0];have hB:=aa w (.cells #[.int .i64 0,.int .i64 0] 30);have E:=hE.later hB;go_enter Tryz.func63,Tryz.ntmps63;go_upto_region 1 with fail
 generalize w.alloc (.cells #[.int .i64 0,.int .i64 0] 30)=W at*;have kJ:w.heap.size≤w.heap.size:=Nat.le_refl _;have e0:=E.c0;have e1:=E.c1;by_cases h1:k≤4611687117939015679
 ·go_wp2_with fail;refine(jI ⟨-4611687117939015680,k⟩ ⟨-4611687117939015680,4611687117939015679⟩ _).mono ?_;rintro e w1 ⟨rfl,b1⟩;rw[show bT ⟨-4611687117939015680,k⟩ ⟨-4611687117939015680,4611687117939015679⟩=z by rw[vu.out];exact Dd (by have:=HH.out;omega)];clear vu HL HH;replace hB:=ae.then hB b1
  replace hZ:=hZ.later b1;clear b1;unfold cC;have bK:=ar hZ;have dn:=ag.frozen hZ;clear hZ;go_wp2_with fail;exact bodyPost_ret (v:=cC z) (by simp[results,Tryz.results63,go_sem,bK,cC,br]) rfl ⟨rfl,(hB.setCell (kJ) _).setCell (kJ) _⟩
 ·go_wp2_with fail;refine(jI ⟨-4611687117939015680,4611687117939015679⟩ ⟨-4611687117939015680,4611687117939015679⟩ _).mono ?_;rintro e w1 ⟨rfl,b1⟩;rw[show bT ⟨-4611687117939015680,4611687117939015679⟩ ⟨-4611687117939015680,4611687117939015679⟩=z by rw[vu.out];exact Dd (by have:=HH.out;omega)];clear vu HL HH;replace hB:=ae.then hB b1
  replace hZ:=hZ.later b1;clear b1;unfold cC;have bK:=ar hZ;have dn:=ag.frozen hZ;clear hZ;go_wp2_with fail;exact bodyPost_ret (v:=cC z) (by simp[results,Tryz.results63,go_sem,bK,cC,br]) rfl ⟨rfl,(hB.setCell (kJ) _).setCell (kJ) _⟩
theorem zR (k:Int)(hk: -9223372036854775808≤k∧k≤9223372036854775807)(w:World)(hE:fQ w):Calls Tryz.prog 61 #[.int .i64 k] w (ej (ey k) w):=by
 obtain⟨z,hz⟩:∃z,z=ey k:=⟨_,rfl⟩;have vu:=hid hz;unfold ej;rw[← hz];clear hz;have hl:dz= -4611687117939015680:=rfl;have hh:bR=4611687117939015679:=rfl;have HL:=hid hl;have HH:=hid hh;clear hl hh;have hZ:=ag.new w 30 #[.int .i64 0,.int .i64 0];have hB:=aa w (.cells #[.int .i64 0,.int .i64 0] 30);have E:=hE.later hB;go_enter Tryz.func61,Tryz.ntmps61;go_upto_region 1 with fail
 generalize w.alloc (.cells #[.int .i64 0,.int .i64 0] 30)=W at*;have kJ:w.heap.size≤w.heap.size:=Nat.le_refl _;have e0:=E.c0;have e1:=E.c1;by_cases h1:k < -4611687117939015680
 ·go_wp2_with fail;refine(jI ⟨-4611687117939015680,4611687117939015679⟩ ⟨-4611687117939015680,4611687117939015679⟩ _).mono ?_;rintro e w1 ⟨rfl,b1⟩;rw[show bT ⟨-4611687117939015680,4611687117939015679⟩ ⟨-4611687117939015680,4611687117939015679⟩=z by rw[vu.out];exact De (by have:=HL.out;omega)];clear vu HL HH;replace hB:=ae.then hB b1
  replace hZ:=hZ.later b1;clear b1;unfold cC;have bK:=ar hZ;have dn:=ag.frozen hZ;clear hZ;go_wp2_with fail;exact bodyPost_ret (v:=cC z) (by simp[results,Tryz.results61,go_sem,bK,cC,br]) rfl ⟨rfl,(hB.setCell (kJ) _).setCell (kJ) _⟩
 ·go_wp2_with fail;refine(jI ⟨k,4611687117939015679⟩ ⟨-4611687117939015680,4611687117939015679⟩ _).mono ?_;rintro e w1 ⟨rfl,b1⟩;rw[show bT ⟨k,4611687117939015679⟩ ⟨-4611687117939015680,4611687117939015679⟩=z by rw[vu.out];exact De (by have:=HL.out;omega)];clear vu HL HH;replace hB:=ae.then hB b1
  replace hZ:=hZ.later b1;clear b1;unfold cC;have bK:=ar hZ;have dn:=ag.frozen hZ;clear hZ;go_wp2_with fail;exact bodyPost_ret (v:=cC z) (by simp[results,Tryz.results61,go_sem,bK,cC,br]) rfl ⟨rfl,(hB.setCell (kJ) _).setCell (kJ) _⟩
theorem Kc (k:Int)(hk: -9223372036854775808≤k∧k≤9223372036854775807)(w:World)(hE:fQ w):Calls Tryz.prog 64 #[.int .i64 k] w (ej (lg k) w):=by
 obtain⟨z,hz⟩:∃z,z=lg k:=⟨_,rfl⟩;have vu:=hid hz;unfold ej;rw[← hz];clear hz;have hl:dz= -4611687117939015680:=rfl;have hh:bR=4611687117939015679:=rfl;have HL:=hid hl;have HH:=hid hh;clear hl hh;have hZ:=ag.new w 30 #[.int .i64 0,.int .i64 0];have hB:=aa w (.cells #[.int .i64 0,.int .i64 0] 30);have E:=hE.later hB;go_enter Tryz.func64,Tryz.ntmps64;go_upto_region 1 with fail
 generalize w.alloc (.cells #[.int .i64 0,.int .i64 0] 30)=W at*;have kJ:w.heap.size≤w.heap.size:=Nat.le_refl _;have e0:=E.c0;have e1:=E.c1;by_cases h1:4611687117939015678≤k
 ·have h2:=decide_eq_true h1;have HE:=hid (show z=br by rw[vu.out];unfold lg;rw[if_pos (by have:=HH.out;omega)]);clear vu HL HH;have bK:=ar hZ;have dn:=ag.frozen hZ;clear hZ;go_wp2_with fail;exact bodyPost_ret (v:=cC br) (by simp[results,Tryz.results64,go_sem,bK,cC,br]) rfl ⟨by rw[HE.out],(hB.setCell (kJ) _).setCell (kJ) _⟩
 ·have h2:=decide_eq_false h1;go_wp2_with fail;refine(jI ⟨k+1,4611687117939015679⟩ ⟨-4611687117939015680,4611687117939015679⟩ _).mono ?_;rintro e w1 ⟨rfl,b1⟩;rw[show bT ⟨k+1,4611687117939015679⟩ ⟨-4611687117939015680,4611687117939015679⟩=z by rw[vu.out];exact MU (by have:=HH.out;omega)];clear vu HL HH;replace hB:=ae.then hB b1
  replace hZ:=hZ.later b1;clear b1;unfold cC;have bK:=ar hZ;have dn:=ag.frozen hZ;clear hZ;go_wp2_with fail;exact bodyPost_ret (v:=cC z) (by simp[results,Tryz.results64,go_sem,bK,cC,br]) rfl ⟨rfl,(hB.setCell (kJ) _).setCell (kJ) _⟩
theorem Df (k:Int)(hk: -9223372036854775808≤k∧k≤9223372036854775807)(w:World)(hE:fQ w):Calls Tryz.prog 62 #[.int .i64 k] w (ej (jW k) w):=by
 obtain⟨z,hz⟩:∃z,z=jW k:=⟨_,rfl⟩;have vu:=hid hz;unfold ej;rw[← hz];clear hz;have hl:dz= -4611687117939015680:=rfl;have hh:bR=4611687117939015679:=rfl;have HL:=hid hl;have HH:=hid hh;clear hl hh;have hZ:=ag.new w 30 #[.int .i64 0,.int .i64 0];have hB:=aa w (.cells #[.int .i64 0,.int .i64 0] 30);have E:=hE.later hB;go_enter Tryz.func62,Tryz.ntmps62;go_upto_region 1 with fail
 generalize w.alloc (.cells #[.int .i64 0,.int .i64 0] 30)=W at*;have kJ:w.heap.size≤w.heap.size:=Nat.le_refl _;have e0:=E.c0;have e1:=E.c1;by_cases h1:k≤4611687117939015678
 ·go_wp2_with fail;refine(tQ (k+1) (by omega) _ E).mono ?_;rintro e w1 ⟨rfl,b1⟩;rw[show fD (k+1)=z by rw[vu.out];unfold jW;rw[show min k (bR - 1)=k by have:=HH.out;omega]];clear vu HL HH;replace hB:=ae.then hB b1
  replace hZ:=hZ.later b1;clear b1;unfold cC;have bK:=ar hZ;have dn:=ag.frozen hZ;clear hZ;go_wp2_with fail;exact bodyPost_ret (v:=cC z) (by simp[results,Tryz.results62,go_sem,bK,cC,br]) rfl ⟨rfl,(hB.setCell (kJ) _).setCell (kJ) _⟩
 ·go_wp2_with fail;refine(tQ (4611687117939015679) (by omega) _ E).mono ?_;rintro e w1 ⟨rfl,b1⟩;rw[show fD (4611687117939015679)=z by rw[vu.out];unfold jW;rw[show min k (bR - 1)=4611687117939015678 by have:=HH.out;omega];rfl];clear vu HL HH;replace hB:=ae.then hB b1
  replace hZ:=hZ.later b1;clear b1;unfold cC;have bK:=ar hZ;have dn:=ag.frozen hZ;clear hZ;go_wp2_with fail;exact bodyPost_ret (v:=cC z) (by simp[results,Tryz.results62,go_sem,bK,cC,br]) rfl ⟨rfl,(hB.setCell (kJ) _).setCell (kJ) _⟩
def ly:List (Int×Value)→Nat→List MapEntry
 | [],_=> []
 | x::l,i=>⟨.int .u8 x.1,x.2,i⟩::ly l (i+1)
theorem wY (x:Int×Value):∀(l:List (Int×Value)) (i:Nat),ly (l++ [x]) i=ly l i++ [⟨.int .u8 x.1,x.2,i+l.length⟩]
 | [],i=>rfl
 | y::l,i=>by simp only[List.cons_append,ly,wY x l (i+1),List.length_cons];rw[show i+1+l.length=i+(l.length+1) by omega]
theorem Bk (k:Int):∀(l:List (Int×Value)) (i j:Nat),match l.lookup k with
  | some v=>∃n,Instr.findNow (.int .u8) (.int .u8 k) (ly l i) j=some (some (n,v))
  | none=>Instr.findNow (.int .u8) (.int .u8 k) (ly l i) j=some none
 | [],i,j=>by simp[ly,Instr.findNow]
 |(x,v)::l,i,j=>by
  have ih:=Bk k l (i+1) (j+1);have e:Instr.sameNow (.int .u8) (.int .u8 k) (.int .u8 x)=some (k==x):=rfl;rw[List.lookup_cons];cases hx:(k==x)
  ·have e2:Instr.findNow (.int .u8) (.int .u8 k) (ly ((x,v)::l) i) j=Instr.findNow (.int .u8) (.int .u8 k) (ly l (i+1)) (j+1):=by simp only[ly,Instr.findNow,e,hx]
   simp only[e2];exact ih
  ·simp only;exact⟨j,by simp only[ly,Instr.findNow,e,hx]⟩
def ra (w:World)(g:Nat)(l:List (Int×Value)):Prop:=w.heap[g]?=some (.map (ly l 0).toArray l.length)
theorem FM {w:World} {g:Nat} {es es':Array MapEntry} {c c':Nat}(hg:w.heap[g]?=some (.map es c)):(aK w g es' c').heap[g]?=some (.map es' c'):=by
 have:g < w.heap.size:=by
  rcases Nat.lt_or_ge g w.heap.size with h | h
  ·exact h
  ·rw[Array.getElem?_eq_none h] at hg;cases hg
 simp[aK,this]
theorem Dg {w:World} {g q:Nat}(es:Array MapEntry)(c:Nat)(h:g≠q):(aK w g es c).heap[q]?=w.heap[q]?:=by simp only[aK,Array.getElem?_setIfInBounds];rw[if_neg h]
section
variable {P:Program} {T K V:TypeId} (hT:P.underlying T=some (.map K V)) (hK:P.underlying K=some (.int .u8))
include hT hK
theorem Kd {w:World} {g:Nat} {l:List (Int×Value)}(hg:ra w g l) {x:Int} {v:Value}(hx:l.lookup x=none):
  (Instr.mapUpdate T (.map (some g)) (.int .u8 x) v).run P w=.ok () (aK w g (ly (l++ [(x,v)]) 0).toArray (l.length+1)):=by
 have hf:=Bk x l 0 0;rw[hx] at hf;have hk:∀e (k:Int) (w:World),(Instr.checkKey e 10000 K (.int .u8 k)).run P w=.ok () w:=fun e k w=>MapKept.run_checkKey hK (by simp[MapKept.IsKey]) e 9999
 unfold Instr.mapUpdate;simp only[Sem.run_bind,run_underlying hT,Result.andThen_ok,MapKept.run_getObj_map hg,hk,Instr.findKey,run_underlying hK,hf,Sem.run_pure,MapKept.run_setObj_map _ hg];rw[wY];simp[aK]
theorem FN {w:World} {g:Nat} {l:List (Int×Value)}(hg:ra w g l)(k:Int) {z:Value}(hz:∀w:World,(zeroValue V).run P w=.ok z w):
  (Instr.lookup T (.map (some g)) (.int .u8 k) false).run P w=.ok ((l.lookup k).getD z) w:=by
 have hf:=Bk k l 0 0;have hk:∀e (k:Int) (w:World),(Instr.checkKey e 10000 K (.int .u8 k)).run P w=.ok () w:=fun e k w=>MapKept.run_checkKey hK (by simp[MapKept.IsKey]) e 9999
 unfold Instr.lookup;cases hc:l.lookup k with
 | none=>rw[hc] at hf;simp only[Sem.run_bind,run_underlying hT,Result.andThen_ok,MapKept.run_getObj_map hg,hk,Instr.findKey,run_underlying hK,hf,Sem.run_pure,hz];rfl
 | some v=>rw[hc] at hf;obtain⟨n,hf⟩:=hf;simp only[Sem.run_bind,run_underlying hT,Result.andThen_ok,MapKept.run_getObj_map hg,hk,Instr.findKey,run_underlying hK,hf,Sem.run_pure];rfl
theorem Dh {w:World} {g:Nat} {l:List (Int×Value)}(hg:ra w g l)(k:Int) {z:Value}(hz:∀w:World,(zeroValue V).run P w=.ok z w):
  (Instr.lookup T (.map (some g)) (.int .u8 k) true).run P w=.ok (.tuple #[(l.lookup k).getD z,.bool (l.lookup k).isSome]) w:=by
 have hf:=Bk k l 0 0;have hk:∀e (k:Int) (w:World),(Instr.checkKey e 10000 K (.int .u8 k)).run P w=.ok () w:=fun e k w=>MapKept.run_checkKey hK (by simp[MapKept.IsKey]) e 9999
 unfold Instr.lookup;cases hc:l.lookup k with
 | none=>rw[hc] at hf;simp only[Sem.run_bind,run_underlying hT,Result.andThen_ok,MapKept.run_getObj_map hg,hk,Instr.findKey,run_underlying hK,hf,Sem.run_pure,hz];rfl
 | some v=>rw[hc] at hf;obtain⟨n,hf⟩:=hf;simp only[Sem.run_bind,run_underlying hT,Result.andThen_ok,MapKept.run_getObj_map hg,hk,Instr.findKey,run_underlying hK,hf,Sem.run_pure];rfl
omit hT hK in
theorem yZ (w:World)(g:Nat)(es:Array MapEntry)(c:Nat):w.grownBy (aK w g es c) (some g):=
 ⟨rfl,rfl,rfl,by simp[aK],fun i hi hne=>Dg es c (fun e=>hne (by rw[e]))⟩
omit hT hK in
theorem ra.new (w:World):ra (w.alloc (.map #[] 0)) w.heap.size []:=by show(w.heap.push (.map #[] 0))[w.heap.size]?=_;rw[Array.getElem?_push_size];rfl
variable {ops:Array Oper} {rest:List Oper} {o:Oper} {a:Act} {w:World} {Q:Exit→Act→World→Prop}
theorem iZ (hgd:o.guard=none)(m x y:Operand)(ho:o.op=.insert T m x y)(g:Nat)(hm:a.eval m=.map (some g))(k:Int)(hx:a.eval x=.int .u8 k)(v:Value)(hv:a.eval y=v) {l:List (Int×Value)}(hM:ra w g l)(hl:l.lookup k=none)
  (h:∀w',ra w' g (l++ [(k,v)])→w.grownBy w' (some g)→wpList P ops Q rest (a.put o.dst undef) w'):wpList P ops Q (o::rest) a w:=
 wpList_plain hgd fun K UR=>by
  unfold Oper.wp execOp;simp only[ho,hm,hx,hv,Sem.run_bind,Kd hT hK hM hl,Result.andThen_ok];have hM2:ra (aK w g (ly (l++ [(k,v)]) 0).toArray (l.length+1)) g (l++ [(k,v)]):=by have:=FM (es':=(ly (l++ [(k,v)]) 0).toArray) (c':=l.length+1) hM;unfold ra;rw[List.length_append,List.length_singleton];exact this
  exact UR _ _ (h _ hM2 (yZ _ _ _ _))
omit hT hK in
theorem qF (hgd:o.guard=none)(T:TypeId)(ho:o.op=.makeMap T none)(h:wpList P ops Q rest (a.put o.dst (.map (some w.heap.size))) (w.alloc (.map #[] 0))):wpList P ops Q (o::rest) a w:=
 wpList_plain hgd fun K UR=>by unfold Oper.wp execOp;simp only[ho,Option.map_none,Sem.run_bind,run_makeMap,Result.andThen_ok];exact UR _ _ h
theorem dU (hgd:o.guard=none)(m x:Operand)(ho:o.op=.lookup T m x false)(g:Nat)(hm:a.eval m=.map (some g))(k:Int)(hx:a.eval x=.int .u8 k) {l:List (Int×Value)}(hM:ra w g l) {z:Value}(hz:∀w:World,(zeroValue V).run P w=.ok z w)
  (h:wpList P ops Q rest (a.put o.dst ((l.lookup k).getD z)) w):wpList P ops Q (o::rest) a w:=
 wpList_plain hgd fun K UR=>by unfold Oper.wp execOp;simp only[ho,hm,hx,Sem.run_bind,FN hT hK hM k hz,Result.andThen_ok];exact UR _ _ h
theorem gw (hgd:o.guard=none)(m x:Operand)(ho:o.op=.lookup T m x true)(g:Nat)(hm:a.eval m=.map (some g))(k:Int)(hx:a.eval x=.int .u8 k) {l:List (Int×Value)}(hM:ra w g l) {z:Value}(hz:∀w:World,(zeroValue V).run P w=.ok z w)
  (h:wpList P ops Q rest (a.put o.dst (.tuple #[(l.lookup k).getD z,.bool (l.lookup k).isSome])) w):wpList P ops Q (o::rest) a w:=
 wpList_plain hgd fun K UR=>by unfold Oper.wp execOp;simp only[ho,hm,hx,Sem.run_bind,Dh hT hK hM k hz,Result.andThen_ok];exact UR _ _ h
end
end Go.Proofs.YtfmbcoeallmnnaaGreatDoor
