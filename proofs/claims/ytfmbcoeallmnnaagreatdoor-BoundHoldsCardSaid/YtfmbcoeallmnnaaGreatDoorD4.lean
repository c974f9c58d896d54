/- Parts of the proof. -/
import Derived.Test.YtfmbcoeallmnnaaGreatDoorD3
namespace Go.Proofs.YtfmbcoeallmnnaaGreatDoor
open Go.Lib (hid)
open Go.ChangeShapes Go.WideShapes Go.ChangeAt Go.RowKit
set_option linter.unusedVariables false
set_option linter.unusedSimpArgs false
theorem Qr (a b:Int)(w:World):Calls Tryz.prog 82 #[.int .i64 a,.int .i64 b] w fun e w'=>e=.returned (.tuple #[.agg #[.int .u8 (vq a b).1.k,.int .i64 (vq a b).1.n,.string (vq a b).1.s],.int .i64 (vq a b).2])∧Below w.heap.size w w':=Ql a b w
set_option maxHeartbeats 2000000
set_option maxRecDepth 100000
theorem Ur (x:Ex)(A:Option Addr)(c q:Nat)(a b':Val)(w:World)(h:RV w w.heap.size A [a,b'])(hq:ag w q 121 #[.func (.func 82) #[] #[]]):Calls Tryz.prog 115 #[.agg #[.int .u8 x.op,.int .u8 x.v.k,.int .i64 x.v.n,.string x.v.s,.string x.name,.int .i64 x.width,.slice x.A x.n x.c],.slice A 2 c,.pointer (some ⟨q,0,none⟩)] w fun e w'=>e=.returned (cI (vq a.n b'.n).1 (vq a.n b'.n).2)∧Below w.heap.size w w':=by
 obtain⟨b,off,rfl,hb,hv,hu⟩:=h.two;go_enter Tryz.func115,Tryz.ntmps115;go_wp2_with fail;have hB:=ae.then (aa w (.cells #[.int .u8 x.op,.int .u8 x.v.k,.int .i64 x.v.n,.string x.v.s,.string x.name,.int .i64 x.width,.slice x.A x.n x.c] 34)) (aa _ (.cells #[.int .u8 0,.int .i64 0,.string ⟨#[]⟩] 26))
 have hR:=ag.new (w.alloc (.cells #[.int .u8 x.op,.int .u8 x.v.k,.int .i64 x.v.n,.string x.v.s,.string x.name,.int .i64 x.width,.slice x.A x.n x.c] 34)) 26 #[.int .u8 0,.int .i64 0,.string ⟨#[]⟩];have hX:=(ag.new w 34 #[.int .u8 x.op,.int .u8 x.v.k,.int .i64 x.v.n,.string x.v.s,.string x.name,.int .i64 x.width,.slice x.A x.n x.c]).alloc (.cells #[.int .u8 0,.int .i64 0,.string ⟨#[]⟩] 26);rw[World.size_alloc] at hR;generalize rU:(w.alloc (.cells #[.int .u8 x.op,.int .u8 x.v.k,.int .i64 x.v.n,.string x.v.s,.string x.name,.int .i64 x.width,.slice x.A x.n x.c] 34)).alloc (.cells #[.int .u8 0,.int .i64 0,.string ⟨#[]⟩] 26)=W at*;clear rU;replace hv:=hv.keep (w':=W) fun o=>hB.cell (p:=⟨b,o,none⟩) hb
 replace hu:=hu.keep (w':=W) fun o=>hB.cell (p:=⟨b,o,none⟩) hb
 have hb2:b < W.heap.size:=Nat.lt_of_lt_of_le hb hB.size;have cV:=fun y:Ext W.heap.size W=>hv.keep (w':=y.w) fun o=>y.cell (p:=⟨b,o,none⟩) hb2
 have cU:=fun y:Ext W.heap.size W=>hu.keep (w':=y.w) fun o=>y.cell (p:=⟨b,o,none⟩) hb2
 unfold eE at cV cU;have oh:ag W q 121 #[.func (.func 82) #[] #[]]:=hq.later hB;have cQ:=fun y:Ext W.heap.size W=>(oh.later y.h).cell 0
 simp only[List.getElem?_toArray,List.getElem?_cons_zero] at cQ;have bo:w.heap.size≤w.heap.size+1:=by omega
 generalize w.heap.size+1=g at*;refine bD 12 W.heap.size W (Below.refl _ _) (by kernel_rfl) (by kernel_rfl) (by kernel_rfl) (by kernel_rfl) ?_;simp only[List.take_succ_cons,List.take_zero,List.drop_succ_cons,List.drop_zero];repeat (go_big_quiet_step (first
  |(go_at_call 82;exact aT (Nat.le_refl _) (Qr a.n b'.n _))))
 refine wpQuiet_nil ?_;rintro W2 ⟨y2,iq⟩;have hW:=y2.h;rw[← iq] at hW;clear iq y2 cV cU cQ;replace hR:=hR.later hW;replace hB:=ae.then hB hW
 generalize hr:(vq a.n b'.n)=r at*;have HE:=hid hr;clear hr;have bK:=ay hR;have dn:=ag.frozen hR;clear hR;go_wp2_with fail;exact bodyPost_ret (v:=.tuple #[.agg #[.int .u8 r.1.k,.int .i64 r.1.n,.string r.1.s],.int .i64 r.2]) (by simp[results,Tryz.results115,go_sem,bK]) rfl ⟨by rw[HE.out];rfl,((hB.setCell (bo) _).setCell (bo) _).setCell (bo) _⟩
theorem Qs (a b:Int)(w:World):Calls Tryz.prog 83 #[.int .i64 a,.int .i64 b] w fun e w'=>e=.returned (.tuple #[.agg #[.int .u8 (vr a b).1.k,.int .i64 (vr a b).1.n,.string (vr a b).1.s],.int .i64 (vr a b).2])∧Below w.heap.size w w':=Qm a b w
theorem Us (x:Ex)(A:Option Addr)(c q:Nat)(a b':Val)(w:World)(h:RV w w.heap.size A [a,b'])(hq:ag w q 121 #[.func (.func 83) #[] #[]]):Calls Tryz.prog 115 #[.agg #[.int .u8 x.op,.int .u8 x.v.k,.int .i64 x.v.n,.string x.v.s,.string x.name,.int .i64 x.width,.slice x.A x.n x.c],.slice A 2 c,.pointer (some ⟨q,0,none⟩)] w fun e w'=>e=.returned (cI (vr a.n b'.n).1 (vr a.n b'.n).2)∧Below w.heap.size w w':=by
 obtain⟨b,off,rfl,hb,hv,hu⟩:=h.two;go_enter Tryz.func115,Tryz.ntmps115;go_wp2_with fail;have hB:=ae.then (aa w (.cells #[.int .u8 x.op,.int .u8 x.v.k,.int .i64 x.v.n,.string x.v.s,.string x.name,.int .i64 x.width,.slice x.A x.n x.c] 34)) (aa _ (.cells #[.int .u8 0,.int .i64 0,.string ⟨#[]⟩] 26))
 have hR:=ag.new (w.alloc (.cells #[.int .u8 x.op,.int .u8 x.v.k,.int .i64 x.v.n,.string x.v.s,.string x.name,.int .i64 x.width,.slice x.A x.n x.c] 34)) 26 #[.int .u8 0,.int .i64 0,.string ⟨#[]⟩];have hX:=(ag.new w 34 #[.int .u8 x.op,.int .u8 x.v.k,.int .i64 x.v.n,.string x.v.s,.string x.name,.int .i64 x.width,.slice x.A x.n x.c]).alloc (.cells #[.int .u8 0,.int .i64 0,.string ⟨#[]⟩] 26);rw[World.size_alloc] at hR;generalize rU:(w.alloc (.cells #[.int .u8 x.op,.int .u8 x.v.k,.int .i64 x.v.n,.string x.v.s,.string x.name,.int .i64 x.width,.slice x.A x.n x.c] 34)).alloc (.cells #[.int .u8 0,.int .i64 0,.string ⟨#[]⟩] 26)=W at*;clear rU;replace hv:=hv.keep (w':=W) fun o=>hB.cell (p:=⟨b,o,none⟩) hb
 replace hu:=hu.keep (w':=W) fun o=>hB.cell (p:=⟨b,o,none⟩) hb
 have hb2:b < W.heap.size:=Nat.lt_of_lt_of_le hb hB.size;have cV:=fun y:Ext W.heap.size W=>hv.keep (w':=y.w) fun o=>y.cell (p:=⟨b,o,none⟩) hb2
 have cU:=fun y:Ext W.heap.size W=>hu.keep (w':=y.w) fun o=>y.cell (p:=⟨b,o,none⟩) hb2
 unfold eE at cV cU;have oh:ag W q 121 #[.func (.func 83) #[] #[]]:=hq.later hB;have cQ:=fun y:Ext W.heap.size W=>(oh.later y.h).cell 0
 simp only[List.getElem?_toArray,List.getElem?_cons_zero] at cQ;have bo:w.heap.size≤w.heap.size+1:=by omega
 generalize w.heap.size+1=g at*;refine bD 12 W.heap.size W (Below.refl _ _) (by kernel_rfl) (by kernel_rfl) (by kernel_rfl) (by kernel_rfl) ?_;simp only[List.take_succ_cons,List.take_zero,List.drop_succ_cons,List.drop_zero];repeat (go_big_quiet_step (first
  |(go_at_call 83;exact aT (Nat.le_refl _) (Qs a.n b'.n _))))
 refine wpQuiet_nil ?_;rintro W2 ⟨y2,iq⟩;have hW:=y2.h;rw[← iq] at hW;clear iq y2 cV cU cQ;replace hR:=hR.later hW;replace hB:=ae.then hB hW
 generalize hr:(vr a.n b'.n)=r at*;have HE:=hid hr;clear hr;have bK:=ay hR;have dn:=ag.frozen hR;clear hR;go_wp2_with fail;exact bodyPost_ret (v:=.tuple #[.agg #[.int .u8 r.1.k,.int .i64 r.1.n,.string r.1.s],.int .i64 r.2]) (by simp[results,Tryz.results115,go_sem,bK]) rfl ⟨by rw[HE.out];rfl,((hB.setCell (bo) _).setCell (bo) _).setCell (bo) _⟩
theorem JD (a b:Int)(w:World):Calls Tryz.prog 84 #[.int .i64 a,.int .i64 b] w fun e w'=>e=.returned (.tuple #[.agg #[.int .u8 (vt a b).1.k,.int .i64 (vt a b).1.n,.string (vt a b).1.s],.int .i64 (vt a b).2])∧Below w.heap.size w w':=JC a b w
theorem Mq (x:Ex)(A:Option Addr)(c q:Nat)(a b':Val)(w:World)(h:RV w w.heap.size A [a,b'])(hq:ag w q 121 #[.func (.func 84) #[] #[]]):Calls Tryz.prog 115 #[.agg #[.int .u8 x.op,.int .u8 x.v.k,.int .i64 x.v.n,.string x.v.s,.string x.name,.int .i64 x.width,.slice x.A x.n x.c],.slice A 2 c,.pointer (some ⟨q,0,none⟩)] w fun e w'=>e=.returned (cI (vt a.n b'.n).1 (vt a.n b'.n).2)∧Below w.heap.size w w':=by
 obtain⟨b,off,rfl,hb,hv,hu⟩:=h.two;go_enter Tryz.func115,Tryz.ntmps115;go_wp2_with fail;have hB:=ae.then (aa w (.cells #[.int .u8 x.op,.int .u8 x.v.k,.int .i64 x.v.n,.string x.v.s,.string x.name,.int .i64 x.width,.slice x.A x.n x.c] 34)) (aa _ (.cells #[.int .u8 0,.int .i64 0,.string ⟨#[]⟩] 26))
 have hR:=ag.new (w.alloc (.cells #[.int .u8 x.op,.int .u8 x.v.k,.int .i64 x.v.n,.string x.v.s,.string x.name,.int .i64 x.width,.slice x.A x.n x.c] 34)) 26 #[.int .u8 0,.int .i64 0,.string ⟨#[]⟩];have hX:=(ag.new w 34 #[.int .u8 x.op,.int .u8 x.v.k,.int .i64 x.v.n,.string x.v.s,.string x.name,.int .i64 x.width,.slice x.A x.n x.c]).alloc (.cells #[.int .u8 0,.int .i64 0,.string ⟨#[]⟩] 26);rw[World.size_alloc] at hR;generalize rU:(w.alloc (.cells #[.int .u8 x.op,.int .u8 x.v.k,.int .i64 x.v.n,.string x.v.s,.string x.name,.int .i64 x.width,.slice x.A x.n x.c] 34)).alloc (.cells #[.int .u8 0,.int .i64 0,.string ⟨#[]⟩] 26)=W at*;clear rU;replace hv:=hv.keep (w':=W) fun o=>hB.cell (p:=⟨b,o,none⟩) hb
 replace hu:=hu.keep (w':=W) fun o=>hB.cell (p:=⟨b,o,none⟩) hb
 have hb2:b < W.heap.size:=Nat.lt_of_lt_of_le hb hB.size;have cV:=fun y:Ext W.heap.size W=>hv.keep (w':=y.w) fun o=>y.cell (p:=⟨b,o,none⟩) hb2
 have cU:=fun y:Ext W.heap.size W=>hu.keep (w':=y.w) fun o=>y.cell (p:=⟨b,o,none⟩) hb2
 unfold eE at cV cU;have oh:ag W q 121 #[.func (.func 84) #[] #[]]:=hq.later hB;have cQ:=fun y:Ext W.heap.size W=>(oh.later y.h).cell 0
 simp only[List.getElem?_toArray,List.getElem?_cons_zero] at cQ;have bo:w.heap.size≤w.heap.size+1:=by omega
 generalize w.heap.size+1=g at*;refine bD 12 W.heap.size W (Below.refl _ _) (by kernel_rfl) (by kernel_rfl) (by kernel_rfl) (by kernel_rfl) ?_;simp only[List.take_succ_cons,List.take_zero,List.drop_succ_cons,List.drop_zero];repeat (go_big_quiet_step (first
  |(go_at_call 84;exact aT (Nat.le_refl _) (JD a.n b'.n _))))
 refine wpQuiet_nil ?_;rintro W2 ⟨y2,iq⟩;have hW:=y2.h;rw[← iq] at hW;clear iq y2 cV cU cQ;replace hR:=hR.later hW;replace hB:=ae.then hB hW
 generalize hr:(vt a.n b'.n)=r at*;have HE:=hid hr;clear hr;have bK:=ay hR;have dn:=ag.frozen hR;clear hR;go_wp2_with fail;exact bodyPost_ret (v:=.tuple #[.agg #[.int .u8 r.1.k,.int .i64 r.1.n,.string r.1.s],.int .i64 r.2]) (by simp[results,Tryz.results115,go_sem,bK]) rfl ⟨by rw[HE.out];rfl,((hB.setCell (bo) _).setCell (bo) _).setCell (bo) _⟩
theorem JE (args:Array Value)(w:World):(callFunc 86 args).run Tryz.prog w=.ok (.enter 86 args) w:=by kernel_rfl
def tI (a b:Int):Val×Int:=if b=0 then(ah,44)else JA a b
theorem Qt (a b:Int)(g:Nat)(w:World)(hg:ag w g 121 #[.func (.func 86) #[] #[]]):Calls Tryz.prog 116 #[.int .i64 a,.int .i64 b,.pointer (some ⟨g,0,none⟩)] w fun e w'=>e=.returned (.tuple #[.agg #[.int .u8 (tI a b).1.k,.int .i64 (tI a b).1.n,.string (tI a b).1.s],.int .i64 (tI a b).2])∧Below w.heap.size w w':=by
 by_cases hb:b=0
 ·have e:tI a b=(ah,44):=if_pos hb;rw[e];subst hb;exact HJ a g w
 ·have e:tI a b=JA a b:=if_neg hb;rw[e];exact Mp a b hb g _ _ w hg JE (Qn a b hb)
theorem Ut (x:Ex)(A:Option Addr)(c q:Nat)(a b':Val)(q2:Nat)(w:World)(h:RV w w.heap.size A [a,b'])(hq:ag w q 121 #[.func (.func 116) #[] #[.pointer (some ⟨q2,0,none⟩)]])(oh:ag w q2 121 #[.func (.func 86) #[] #[]]):Calls Tryz.prog 115 #[.agg #[.int .u8 x.op,.int .u8 x.v.k,.int .i64 x.v.n,.string x.v.s,.string x.name,.int .i64 x.width,.slice x.A x.n x.c],.slice A 2 c,.pointer (some ⟨q,0,none⟩)] w fun e w'=>e=.returned (cI (tI a.n b'.n).1 (tI a.n b'.n).2)∧Below w.heap.size w w':=by
 obtain⟨b,off,rfl,hb,hv,hu⟩:=h.two;go_enter Tryz.func115,Tryz.ntmps115;go_wp2_with fail;have hB:=ae.then (aa w (.cells #[.int .u8 x.op,.int .u8 x.v.k,.int .i64 x.v.n,.string x.v.s,.string x.name,.int .i64 x.width,.slice x.A x.n x.c] 34)) (aa _ (.cells #[.int .u8 0,.int .i64 0,.string ⟨#[]⟩] 26))
 have hR:=ag.new (w.alloc (.cells #[.int .u8 x.op,.int .u8 x.v.k,.int .i64 x.v.n,.string x.v.s,.string x.name,.int .i64 x.width,.slice x.A x.n x.c] 34)) 26 #[.int .u8 0,.int .i64 0,.string ⟨#[]⟩];have hX:=(ag.new w 34 #[.int .u8 x.op,.int .u8 x.v.k,.int .i64 x.v.n,.string x.v.s,.string x.name,.int .i64 x.width,.slice x.A x.n x.c]).alloc (.cells #[.int .u8 0,.int .i64 0,.string ⟨#[]⟩] 26);rw[World.size_alloc] at hR;generalize rU:(w.alloc (.cells #[.int .u8 x.op,.int .u8 x.v.k,.int .i64 x.v.n,.string x.v.s,.string x.name,.int .i64 x.width,.slice x.A x.n x.c] 34)).alloc (.cells #[.int .u8 0,.int .i64 0,.string ⟨#[]⟩] 26)=W at*;clear rU;replace hv:=hv.keep (w':=W) fun o=>hB.cell (p:=⟨b,o,none⟩) hb
 replace hu:=hu.keep (w':=W) fun o=>hB.cell (p:=⟨b,o,none⟩) hb
 have hb2:b < W.heap.size:=Nat.lt_of_lt_of_le hb hB.size;have cV:=fun y:Ext W.heap.size W=>hv.keep (w':=y.w) fun o=>y.cell (p:=⟨b,o,none⟩) hb2
 have cU:=fun y:Ext W.heap.size W=>hu.keep (w':=y.w) fun o=>y.cell (p:=⟨b,o,none⟩) hb2
 unfold eE at cV cU;have J8:=oh.later hB;have oh:ag W q 121 #[.func (.func 116) #[] #[.pointer (some ⟨q2,0,none⟩)]]:=hq.later hB;have cQ:=fun y:Ext W.heap.size W=>(oh.later y.h).cell 0
 simp only[List.getElem?_toArray,List.getElem?_cons_zero] at cQ;have bo:w.heap.size≤w.heap.size+1:=by omega
 generalize w.heap.size+1=g at*;refine bD 12 W.heap.size W (Below.refl _ _) (by kernel_rfl) (by kernel_rfl) (by kernel_rfl) (by kernel_rfl) ?_;simp only[List.take_succ_cons,List.take_zero,List.drop_succ_cons,List.drop_zero];repeat (go_big_quiet_step (first
  |(go_at_call 116;exact aT (Nat.le_refl _) (Qt a.n b'.n q2 _ (J8.later (Ext.h _))))))
 refine wpQuiet_nil ?_;rintro W2 ⟨y2,iq⟩;have hW:=y2.h;rw[← iq] at hW;clear iq y2 cV cU cQ;replace hR:=hR.later hW;replace hB:=ae.then hB hW
 generalize hr:(tI a.n b'.n)=r at*;have HE:=hid hr;clear hr;have bK:=ay hR;have dn:=ag.frozen hR;clear hR;go_wp2_with fail;exact bodyPost_ret (v:=.tuple #[.agg #[.int .u8 r.1.k,.int .i64 r.1.n,.string r.1.s],.int .i64 r.2]) (by simp[results,Tryz.results115,go_sem,bK]) rfl ⟨by rw[HE.out];rfl,((hB.setCell (bo) _).setCell (bo) _).setCell (bo) _⟩
theorem JF (args:Array Value)(w:World):(callFunc 87 args).run Tryz.prog w=.ok (.enter 87 args) w:=by kernel_rfl
def tJ (a b:Int):Val×Int:=if b=0 then(ah,44)else JB a b
theorem Qv (a b:Int)(g:Nat)(w:World)(hg:ag w g 121 #[.func (.func 87) #[] #[]]):Calls Tryz.prog 116 #[.int .i64 a,.int .i64 b,.pointer (some ⟨g,0,none⟩)] w fun e w'=>e=.returned (.tuple #[.agg #[.int .u8 (tJ a b).1.k,.int .i64 (tJ a b).1.n,.string (tJ a b).1.s],.int .i64 (tJ a b).2])∧Below w.heap.size w w':=by
 by_cases hb:b=0
 ·have e:tJ a b=(ah,44):=if_pos hb;rw[e];subst hb;exact HJ a g w
 ·have e:tJ a b=JB a b:=if_neg hb;rw[e];exact Mp a b hb g _ _ w hg JF (Qo a b hb)
theorem Uu (x:Ex)(A:Option Addr)(c q:Nat)(a b':Val)(q2:Nat)(w:World)(h:RV w w.heap.size A [a,b'])(hq:ag w q 121 #[.func (.func 116) #[] #[.pointer (some ⟨q2,0,none⟩)]])(oh:ag w q2 121 #[.func (.func 87) #[] #[]]):Calls Tryz.prog 115 #[.agg #[.int .u8 x.op,.int .u8 x.v.k,.int .i64 x.v.n,.string x.v.s,.string x.name,.int .i64 x.width,.slice x.A x.n x.c],.slice A 2 c,.pointer (some ⟨q,0,none⟩)] w fun e w'=>e=.returned (cI (tJ a.n b'.n).1 (tJ a.n b'.n).2)∧Below w.heap.size w w':=by
 obtain⟨b,off,rfl,hb,hv,hu⟩:=h.two;go_enter Tryz.func115,Tryz.ntmps115;go_wp2_with fail;have hB:=ae.then (aa w (.cells #[.int .u8 x.op,.int .u8 x.v.k,.int .i64 x.v.n,.string x.v.s,.string x.name,.int .i64 x.width,.slice x.A x.n x.c] 34)) (aa _ (.cells #[.int .u8 0,.int .i64 0,.string ⟨#[]⟩] 26))
 have hR:=ag.new (w.alloc (.cells #[.int .u8 x.op,.int .u8 x.v.k,.int .i64 x.v.n,.string x.v.s,.string x.name,.int .i64 x.width,.slice x.A x.n x.c] 34)) 26 #[.int .u8 0,.int .i64 0,.string ⟨#[]⟩];have hX:=(ag.new w 34 #[.int .u8 x.op,.int .u8 x.v.k,.int .i64 x.v.n,.string x.v.s,.string x.name,.int .i64 x.width,.slice x.A x.n x.c]).alloc (.cells #[.int .u8 0,.int .i64 0,.string ⟨#[]⟩] 26);rw[World.size_alloc] at hR;generalize rU:(w.alloc (.cells #[.int .u8 x.op,.int .u8 x.v.k,.int .i64 x.v.n,.string x.v.s,.string x.name,.int .i64 x.width,.slice x.A x.n x.c] 34)).alloc (.cells #[.int .u8 0,.int .i64 0,.string ⟨#[]⟩] 26)=W at*;clear rU;replace hv:=hv.keep (w':=W) fun o=>hB.cell (p:=⟨b,o,none⟩) hb
 replace hu:=hu.keep (w':=W) fun o=>hB.cell (p:=⟨b,o,none⟩) hb
 have hb2:b < W.heap.size:=Nat.lt_of_lt_of_le hb hB.size;have cV:=fun y:Ext W.heap.size W=>hv.keep (w':=y.w) fun o=>y.cell (p:=⟨b,o,none⟩) hb2
 have cU:=fun y:Ext W.heap.size W=>hu.keep (w':=y.w) fun o=>y.cell (p:=⟨b,o,none⟩) hb2
 unfold eE at cV cU;have J8:=oh.later hB;have oh:ag W q 121 #[.func (.func 116) #[] #[.pointer (some ⟨q2,0,none⟩)]]:=hq.later hB;have cQ:=fun y:Ext W.heap.size W=>(oh.later y.h).cell 0
 simp only[List.getElem?_toArray,List.getElem?_cons_zero] at cQ;have bo:w.heap.size≤w.heap.size+1:=by omega
 generalize w.heap.size+1=g at*;refine bD 12 W.heap.size W (Below.refl _ _) (by kernel_rfl) (by kernel_rfl) (by kernel_rfl) (by kernel_rfl) ?_;simp only[List.take_succ_cons,List.take_zero,List.drop_succ_cons,List.drop_zero];repeat (go_big_quiet_step (first
  |(go_at_call 116;exact aT (Nat.le_refl _) (Qv a.n b'.n q2 _ (J8.later (Ext.h _))))))
 refine wpQuiet_nil ?_;rintro W2 ⟨y2,iq⟩;have hW:=y2.h;rw[← iq] at hW;clear iq y2 cV cU cQ;replace hR:=hR.later hW;replace hB:=ae.then hB hW
 generalize hr:(tJ a.n b'.n)=r at*;have HE:=hid hr;clear hr;have bK:=ay hR;have dn:=ag.frozen hR;clear hR;go_wp2_with fail;exact bodyPost_ret (v:=.tuple #[.agg #[.int .u8 r.1.k,.int .i64 r.1.n,.string r.1.s],.int .i64 r.2]) (by simp[results,Tryz.results115,go_sem,bK]) rfl ⟨by rw[HE.out];rfl,((hB.setCell (bo) _).setCell (bo) _).setCell (bo) _⟩
theorem XN (x:Ex)(A:Option Addr)(c q:Nat)(a b':Val)(w:World)(h:RV w w.heap.size A [a,b'])(hq:ag w q 123 #[.func (.func 89) #[] #[]]):Calls Tryz.prog 117 #[.agg #[.int .u8 x.op,.int .u8 x.v.k,.int .i64 x.v.n,.string x.v.s,.string x.name,.int .i64 x.width,.slice x.A x.n x.c],.slice A 2 c,.pointer (some ⟨q,0,none⟩)] w fun e w'=>e=.returned (cI (aL (decide (gf a b'=0))) 0)∧Below w.heap.size w w':=by
 obtain⟨b,off,rfl,hb,hv,hu⟩:=h.two;go_enter Tryz.func117,Tryz.ntmps117;go_wp2_with fail;have hB:=ae.then (aa w (.cells #[.int .u8 x.op,.int .u8 x.v.k,.int .i64 x.v.n,.string x.v.s,.string x.name,.int .i64 x.width,.slice x.A x.n x.c] 34)) (aa _ (.cells #[.int .u8 0,.int .i64 0,.string ⟨#[]⟩] 26))
 have hR:=ag.new (w.alloc (.cells #[.int .u8 x.op,.int .u8 x.v.k,.int .i64 x.v.n,.string x.v.s,.string x.name,.int .i64 x.width,.slice x.A x.n x.c] 34)) 26 #[.int .u8 0,.int .i64 0,.string ⟨#[]⟩];have hX:=(ag.new w 34 #[.int .u8 x.op,.int .u8 x.v.k,.int .i64 x.v.n,.string x.v.s,.string x.name,.int .i64 x.width,.slice x.A x.n x.c]).alloc (.cells #[.int .u8 0,.int .i64 0,.string ⟨#[]⟩] 26);rw[World.size_alloc] at hR;generalize rU:(w.alloc (.cells #[.int .u8 x.op,.int .u8 x.v.k,.int .i64 x.v.n,.string x.v.s,.string x.name,.int .i64 x.width,.slice x.A x.n x.c] 34)).alloc (.cells #[.int .u8 0,.int .i64 0,.string ⟨#[]⟩] 26)=W at*;clear rU;replace hv:=hv.keep (w':=W) fun o=>hB.cell (p:=⟨b,o,none⟩) hb
 replace hu:=hu.keep (w':=W) fun o=>hB.cell (p:=⟨b,o,none⟩) hb
 have hb2:b < W.heap.size:=Nat.lt_of_lt_of_le hb hB.size;have cV:=fun y:Ext W.heap.size W=>hv.keep (w':=y.w) fun o=>y.cell (p:=⟨b,o,none⟩) hb2
 have cU:=fun y:Ext W.heap.size W=>hu.keep (w':=y.w) fun o=>y.cell (p:=⟨b,o,none⟩) hb2
 unfold eE at cV cU;have oh:ag W q 123 #[.func (.func 89) #[] #[]]:=hq.later hB;have cQ:=fun y:Ext W.heap.size W=>(oh.later y.h).cell 0
 simp only[List.getElem?_toArray,List.getElem?_cons_zero] at cQ;have bo:w.heap.size≤w.heap.size+1:=by omega
 generalize w.heap.size+1=g at*;have kC:=hid (iK a b');generalize hcc:gf a b'=cc at kC;have HC:=hid hcc;clear hcc;refine bD 12 W.heap.size W (Below.refl _ _) (by kernel_rfl) (by kernel_rfl) (by kernel_rfl) (by kernel_rfl) ?_;simp only[List.take_succ_cons,List.take_zero,List.drop_succ_cons,List.drop_zero];repeat (go_big_quiet_step (first
  |(go_at_call 118;exact aT (Nat.le_refl _) (kC.out _))
  |(go_at_call 89;exact di (XJ cc _))
  |(go_at_call 80;exact aT (Nat.le_refl _) (jr _ _))))
 refine wpQuiet_nil ?_;rintro W2 ⟨y2,iq⟩;have hW:=y2.h;rw[← iq] at hW;clear iq y2 cV cU cQ;replace hR:=hR.later hW;replace hB:=ae.then hB hW
 generalize hr:aL (decide (cc=0))=r at*;have HE:Hid ((r,(0:Int))=(aL (decide (gf a b'=0)),0)):=by rw[HC.out,hr];exact rfl
 clear hr;have bK:=ay hR;have dn:=ag.frozen hR;clear hR;go_wp2_with fail;exact bodyPost_ret (v:=.tuple #[.agg #[.int .u8 (r,(0:Int)).1.k,.int .i64 (r,(0:Int)).1.n,.string (r,(0:Int)).1.s],.int .i64 (r,(0:Int)).2]) (by simp[results,Tryz.results117,go_sem,bK]) rfl ⟨by have:=HE.out;injection this with h1 h2;rw[← h1];rfl,((hB.setCell (bo) _).setCell (bo) _).setCell (bo) _⟩
theorem XO (x:Ex)(A:Option Addr)(c q:Nat)(a b':Val)(w:World)(h:RV w w.heap.size A [a,b'])(hq:ag w q 123 #[.func (.func 90) #[] #[]]):Calls Tryz.prog 117 #[.agg #[.int .u8 x.op,.int .u8 x.v.k,.int .i64 x.v.n,.string x.v.s,.string x.name,.int .i64 x.width,.slice x.A x.n x.c],.slice A 2 c,.pointer (some ⟨q,0,none⟩)] w fun e w'=>e=.returned (cI (aL (!decide (gf a b'=0))) 0)∧Below w.heap.size w w':=by
 obtain⟨b,off,rfl,hb,hv,hu⟩:=h.two;go_enter Tryz.func117,Tryz.ntmps117;go_wp2_with fail;have hB:=ae.then (aa w (.cells #[.int .u8 x.op,.int .u8 x.v.k,.int .i64 x.v.n,.string x.v.s,.string x.name,.int .i64 x.width,.slice x.A x.n x.c] 34)) (aa _ (.cells #[.int .u8 0,.int .i64 0,.string ⟨#[]⟩] 26))
 have hR:=ag.new (w.alloc (.cells #[.int .u8 x.op,.int .u8 x.v.k,.int .i64 x.v.n,.string x.v.s,.string x.name,.int .i64 x.width,.slice x.A x.n x.c] 34)) 26 #[.int .u8 0,.int .i64 0,.string ⟨#[]⟩];have hX:=(ag.new w 34 #[.int .u8 x.op,.int .u8 x.v.k,.int .i64 x.v.n,.string x.v.s,.string x.name,.int .i64 x.width,.slice x.A x.n x.c]).alloc (.cells #[.int .u8 0,.int .i64 0,.string ⟨#[]⟩] 26);rw[World.size_alloc] at hR;generalize rU:(w.alloc (.cells #[.int .u8 x.op,.int .u8 x.v.k,.int .i64 x.v.n,.string x.v.s,.string x.name,.int .i64 x.width,.slice x.A x.n x.c] 34)).alloc (.cells #[.int .u8 0,.int .i64 0,.string ⟨#[]⟩] 26)=W at*;clear rU;replace hv:=hv.keep (w':=W) fun o=>hB.cell (p:=⟨b,o,none⟩) hb
 replace hu:=hu.keep (w':=W) fun o=>hB.cell (p:=⟨b,o,none⟩) hb
 have hb2:b < W.heap.size:=Nat.lt_of_lt_of_le hb hB.size;have cV:=fun y:Ext W.heap.size W=>hv.keep (w':=y.w) fun o=>y.cell (p:=⟨b,o,none⟩) hb2
 have cU:=fun y:Ext W.heap.size W=>hu.keep (w':=y.w) fun o=>y.cell (p:=⟨b,o,none⟩) hb2
 unfold eE at cV cU;have oh:ag W q 123 #[.func (.func 90) #[] #[]]:=hq.later hB;have cQ:=fun y:Ext W.heap.size W=>(oh.later y.h).cell 0
 simp only[List.getElem?_toArray,List.getElem?_cons_zero] at cQ;have bo:w.heap.size≤w.heap.size+1:=by omega
 generalize w.heap.size+1=g at*;have kC:=hid (iK a b');generalize hcc:gf a b'=cc at kC;have HC:=hid hcc;clear hcc;refine bD 12 W.heap.size W (Below.refl _ _) (by kernel_rfl) (by kernel_rfl) (by kernel_rfl) (by kernel_rfl) ?_;simp only[List.take_succ_cons,List.take_zero,List.drop_succ_cons,List.drop_zero];repeat (go_big_quiet_step (first
  |(go_at_call 118;exact aT (Nat.le_refl _) (kC.out _))
  |(go_at_call 90;exact di (XK cc _))
  |(go_at_call 80;exact aT (Nat.le_refl _) (jr _ _))))
 refine wpQuiet_nil ?_;rintro W2 ⟨y2,iq⟩;have hW:=y2.h;rw[← iq] at hW;clear iq y2 cV cU cQ;replace hR:=hR.later hW;replace hB:=ae.then hB hW
 generalize hr:aL (!decide (cc=0))=r at*;have HE:Hid ((r,(0:Int))=(aL (!decide (gf a b'=0)),0)):=by rw[HC.out,hr];exact rfl
 clear hr;have bK:=ay hR;have dn:=ag.frozen hR;clear hR;go_wp2_with fail;exact bodyPost_ret (v:=.tuple #[.agg #[.int .u8 (r,(0:Int)).1.k,.int .i64 (r,(0:Int)).1.n,.string (r,(0:Int)).1.s],.int .i64 (r,(0:Int)).2]) (by simp[results,Tryz.results117,go_sem,bK]) rfl ⟨by have:=HE.out;injection this with h1 h2;rw[← h1];rfl,((hB.setCell (bo) _).setCell (bo) _).setCell (bo) _⟩
theorem XP (x:Ex)(A:Option Addr)(c q:Nat)(a b':Val)(w:World)(h:RV w w.heap.size A [a,b'])(hq:ag w q 123 #[.func (.func 91) #[] #[]]):Calls Tryz.prog 117 #[.agg #[.int .u8 x.op,.int .u8 x.v.k,.int .i64 x.v.n,.string x.v.s,.string x.name,.int .i64 x.width,.slice x.A x.n x.c],.slice A 2 c,.pointer (some ⟨q,0,none⟩)] w fun e w'=>e=.returned (cI (aL (decide (gf a b' < 0))) 0)∧Below w.heap.size w w':=by
 obtain⟨b,off,rfl,hb,hv,hu⟩:=h.two;go_enter Tryz.func117,Tryz.ntmps117;go_wp2_with fail;have hB:=ae.then (aa w (.cells #[.int .u8 x.op,.int .u8 x.v.k,.int .i64 x.v.n,.string x.v.s,.string x.name,.int .i64 x.width,.slice x.A x.n x.c] 34)) (aa _ (.cells #[.int .u8 0,.int .i64 0,.string ⟨#[]⟩] 26))
 have hR:=ag.new (w.alloc (.cells #[.int .u8 x.op,.int .u8 x.v.k,.int .i64 x.v.n,.string x.v.s,.string x.name,.int .i64 x.width,.slice x.A x.n x.c] 34)) 26 #[.int .u8 0,.int .i64 0,.string ⟨#[]⟩];have hX:=(ag.new w 34 #[.int .u8 x.op,.int .u8 x.v.k,.int .i64 x.v.n,.string x.v.s,.string x.name,.int .i64 x.width,.slice x.A x.n x.c]).alloc (.cells #[.int .u8 0,.int .i64 0,.string ⟨#[]⟩] 26);rw[World.size_alloc] at hR;generalize rU:(w.alloc (.cells #[.int .u8 x.op,.int .u8 x.v.k,.int .i64 x.v.n,.string x.v.s,.string x.name,.int .i64 x.width,.slice x.A x.n x.c] 34)).alloc (.cells #[.int .u8 0,.int .i64 0,.string ⟨#[]⟩] 26)=W at*;clear rU;replace hv:=hv.keep (w':=W) fun o=>hB.cell (p:=⟨b,o,none⟩) hb
 replace hu:=hu.keep (w':=W) fun o=>hB.cell (p:=⟨b,o,none⟩) hb
 have hb2:b < W.heap.size:=Nat.lt_of_lt_of_le hb hB.size;have cV:=fun y:Ext W.heap.size W=>hv.keep (w':=y.w) fun o=>y.cell (p:=⟨b,o,none⟩) hb2
 have cU:=fun y:Ext W.heap.size W=>hu.keep (w':=y.w) fun o=>y.cell (p:=⟨b,o,none⟩) hb2
 unfold eE at cV cU;have oh:ag W q 123 #[.func (.func 91) #[] #[]]:=hq.later hB;have cQ:=fun y:Ext W.heap.size W=>(oh.later y.h).cell 0
 simp only[List.getElem?_toArray,List.getElem?_cons_zero] at cQ;have bo:w.heap.size≤w.heap.size+1:=by omega
 generalize w.heap.size+1=g at*;have kC:=hid (iK a b');generalize hcc:gf a b'=cc at kC;have HC:=hid hcc;clear hcc;refine bD 12 W.heap.size W (Below.refl _ _) (by kernel_rfl) (by kernel_rfl) (by kernel_rfl) (by kernel_rfl) ?_;simp only[List.take_succ_cons,List.take_zero,List.drop_succ_cons,List.drop_zero];repeat (go_big_quiet_step (first
  |(go_at_call 118;exact aT (Nat.le_refl _) (kC.out _))
  |(go_at_call 91;exact di (is_lt cc _))
  |(go_at_call 80;exact aT (Nat.le_refl _) (jr _ _))))
 refine wpQuiet_nil ?_;rintro W2 ⟨y2,iq⟩;have hW:=y2.h;rw[← iq] at hW;clear iq y2 cV cU cQ;replace hR:=hR.later hW;replace hB:=ae.then hB hW
 generalize hr:aL (decide (cc < 0))=r at*;have HE:Hid ((r,(0:Int))=(aL (decide (gf a b' < 0)),0)):=by rw[HC.out,hr];exact rfl
 clear hr;have bK:=ay hR;have dn:=ag.frozen hR;clear hR;go_wp2_with fail;exact bodyPost_ret (v:=.tuple #[.agg #[.int .u8 (r,(0:Int)).1.k,.int .i64 (r,(0:Int)).1.n,.string (r,(0:Int)).1.s],.int .i64 (r,(0:Int)).2]) (by simp[results,Tryz.results117,go_sem,bK]) rfl ⟨by have:=HE.out;injection this with h1 h2;rw[← h1];rfl,((hB.setCell (bo) _).setCell (bo) _).setCell (bo) _⟩
theorem XQ (x:Ex)(A:Option Addr)(c q:Nat)(a b':Val)(w:World)(h:RV w w.heap.size A [a,b'])(hq:ag w q 123 #[.func (.func 92) #[] #[]]):Calls Tryz.prog 117 #[.agg #[.int .u8 x.op,.int .u8 x.v.k,.int .i64 x.v.n,.string x.v.s,.string x.name,.int .i64 x.width,.slice x.A x.n x.c],.slice A 2 c,.pointer (some ⟨q,0,none⟩)] w fun e w'=>e=.returned (cI (aL (decide (gf a b'≤0))) 0)∧Below w.heap.size w w':=by
 obtain⟨b,off,rfl,hb,hv,hu⟩:=h.two;go_enter Tryz.func117,Tryz.ntmps117;go_wp2_with fail;have hB:=ae.then (aa w (.cells #[.int .u8 x.op,.int .u8 x.v.k,.int .i64 x.v.n,.string x.v.s,.string x.name,.int .i64 x.width,.slice x.A x.n x.c] 34)) (aa _ (.cells #[.int .u8 0,.int .i64 0,.string ⟨#[]⟩] 26))
 have hR:=ag.new (w.alloc (.cells #[.int .u8 x.op,.int .u8 x.v.k,.int .i64 x.v.n,.string x.v.s,.string x.name,.int .i64 x.width,.slice x.A x.n x.c] 34)) 26 #[.int .u8 0,.int .i64 0,.string ⟨#[]⟩];have hX:=(ag.new w 34 #[.int .u8 x.op,.int .u8 x.v.k,.int .i64 x.v.n,.string x.v.s,.string x.name,.int .i64 x.width,.slice x.A x.n x.c]).alloc (.cells #[.int .u8 0,.int .i64 0,.string ⟨#[]⟩] 26);rw[World.size_alloc] at hR;generalize rU:(w.alloc (.cells #[.int .u8 x.op,.int .u8 x.v.k,.int .i64 x.v.n,.string x.v.s,.string x.name,.int .i64 x.width,.slice x.A x.n x.c] 34)).alloc (.cells #[.int .u8 0,.int .i64 0,.string ⟨#[]⟩] 26)=W at*;clear rU;replace hv:=hv.keep (w':=W) fun o=>hB.cell (p:=⟨b,o,none⟩) hb
 replace hu:=hu.keep (w':=W) fun o=>hB.cell (p:=⟨b,o,none⟩) hb
 have hb2:b < W.heap.size:=Nat.lt_of_lt_of_le hb hB.size;have cV:=fun y:Ext W.heap.size W=>hv.keep (w':=y.w) fun o=>y.cell (p:=⟨b,o,none⟩) hb2
 have cU:=fun y:Ext W.heap.size W=>hu.keep (w':=y.w) fun o=>y.cell (p:=⟨b,o,none⟩) hb2
 unfold eE at cV cU;have oh:ag W q 123 #[.func (.func 92) #[] #[]]:=hq.later hB;have cQ:=fun y:Ext W.heap.size W=>(oh.later y.h).cell 0
 simp only[List.getElem?_toArray,List.getElem?_cons_zero] at cQ;have bo:w.heap.size≤w.heap.size+1:=by omega
 generalize w.heap.size+1=g at*;have kC:=hid (iK a b');generalize hcc:gf a b'=cc at kC;have HC:=hid hcc;clear hcc;refine bD 12 W.heap.size W (Below.refl _ _) (by kernel_rfl) (by kernel_rfl) (by kernel_rfl) (by kernel_rfl) ?_;simp only[List.take_succ_cons,List.take_zero,List.drop_succ_cons,List.drop_zero];repeat (go_big_quiet_step (first
  |(go_at_call 118;exact aT (Nat.le_refl _) (kC.out _))
  |(go_at_call 92;exact di (is_le cc _))
  |(go_at_call 80;exact aT (Nat.le_refl _) (jr _ _))))
 refine wpQuiet_nil ?_;rintro W2 ⟨y2,iq⟩;have hW:=y2.h;rw[← iq] at hW;clear iq y2 cV cU cQ;replace hR:=hR.later hW;replace hB:=ae.then hB hW
 generalize hr:aL (decide (cc≤0))=r at*;have HE:Hid ((r,(0:Int))=(aL (decide (gf a b'≤0)),0)):=by rw[HC.out,hr];exact rfl
 clear hr;have bK:=ay hR;have dn:=ag.frozen hR;clear hR;go_wp2_with fail;exact bodyPost_ret (v:=.tuple #[.agg #[.int .u8 (r,(0:Int)).1.k,.int .i64 (r,(0:Int)).1.n,.string (r,(0:Int)).1.s],.int .i64 (r,(0:Int)).2]) (by simp[results,Tryz.results117,go_sem,bK]) rfl ⟨by have:=HE.out;injection this with h1 h2;rw[← h1];rfl,((hB.setCell (bo) _).setCell (bo) _).setCell (bo) _⟩
theorem XR (x:Ex)(A:Option Addr)(c q:Nat)(a b':Val)(w:World)(h:RV w w.heap.size A [a,b'])(hq:ag w q 123 #[.func (.func 93) #[] #[]]):Calls Tryz.prog 117 #[.agg #[.int .u8 x.op,.int .u8 x.v.k,.int .i64 x.v.n,.string x.v.s,.string x.name,.int .i64 x.width,.slice x.A x.n x.c],.slice A 2 c,.pointer (some ⟨q,0,none⟩)] w fun e w'=>e=.returned (cI (aL (decide (0 < gf a b'))) 0)∧Below w.heap.size w w':=by
 obtain⟨b,off,rfl,hb,hv,hu⟩:=h.two;go_enter Tryz.func117,Tryz.ntmps117;go_wp2_with fail;have hB:=ae.then (aa w (.cells #[.int .u8 x.op,.int .u8 x.v.k,.int .i64 x.v.n,.string x.v.s,.string x.name,.int .i64 x.width,.slice x.A x.n x.c] 34)) (aa _ (.cells #[.int .u8 0,.int .i64 0,.string ⟨#[]⟩] 26))
 have hR:=ag.new (w.alloc (.cells #[.int .u8 x.op,.int .u8 x.v.k,.int .i64 x.v.n,.string x.v.s,.string x.name,.int .i64 x.width,.slice x.A x.n x.c] 34)) 26 #[.int .u8 0,.int .i64 0,.string ⟨#[]⟩];have hX:=(ag.new w 34 #[.int .u8 x.op,.int .u8 x.v.k,.int .i64 x.v.n,.string x.v.s,.string x.name,.int .i64 x.width,.slice x.A x.n x.c]).alloc (.cells #[.int .u8 0,.int .i64 0,.string ⟨#[]⟩] 26);rw[World.size_alloc] at hR;generalize rU:(w.alloc (.cells #[.int .u8 x.op,.int .u8 x.v.k,.int .i64 x.v.n,.string x.v.s,.string x.name,.int .i64 x.width,.slice x.A x.n x.c] 34)).alloc (.cells #[.int .u8 0,.int .i64 0,.string ⟨#[]⟩] 26)=W at*;clear rU;replace hv:=hv.keep (w':=W) fun o=>hB.cell (p:=⟨b,o,none⟩) hb
 replace hu:=hu.keep (w':=W) fun o=>hB.cell (p:=⟨b,o,none⟩) hb
 have hb2:b < W.heap.size:=Nat.lt_of_lt_of_le hb hB.size;have cV:=fun y:Ext W.heap.size W=>hv.keep (w':=y.w) fun o=>y.cell (p:=⟨b,o,none⟩) hb2
 have cU:=fun y:Ext W.heap.size W=>hu.keep (w':=y.w) fun o=>y.cell (p:=⟨b,o,none⟩) hb2
 unfold eE at cV cU;have oh:ag W q 123 #[.func (.func 93) #[] #[]]:=hq.later hB;have cQ:=fun y:Ext W.heap.size W=>(oh.later y.h).cell 0
 simp only[List.getElem?_toArray,List.getElem?_cons_zero] at cQ;have bo:w.heap.size≤w.heap.size+1:=by omega
 generalize w.heap.size+1=g at*;have kC:=hid (iK a b');generalize hcc:gf a b'=cc at kC;have HC:=hid hcc;clear hcc;refine bD 12 W.heap.size W (Below.refl _ _) (by kernel_rfl) (by kernel_rfl) (by kernel_rfl) (by kernel_rfl) ?_;simp only[List.take_succ_cons,List.take_zero,List.drop_succ_cons,List.drop_zero];repeat (go_big_quiet_step (first
  |(go_at_call 118;exact aT (Nat.le_refl _) (kC.out _))
  |(go_at_call 93;exact di (XL cc _))
  |(go_at_call 80;exact aT (Nat.le_refl _) (jr _ _))))
 refine wpQuiet_nil ?_;rintro W2 ⟨y2,iq⟩;have hW:=y2.h;rw[← iq] at hW;clear iq y2 cV cU cQ;replace hR:=hR.later hW;replace hB:=ae.then hB hW
 generalize hr:aL (decide (0 < cc))=r at*;have HE:Hid ((r,(0:Int))=(aL (decide (0 < gf a b')),0)):=by rw[HC.out,hr];exact rfl
 clear hr;have bK:=ay hR;have dn:=ag.frozen hR;clear hR;go_wp2_with fail;exact bodyPost_ret (v:=.tuple #[.agg #[.int .u8 (r,(0:Int)).1.k,.int .i64 (r,(0:Int)).1.n,.string (r,(0:Int)).1.s],.int .i64 (r,(0:Int)).2]) (by simp[results,Tryz.results117,go_sem,bK]) rfl ⟨by have:=HE.out;injection this with h1 h2;rw[← h1];rfl,((hB.setCell (bo) _).setCell (bo) _).setCell (bo) _⟩
theorem XS (x:Ex)(A:Option Addr)(c q:Nat)(a b':Val)(w:World)(h:RV w w.heap.size A [a,b'])(hq:ag w q 123 #[.func (.func 94) #[] #[]]):Calls Tryz.prog 117 #[.agg #[.int .u8 x.op,.int .u8 x.v.k,.int .i64 x.v.n,.string x.v.s,.string x.name,.int .i64 x.width,.slice x.A x.n x.c],.slice A 2 c,.pointer (some ⟨q,0,none⟩)] w fun e w'=>e=.returned (cI (aL (decide (0≤gf a b'))) 0)∧Below w.heap.size w w':=by
 obtain⟨b,off,rfl,hb,hv,hu⟩:=h.two;go_enter Tryz.func117,Tryz.ntmps117;go_wp2_with fail;have hB:=ae.then (aa w (.cells #[.int .u8 x.op,.int .u8 x.v.k,.int .i64 x.v.n,.string x.v.s,.string x.name,.int .i64 x.width,.slice x.A x.n x.c] 34)) (aa _ (.cells #[.int .u8 0,.int .i64 0,.string ⟨#[]⟩] 26))
 have hR:=ag.new (w.alloc (.cells #[.int .u8 x.op,.int .u8 x.v.k,.int .i64 x.v.n,.string x.v.s,.string x.name,.int .i64 x.width,.slice x.A x.n x.c] 34)) 26 #[.int .u8 0,.int .i64 0,.string ⟨#[]⟩];have hX:=(ag.new w 34 #[.int .u8 x.op,.int .u8 x.v.k,.int .i64 x.v.n,.string x.v.s,.string x.name,.int .i64 x.width,.slice x.A x.n x.c]).alloc (.cells #[.int .u8 0,.int .i64 0,.string ⟨#[]⟩] 26);rw[World.size_alloc] at hR;generalize rU:(w.alloc (.cells #[.int .u8 x.op,.int .u8 x.v.k,.int .i64 x.v.n,.string x.v.s,.string x.name,.int .i64 x.width,.slice x.A x.n x.c] 34)).alloc (.cells #[.int .u8 0,.int .i64 0,.string ⟨#[]⟩] 26)=W at*;clear rU;replace hv:=hv.keep (w':=W) fun o=>hB.cell (p:=⟨b,o,none⟩) hb
 replace hu:=hu.keep (w':=W) fun o=>hB.cell (p:=⟨b,o,none⟩) hb
 have hb2:b < W.heap.size:=Nat.lt_of_lt_of_le hb hB.size;have cV:=fun y:Ext W.heap.size W=>hv.keep (w':=y.w) fun o=>y.cell (p:=⟨b,o,none⟩) hb2
 have cU:=fun y:Ext W.heap.size W=>hu.keep (w':=y.w) fun o=>y.cell (p:=⟨b,o,none⟩) hb2
 unfold eE at cV cU;have oh:ag W q 123 #[.func (.func 94) #[] #[]]:=hq.later hB;have cQ:=fun y:Ext W.heap.size W=>(oh.later y.h).cell 0
 simp only[List.getElem?_toArray,List.getElem?_cons_zero] at cQ;have bo:w.heap.size≤w.heap.size+1:=by omega
 generalize w.heap.size+1=g at*;have kC:=hid (iK a b');generalize hcc:gf a b'=cc at kC;have HC:=hid hcc;clear hcc;refine bD 12 W.heap.size W (Below.refl _ _) (by kernel_rfl) (by kernel_rfl) (by kernel_rfl) (by kernel_rfl) ?_;simp only[List.take_succ_cons,List.take_zero,List.drop_succ_cons,List.drop_zero];repeat (go_big_quiet_step (first
  |(go_at_call 118;exact aT (Nat.le_refl _) (kC.out _))
  |(go_at_call 94;exact di (XM cc _))
  |(go_at_call 80;exact aT (Nat.le_refl _) (jr _ _))))
 refine wpQuiet_nil ?_;rintro W2 ⟨y2,iq⟩;have hW:=y2.h;rw[← iq] at hW;clear iq y2 cV cU cQ;replace hR:=hR.later hW;replace hB:=ae.then hB hW
 generalize hr:aL (decide (0≤cc))=r at*;have HE:Hid ((r,(0:Int))=(aL (decide (0≤gf a b')),0)):=by rw[HC.out,hr];exact rfl
 clear hr;have bK:=ay hR;have dn:=ag.frozen hR;clear hR;go_wp2_with fail;exact bodyPost_ret (v:=.tuple #[.agg #[.int .u8 (r,(0:Int)).1.k,.int .i64 (r,(0:Int)).1.n,.string (r,(0:Int)).1.s],.int .i64 (r,(0:Int)).2]) (by simp[results,Tryz.results117,go_sem,bK]) rfl ⟨by have:=HE.out;injection this with h1 h2;rw[← h1];rfl,((hB.setCell (bo) _).setCell (bo) _).setCell (bo) _⟩
end Go.Proofs.YtfmbcoeallmnnaaGreatDoor
