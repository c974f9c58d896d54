/- Parts of the proof. -/
import Derived.Test.YtfmbcoeallmnnaaGreatDoorD2
namespace Go.Proofs.YtfmbcoeallmnnaaGreatDoor
open Go.Lib (hid)
set_option linter.unusedVariables false
set_option linter.unusedSimpArgs false
structure Sp where
 a:Int
 b:Int
def cC (s:Sp):Value:=.agg #[.int .i64 s.a,.int .i64 s.b]
def dz:Int:= -4611687117939015680
def bR:Int:=4611687117939015679
def br:Sp:=⟨0,0⟩
def aY:Sp:=⟨dz,bR⟩
def dG (a b:Int):Sp:=if b≤a then br else⟨a,b⟩
def bT (x y:Sp):Sp:=dG (max x.a y.a) (min x.b y.b)
def fD (k:Int):Sp:=dG dz (min k bR)
def lg (k:Int):Sp:=if bR - 1≤k then br else dG (max (k+1) dz) bR
def ey (k:Int):Sp:=dG (max k dz) bR
def jW (k:Int):Sp:=fD (min k (bR - 1)+1)
def jX (op k:Int):Sp:=
 if op=12 then fD k else if op=14 then lg k else if op=15 then ey k else if op=13 then jW k else bT (ey k) (jW k)
def AX (op:Int):Bool:=decide (op=10∨12≤op∧op≤15)
def Jz (x y:Sp):Sp:=if x.b≤x.a then y else if y.b≤y.a then x else⟨min x.a y.a,max x.b y.b⟩
open Go.ChangeShapes Go.WideShapes Go.ChangeAt Go.RowKit
def vq (a b:Int):Val×Int:=eT (wrap64 (a+b)) (decide (a < wrap64 (a+b))==decide (0 < b))
def vr (a b:Int):Val×Int:=eT (wrap64 (a - b)) (decide (wrap64 (a - b)< a)==decide (0 < b))
def vt (a b:Int):Val×Int:=eT (wrap64 (a*b)) (a==0 ||(wrap64 (Int.tdiv (wrap64 (a*b)) a)==b &&(a != -1 || b != -9223372036854775808)))
def JA (a b:Int):Val×Int:=eT (wrap64 (Int.tdiv a b)) (a != -9223372036854775808 || b != -1)
def JB (a b:Int):Val×Int:=eT (Int.tmod a b) true
def Mo (a:Int):Val×Int:=eT (wrap64 (-a)) (a != -9223372036854775808)
set_option maxHeartbeats 2000000
theorem Ql (a b:Int)(w:World):Calls Tryz.prog 82 #[.int .i64 a,.int .i64 b] w fun e w'=>e=.returned (cI (vq a b).1 (vq a b).2)∧Below w.heap.size w w':=by
 go_enter Tryz.func82,Tryz.ntmps82;go_wp2_with fail;all_goals
  refine(iE _ _ _).mono ?_;rintro e w' ⟨rfl,b1⟩;generalize hr:eT _ _=r;have he:vq a b=r:=by rw[← hr];unfold vq;first |(simp_all;done)|(congr 1;rw[Bool.eq_iff_iff];simp_all;done)|(congr 1;simp_all;done)
  have HE:=hid he;clear he hr;unfold cI;have hR:=(ag.new w 26 #[.int .u8 0,.int .i64 0,.string ⟨#[]⟩]).later b1;have hB:=ae.then (aa w (.cells #[.int .u8 0,.int .i64 0,.string ⟨#[]⟩] 26)) b1
  clear b1;have bK:=ay hR;have dn:=ag.frozen hR;clear hR;go_wp2_with fail;exact bodyPost_ret (v:=.tuple #[.agg #[.int .u8 r.1.k,.int .i64 r.1.n,.string r.1.s],.int .i64 r.2]) (by simp[results,Tryz.results82,go_sem,bK]) rfl ⟨by rw[HE.out];rfl,((hB.setCell (Nat.le_refl _) _).setCell (Nat.le_refl _) _).setCell (Nat.le_refl _) _⟩
theorem Qm (a b:Int)(w:World):Calls Tryz.prog 83 #[.int .i64 a,.int .i64 b] w fun e w'=>e=.returned (cI (vr a b).1 (vr a b).2)∧Below w.heap.size w w':=by
 go_enter Tryz.func83,Tryz.ntmps83;go_wp2_with fail;all_goals
  refine(iE _ _ _).mono ?_;rintro e w' ⟨rfl,b1⟩;generalize hr:eT _ _=r;have he:vr a b=r:=by rw[← hr];unfold vr;first |(simp_all;done)|(congr 1;rw[Bool.eq_iff_iff];simp_all;done)|(congr 1;simp_all;done)
  have HE:=hid he;clear he hr;unfold cI;have hR:=(ag.new w 26 #[.int .u8 0,.int .i64 0,.string ⟨#[]⟩]).later b1;have hB:=ae.then (aa w (.cells #[.int .u8 0,.int .i64 0,.string ⟨#[]⟩] 26)) b1
  clear b1;have bK:=ay hR;have dn:=ag.frozen hR;clear hR;go_wp2_with fail;exact bodyPost_ret (v:=.tuple #[.agg #[.int .u8 r.1.k,.int .i64 r.1.n,.string r.1.s],.int .i64 r.2]) (by simp[results,Tryz.results83,go_sem,bK]) rfl ⟨by rw[HE.out];rfl,((hB.setCell (Nat.le_refl _) _).setCell (Nat.le_refl _) _).setCell (Nat.le_refl _) _⟩
theorem JC (a b:Int)(w:World):Calls Tryz.prog 84 #[.int .i64 a,.int .i64 b] w fun e w'=>e=.returned (cI (vt a b).1 (vt a b).2)∧Below w.heap.size w w':=by
 go_enter Tryz.func84,Tryz.ntmps84;go_wp2_with fail;all_goals
  refine(iE _ _ _).mono ?_;rintro e w' ⟨rfl,b1⟩;generalize hr:eT _ _=r;have he:vt a b=r:=by rw[← hr];unfold vt;first |(simp_all;done)|(congr 1;rw[Bool.eq_iff_iff];simp_all;done)|(congr 1;simp_all;done)
  have HE:=hid he;clear he hr;unfold cI;have hR:=(ag.new w 26 #[.int .u8 0,.int .i64 0,.string ⟨#[]⟩]).later b1;have hB:=ae.then (aa w (.cells #[.int .u8 0,.int .i64 0,.string ⟨#[]⟩] 26)) b1
  clear b1;have bK:=ay hR;have dn:=ag.frozen hR;clear hR;go_wp2_with fail;exact bodyPost_ret (v:=.tuple #[.agg #[.int .u8 r.1.k,.int .i64 r.1.n,.string r.1.s],.int .i64 r.2]) (by simp[results,Tryz.results84,go_sem,bK]) rfl ⟨by rw[HE.out];rfl,((hB.setCell (Nat.le_refl _) _).setCell (Nat.le_refl _) _).setCell (Nat.le_refl _) _⟩
theorem Qn (a b:Int)(hb:b≠0)(w:World):Calls Tryz.prog 86 #[.int .i64 a,.int .i64 b] w fun e w'=>e=.returned (cI (JA a b).1 (JA a b).2)∧Below w.heap.size w w':=by
 go_enter Tryz.func86,Tryz.ntmps86;go_wp2_with fail;all_goals
  refine(iE _ _ _).mono ?_;rintro e w' ⟨rfl,b1⟩;generalize hr:eT _ _=r;have he:JA a b=r:=by rw[← hr];unfold JA;first |(simp_all;done)|(congr 1;rw[Bool.eq_iff_iff];simp_all;done)|(congr 1;simp_all;done)
  have HE:=hid he;clear he hr;unfold cI;have hR:=(ag.new w 26 #[.int .u8 0,.int .i64 0,.string ⟨#[]⟩]).later b1;have hB:=ae.then (aa w (.cells #[.int .u8 0,.int .i64 0,.string ⟨#[]⟩] 26)) b1
  clear b1;have bK:=ay hR;have dn:=ag.frozen hR;clear hR;go_wp2_with fail;exact bodyPost_ret (v:=.tuple #[.agg #[.int .u8 r.1.k,.int .i64 r.1.n,.string r.1.s],.int .i64 r.2]) (by simp[results,Tryz.results86,go_sem,bK]) rfl ⟨by rw[HE.out];rfl,((hB.setCell (Nat.le_refl _) _).setCell (Nat.le_refl _) _).setCell (Nat.le_refl _) _⟩
theorem Qo (a b:Int)(hb:b≠0)(w:World):Calls Tryz.prog 87 #[.int .i64 a,.int .i64 b] w fun e w'=>e=.returned (cI (JB a b).1 (JB a b).2)∧Below w.heap.size w w':=by
 go_enter Tryz.func87,Tryz.ntmps87;go_wp2_with fail;all_goals
  refine(iE _ _ _).mono ?_;rintro e w' ⟨rfl,b1⟩;generalize hr:eT _ _=r;have he:JB a b=r:=by rw[← hr];unfold JB;first |(simp_all;done)|(congr 1;rw[Bool.eq_iff_iff];simp_all;done)|(congr 1;simp_all;done)
  have HE:=hid he;clear he hr;unfold cI;have hR:=(ag.new w 26 #[.int .u8 0,.int .i64 0,.string ⟨#[]⟩]).later b1;have hB:=ae.then (aa w (.cells #[.int .u8 0,.int .i64 0,.string ⟨#[]⟩] 26)) b1
  clear b1;have bK:=ay hR;have dn:=ag.frozen hR;clear hR;go_wp2_with fail;exact bodyPost_ret (v:=.tuple #[.agg #[.int .u8 r.1.k,.int .i64 r.1.n,.string r.1.s],.int .i64 r.2]) (by simp[results,Tryz.results87,go_sem,bK]) rfl ⟨by rw[HE.out];rfl,((hB.setCell (Nat.le_refl _) _).setCell (Nat.le_refl _) _).setCell (Nat.le_refl _) _⟩
theorem XJ (c:Int)(w:World):Calls Tryz.prog 89 #[.int .i64 c] w fun e w'=>e=.returned (.bool (decide (c=0)))∧w=w':=by
 go_enter Tryz.func89,Tryz.ntmps89;go_wp2_with fail;all_goals
  go_ret;refine⟨?_,rfl⟩;try simp_all
  try rfl
theorem XK (c:Int)(w:World):Calls Tryz.prog 90 #[.int .i64 c] w fun e w'=>e=.returned (.bool (!decide (c=0)))∧w=w':=by
 go_enter Tryz.func90,Tryz.ntmps90;go_wp2_with fail;all_goals
  go_ret;refine⟨?_,rfl⟩;try simp_all
  try rfl
theorem is_lt (c:Int)(w:World):Calls Tryz.prog 91 #[.int .i64 c] w fun e w'=>e=.returned (.bool (decide (c < 0)))∧w=w':=by
 go_enter Tryz.func91,Tryz.ntmps91;go_wp2_with fail;all_goals
  go_ret;refine⟨?_,rfl⟩;try simp_all
  try rfl
theorem is_le (c:Int)(w:World):Calls Tryz.prog 92 #[.int .i64 c] w fun e w'=>e=.returned (.bool (decide (c≤0)))∧w=w':=by
 go_enter Tryz.func92,Tryz.ntmps92;go_wp2_with fail;all_goals
  go_ret;refine⟨?_,rfl⟩;try simp_all
  try rfl
theorem XL (c:Int)(w:World):Calls Tryz.prog 93 #[.int .i64 c] w fun e w'=>e=.returned (.bool (decide (0 < c)))∧w=w':=by
 go_enter Tryz.func93,Tryz.ntmps93;go_wp2_with fail;all_goals
  go_ret;refine⟨?_,rfl⟩;try simp_all
  try rfl
theorem XM (c:Int)(w:World):Calls Tryz.prog 94 #[.int .i64 c] w fun e w'=>e=.returned (.bool (decide (0≤c)))∧w=w':=by
 go_enter Tryz.func94,Tryz.ntmps94;go_wp2_with fail;all_goals
  go_ret;refine⟨?_,rfl⟩;try simp_all
  try rfl
structure Ex where
 op:Int
 v:Val
 name:ByteArray
 width:Int
 A:Option Addr
 n:Nat
 c:Nat
def eE (w:World)(b off:Nat)(x:Val):Prop:=
 w.cell? ⟨b,off,none⟩=some (.int .u8 x.k)∧w.cell? ⟨b,off+1,none⟩=some (.int .i64 x.n)∧w.cell? ⟨b,off+2,none⟩=some (.string x.s)
def RV (w:World)(B:Nat)(A:Option Addr)(l:List Val):Prop:=
 l=[]∨∃b off,A=some ⟨b,off,none⟩∧b < B∧∀i x,l[i]?=some x→eE w b (off+i*3) x
theorem eE.keep {w w':World} {b off:Nat} {x:Val}(h:eE w b off x)(hk:∀o,w'.cell? ⟨b,o,none⟩=w.cell? ⟨b,o,none⟩):eE w' b off x:=by unfold eE at*;simp only[hk];exact h
theorem RV.below {w w':World} {B:Nat} {A:Option Addr} {l:List Val}(h:RV w B A l)(hb:Below B w w'):RV w' B A l:=by
 rcases h with h |⟨b,off,h1,h2,h3⟩
 ·exact .inl h
 ·exact .inr ⟨b,off,h1,h2,fun i x hx=>(h3 i x hx).keep fun o=>hb.cell (p:=⟨b,o,none⟩) h2⟩
theorem RV.more {w:World} {B B':Nat} {A:Option Addr} {l:List Val}(h:RV w B A l)(hB:B≤B'):RV w B' A l:=by
 rcases h with h |⟨b,off,h1,h2,h3⟩
 ·exact .inl h
 ·exact .inr ⟨b,off,h1,by omega,h3⟩
theorem RV.at_ {w:World} {B:Nat} {A:Option Addr} {l:List Val}(h:RV w B A l) {k:Nat}(hk:k < l.length):∃b off,A=some ⟨b,off,none⟩∧b < B∧eE w b (off+k*3) l[k]:=by
 rcases h with h |⟨b,off,h1,h2,h3⟩
 ·subst h;simp at hk
 ·exact⟨b,off,h1,h2,h3 k _ (List.getElem?_eq_getElem hk)⟩
theorem RV.one {w:World} {B:Nat} {A:Option Addr} {x:Val}(h:RV w B A [x]):∃b off,A=some ⟨b,off,none⟩∧b < B∧eE w b off x:=by obtain⟨b,off,h1,h2,h3⟩:=h.at_ (k:=0) (by simp);exact⟨b,off,h1,h2,by simpa using h3⟩
theorem RV.two {w:World} {B:Nat} {A:Option Addr} {x y:Val}(h:RV w B A [x,y]):∃b off,A=some ⟨b,off,none⟩∧b < B∧eE w b off x∧eE w b (off+3) y:=by
 rcases h with h |⟨b,off,h1,h2,h3⟩
 ·simp at h
 ·exact⟨b,off,h1,h2,by simpa using h3 0 x rfl,by simpa using h3 1 y rfl⟩
theorem Fu (n:Int)(ok:Bool)(w:World):Calls Tryz.prog 78 #[.int .i64 n,.bool ok] w fun e w'=>e=.returned (.tuple #[.agg #[.int .u8 (eT n ok).1.k,.int .i64 (eT n ok).1.n,.string (eT n ok).1.s],.int .i64 (eT n ok).2])∧Below w.heap.size w w':=iE n ok w
theorem jr (b:Bool)(w:World):Calls Tryz.prog 80 #[.bool b] w fun e w'=>e=.returned (.tuple #[.agg #[.int .u8 (aL b).k,.int .i64 (aL b).n,.string (aL b).s],.int .i64 0])∧Below w.heap.size w w':=pJ b w
set_option maxRecDepth 100000
theorem Qp (x:Ex)(A:Option Addr)(c:Nat)(a:Val)(w:World)(h:RV w w.heap.size A [a]):Calls Tryz.prog 77 #[.agg #[.int .u8 x.op,.int .u8 x.v.k,.int .i64 x.v.n,.string x.v.s,.string x.name,.int .i64 x.width,.slice x.A x.n x.c],.slice A 1 c] w fun e w'=>e=.returned (cI (Mo a.n).1 (Mo a.n).2)∧Below w.heap.size w w':=by
 obtain⟨b,off,rfl,hb,hv⟩:=h.one;go_enter Tryz.func77,Tryz.ntmps77;go_wp2_with fail;have hB:=ae.then (aa w (.cells #[.int .u8 x.op,.int .u8 x.v.k,.int .i64 x.v.n,.string x.v.s,.string x.name,.int .i64 x.width,.slice x.A x.n x.c] 34)) (aa _ (.cells #[.int .u8 0,.int .i64 0,.string ⟨#[]⟩] 26))
 have hR:=ag.new (w.alloc (.cells #[.int .u8 x.op,.int .u8 x.v.k,.int .i64 x.v.n,.string x.v.s,.string x.name,.int .i64 x.width,.slice x.A x.n x.c] 34)) 26 #[.int .u8 0,.int .i64 0,.string ⟨#[]⟩];have hX:=(ag.new w 34 #[.int .u8 x.op,.int .u8 x.v.k,.int .i64 x.v.n,.string x.v.s,.string x.name,.int .i64 x.width,.slice x.A x.n x.c]).alloc (.cells #[.int .u8 0,.int .i64 0,.string ⟨#[]⟩] 26);rw[World.size_alloc] at hR;generalize rU:(w.alloc (.cells #[.int .u8 x.op,.int .u8 x.v.k,.int .i64 x.v.n,.string x.v.s,.string x.name,.int .i64 x.width,.slice x.A x.n x.c] 34)).alloc (.cells #[.int .u8 0,.int .i64 0,.string ⟨#[]⟩] 26)=W at*;clear rU;replace hv:=hv.keep (w':=W) fun o=>hB.cell (p:=⟨b,o,none⟩) hb
 have hb2:b < W.heap.size:=Nat.lt_of_lt_of_le hb hB.size;have cV:=fun y:Ext W.heap.size W=>hv.keep (w':=y.w) fun o=>y.cell (p:=⟨b,o,none⟩) hb2
 unfold eE at cV;have bo:w.heap.size≤w.heap.size+1:=by omega
 generalize w.heap.size+1=g at*;refine bD 13 W.heap.size W (Below.refl _ _) (by kernel_rfl) (by kernel_rfl) (by kernel_rfl) (by kernel_rfl) ?_;simp only[List.take_succ_cons,List.take_zero,List.drop_succ_cons,List.drop_zero];repeat (go_big_quiet_step (first
  |(go_at_call 78;exact aT (Nat.le_refl _) (Fu _ _ _))))
 refine wpQuiet_nil ?_;rintro W2 ⟨y2,iq⟩;have hW:=y2.h;rw[← iq] at hW;clear iq y2 cV;replace hR:=hR.later hW;replace hB:=ae.then hB hW
 generalize hr:eT _ _=r;have he:Mo a.n=r:=by rw[← hr];unfold Mo;rfl
 have HE:=hid he;clear he hr;have bK:=ay hR;have dn:=ag.frozen hR;clear hR;go_wp2_with fail;exact bodyPost_ret (v:=.tuple #[.agg #[.int .u8 r.1.k,.int .i64 r.1.n,.string r.1.s],.int .i64 r.2]) (by simp[results,Tryz.results77,go_sem,bK]) rfl ⟨by rw[HE.out];rfl,((hB.setCell (bo) _).setCell (bo) _).setCell (bo) _⟩
theorem Qq (x:Ex)(A:Option Addr)(c:Nat)(a:Val)(w:World)(h:RV w w.heap.size A [a]):Calls Tryz.prog 79 #[.agg #[.int .u8 x.op,.int .u8 x.v.k,.int .i64 x.v.n,.string x.v.s,.string x.name,.int .i64 x.width,.slice x.A x.n x.c],.slice A 1 c] w fun e w'=>e=.returned (cI (aL (a.n==0)) 0)∧Below w.heap.size w w':=by
 obtain⟨b,off,rfl,hb,hv⟩:=h.one;have hv':=hv.keep (w':=(w.alloc (.cells #[.int .u8 x.op,.int .u8 x.v.k,.int .i64 x.v.n,.string x.v.s,.string x.name,.int .i64 x.width,.slice x.A x.n x.c] 34)).alloc (.cells #[.int .u8 0,.int .i64 0,.string ⟨#[]⟩] 26)) fun o=>(ae.then (aa w (.cells #[.int .u8 x.op,.int .u8 x.v.k,.int .i64 x.v.n,.string x.v.s,.string x.name,.int .i64 x.width,.slice x.A x.n x.c] 34)) (aa _ (.cells #[.int .u8 0,.int .i64 0,.string ⟨#[]⟩] 26))).cell (p:=⟨b,o,none⟩) hb
 unfold eE at hv';go_enter Tryz.func79,Tryz.ntmps79;go_wp2_with fail;have hB:=ae.then (aa w (.cells #[.int .u8 x.op,.int .u8 x.v.k,.int .i64 x.v.n,.string x.v.s,.string x.name,.int .i64 x.width,.slice x.A x.n x.c] 34)) (aa _ (.cells #[.int .u8 0,.int .i64 0,.string ⟨#[]⟩] 26))
 have hR:=ag.new (w.alloc (.cells #[.int .u8 x.op,.int .u8 x.v.k,.int .i64 x.v.n,.string x.v.s,.string x.name,.int .i64 x.width,.slice x.A x.n x.c] 34)) 26 #[.int .u8 0,.int .i64 0,.string ⟨#[]⟩];have hX:=(ag.new w 34 #[.int .u8 x.op,.int .u8 x.v.k,.int .i64 x.v.n,.string x.v.s,.string x.name,.int .i64 x.width,.slice x.A x.n x.c]).alloc (.cells #[.int .u8 0,.int .i64 0,.string ⟨#[]⟩] 26);rw[World.size_alloc] at hR;generalize rU:(w.alloc (.cells #[.int .u8 x.op,.int .u8 x.v.k,.int .i64 x.v.n,.string x.v.s,.string x.name,.int .i64 x.width,.slice x.A x.n x.c] 34)).alloc (.cells #[.int .u8 0,.int .i64 0,.string ⟨#[]⟩] 26)=W at*;clear rU;have bo:w.heap.size≤w.heap.size+1:=by omega
 generalize w.heap.size+1=g at*;refine(pJ _ _).mono ?_;rintro e w' ⟨rfl,b1⟩;replace hR:=hR.later b1;replace hB:=ae.then hB b1
 clear b1 hv' hv;generalize hr:aL _=r;have he:(r,(0:Int))=(aL (a.n==0),0):=by rw[← hr]
 have HE:=hid he;clear he hr;unfold cI;have bK:=ay hR;have dn:=ag.frozen hR;clear hR;go_wp2_with fail;exact bodyPost_ret (v:=.tuple #[.agg #[.int .u8 (r,(0:Int)).1.k,.int .i64 (r,(0:Int)).1.n,.string (r,(0:Int)).1.s],.int .i64 (r,(0:Int)).2]) (by simp[results,Tryz.results79,go_sem,bK]) rfl ⟨by have:=HE.out;injection this with h1 h2;rw[← h1];rfl,((hB.setCell (bo) _).setCell (bo) _).setCell (bo) _⟩
theorem HJ (a:Int)(g:Nat)(w:World):Calls Tryz.prog 116 #[.int .i64 a,.int .i64 0,.pointer (some ⟨g,0,none⟩)] w fun e w'=>e=.returned (cI ah 44)∧Below w.heap.size w w':=by go_enter Tryz.func116,Tryz.ntmps116;go_wp2_with fail;exact bodyPost_ret (v:=.tuple #[.agg #[.int .u8 0,.int .i64 0,.string ByteArray.empty],.int .i64 44]) (by simp[results,Tryz.results116,go_sem];try rfl) rfl ⟨rfl,by go_grown⟩
theorem Mp (a b:Int)(hb:b≠0)(g k:Nat)(r:Val×Int)(w:World)(hg:ag w g 121 #[.func (.func k) #[] #[]])(he:∀args w,(callFunc k args).run Tryz.prog w=.ok (.enter k args) w)
  (hk:∀w,Calls Tryz.prog k #[.int .i64 a,.int .i64 b] w fun e w'=>e=.returned (cI r.1 r.2)∧Below w.heap.size w w'):Calls Tryz.prog 116 #[.int .i64 a,.int .i64 b,.pointer (some ⟨g,0,none⟩)] w fun e w'=>e=.returned (cI r.1 r.2)∧Below w.heap.size w w':=by
 have HK:=hid hk;clear hk;have e1:(b==0)=false:=by simpa using hb
 have cG:=(hg.alloc (.cells #[.int .u8 0,.int .i64 0,.string ⟨#[]⟩] 26)).cell 0;simp only[List.getElem?_toArray,List.getElem?_cons_zero] at cG;go_enter Tryz.func116,Tryz.ntmps116;go_wp2_with fail;refine(HK.out _).mono ?_;rintro e w' ⟨rfl,b1⟩;unfold cI;have hR:=(ag.new w 26 #[.int .u8 0,.int .i64 0,.string ⟨#[]⟩]).later b1;have hB:=ae.then (aa w (.cells #[.int .u8 0,.int .i64 0,.string ⟨#[]⟩] 26)) b1
 clear b1 cG;have bK:=ay hR;have dn:=ag.frozen hR;clear hR;go_wp2_with fail;exact bodyPost_ret (v:=.tuple #[.agg #[.int .u8 r.1.k,.int .i64 r.1.n,.string r.1.s],.int .i64 r.2]) (by simp[results,Tryz.results116,go_sem,bK]) rfl ⟨rfl,((hB.setCell (Nat.le_refl _) _).setCell (Nat.le_refl _) _).setCell (Nat.le_refl _) _⟩
end Go.Proofs.YtfmbcoeallmnnaaGreatDoor
