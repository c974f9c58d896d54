/- Parts of the proof. -/
import Derived.Test.YtfmbcoeallmnnaaGreatDoorC7
import Derived.Test.YtfmbcoeallmnnaaGreatDoorC8
namespace Go.Proofs.YtfmbcoeallmnnaaGreatDoor
open Go.Lib (hid)
open Go.ChangeShapes Go.WideShapes Go.ChangeAt Go.RowKit
set_option linter.unusedVariables false
set_option linter.unusedSimpArgs false
set_option maxHeartbeats 2000000
theorem FU (v:Val)(w:World):Calls Tryz.prog 99 #[.agg #[.int .u8 v.k,.int .i64 v.n,.string v.s]] w fun e w'=>e=.returned (.bool (good v))∧Below w.heap.size w w':=by
 obtain⟨k,n,s⟩:=v;unfold good pS;dsimp only;by_cases h0:k=0
 ·subst h0;cases hn:(n==0)
  ·go_enter Tryz.func99,Tryz.ntmps99;go_wp2_with fail;go_ret;refine⟨?_,by go_grown⟩;simp_all
  ·go_enter Tryz.func99,Tryz.ntmps99;go_wp2_with fail;go_ret;refine⟨?_,by go_grown⟩;simp_all
 ·have e0:(k==0)=false:=by simpa using h0
  by_cases h1:k=1
  ·subst h1;cases hn:(n==0)
   ·cases uN:(n==1)
    ·go_enter Tryz.func99,Tryz.ntmps99;go_wp2_with fail;go_ret;refine⟨?_,by go_grown⟩;simp_all
    ·go_enter Tryz.func99,Tryz.ntmps99;go_wp2_with fail;go_ret;refine⟨?_,by go_grown⟩;simp_all
   ·go_enter Tryz.func99,Tryz.ntmps99;go_wp2_with fail;go_ret;refine⟨?_,by go_grown⟩;simp_all
  ·have e1:(k==1)=false:=by simpa using h1
   by_cases h2:k=2
   ·subst h2;go_enter Tryz.func99,Tryz.ntmps99;go_wp2_with fail;go_ret;refine⟨?_,by go_grown⟩;simp_all
   ·have e2:(k==2)=false:=by simpa using h2
    by_cases h3:k=3
    ·subst h3;go_enter Tryz.func99,Tryz.ntmps99;go_wp2_with fail;go_ret;refine⟨?_,by go_grown⟩;simp_all
    ·have e3:(k==3)=false:=by simpa using h3
     go_enter Tryz.func99,Tryz.ntmps99;go_wp2_with fail;go_ret;refine⟨?_,by go_grown⟩;simp_all
def kG (x:Ex):Bool:=((x.n:Int)==cE x.op)&&((!(x.op==1)|| good x.v)&&(!(x.op==20)|| decide (1≤x.width∧x.width≤1099511627776)))
set_option maxHeartbeats 4000000
set_option maxRecDepth 100000
theorem FV (x:Ex)(h0:0≤x.op)(h1:x.op≤255)(w:World):Calls Tryz.prog 57 #[.agg #[.int .u8 x.op,.int .u8 x.v.k,.int .i64 x.v.n,.string x.v.s,.string x.name,.int .i64 x.width,.slice x.A x.n x.c]] w fun e w'=>e=.returned (.bool (kG x))∧Below w.heap.size w w':=by
 go_enter Tryz.func57,Tryz.ntmps57;have hX:=ah.new w 34 #[.int .u8 x.op,.int .u8 x.v.k,.int .i64 x.v.n,.string x.v.s,.string x.name,.int .i64 x.width,.slice x.A x.n x.c];have hB:=aa w (.cells #[.int .u8 x.op,.int .u8 x.v.k,.int .i64 x.v.n,.string x.v.s,.string x.name,.int .i64 x.width,.slice x.A x.n x.c] 34);go_wp2_with fail;generalize w.alloc (.cells #[.int .u8 x.op,.int .u8 x.v.k,.int .i64 x.v.n,.string x.v.s,.string x.name,.int .i64 x.width,.slice x.A x.n x.c] 34)=W at*;have x0:=fun z:Ext W.heap.size W=>(hX.later z.h).cell 0
 have x1:=fun z:Ext W.heap.size W=>(hX.later z.h).cell 1
 have x2:=fun z:Ext W.heap.size W=>(hX.later z.h).cell 2
 have x3:=fun z:Ext W.heap.size W=>(hX.later z.h).cell 3
 have x4:=fun z:Ext W.heap.size W=>(hX.later z.h).cell 4
 have x5:=fun z:Ext W.heap.size W=>(hX.later z.h).cell 5
 have x6:=fun z:Ext W.heap.size W=>(hX.later z.h).cell 6
 simp only[List.getElem?_toArray,List.getElem?_cons_zero,List.getElem?_cons_succ] at x0 x1 x2 x3 x4 x5 x6;have mb:=fun z:Ext W.heap.size W=>FT x.op h0 h1 z.w
 cases hn:((x.n:Int)==cE x.op)
 ·refine cZ 27 W.heap.size W (Below.refl _ _) (by kernel_rfl) (by kernel_rfl) (by kernel_rfl) (by kernel_rfl) ?_;simp only[List.take_succ_cons,List.take_zero,List.drop_succ_cons,List.drop_zero];repeat (go_big_quiet_step (fail))
  go_big_quiet_step ((go_at_call 98;exact dD (mb _)));repeat (go_big_quiet_step (fail))
  refine wpQuiet_nil ?_;rintro V4 ⟨x9,xq⟩;have hW:=x9.h;rw[← xq] at hW;clear xq x9;go_wp2_with fail;go_ret;refine⟨?_,ae.then hB hW⟩;rw[show kG x=false by unfold kG;rw[hn];rfl];rfl
 ·by_cases e1:x.op=1
  ·have t1:(x.op != 1)=false:=by simpa using e1
   have t2:(x.op != 20)=true:=by simp;omega
   have t3:(x.op==1)=true:=by simpa using e1
   have t4:(x.op==20)=false:=by simp;omega
   clear e1;have hgd:=fun z:Ext W.heap.size W=>FU x.v z.w
   cases hg:good x.v
   ·rw[hg] at hgd;refine cZ 27 W.heap.size W (Below.refl _ _) (by kernel_rfl) (by kernel_rfl) (by kernel_rfl) (by kernel_rfl) ?_;simp only[List.take_succ_cons,List.take_zero,List.drop_succ_cons,List.drop_zero];repeat (go_big_quiet_step (fail))
    go_big_quiet_step ((go_at_call 98;exact dD (mb _)));repeat (go_big_quiet_step (fail))
    go_big_quiet_step ((go_at_call 99;exact dP (Nat.le_refl _) (hgd _)));repeat (go_big_quiet_step (fail))
    refine wpQuiet_nil ?_;rintro V4 ⟨x9,xq⟩;have hW:=x9.h;rw[← xq] at hW;clear xq x9;go_wp2_with fail;go_ret;refine⟨?_,ae.then hB hW⟩;rw[show kG x=false by unfold kG;rw[hn,t3,t4,hg];rfl];rfl
   ·rw[hg] at hgd;refine cZ 27 W.heap.size W (Below.refl _ _) (by kernel_rfl) (by kernel_rfl) (by kernel_rfl) (by kernel_rfl) ?_;simp only[List.take_succ_cons,List.take_zero,List.drop_succ_cons,List.drop_zero];repeat (go_big_quiet_step (fail))
    go_big_quiet_step ((go_at_call 98;exact dD (mb _)));repeat (go_big_quiet_step (fail))
    go_big_quiet_step ((go_at_call 99;exact dP (Nat.le_refl _) (hgd _)));repeat (go_big_quiet_step (fail))
    refine wpQuiet_nil ?_;rintro V4 ⟨x9,xq⟩;have hW:=x9.h;rw[← xq] at hW;clear xq x9;go_wp2_with fail;go_ret;refine⟨?_,ae.then hB hW⟩;rw[show kG x=true by unfold kG;rw[hn,t3,t4,hg];rfl];rfl
  ·have t1:(x.op != 1)=true:=by simpa using e1
   have t3:(x.op==1)=false:=by simpa using e1
   clear e1;by_cases e2:x.op=20
   ·have t2:(x.op != 20)=false:=by simpa using e2
    have t4:(x.op==20)=true:=by simpa using e2
    clear e2;have hwd:=fun z:Ext W.heap.size W=>CH x.width z.w
    cases hg:decide (1≤x.width∧x.width≤1099511627776)
    ·rw[hg] at hwd;refine cZ 27 W.heap.size W (Below.refl _ _) (by kernel_rfl) (by kernel_rfl) (by kernel_rfl) (by kernel_rfl) ?_;simp only[List.take_succ_cons,List.take_zero,List.drop_succ_cons,List.drop_zero];repeat (go_big_quiet_step (fail))
     go_big_quiet_step ((go_at_call 98;exact dD (mb _)));repeat (go_big_quiet_step (fail))
     go_big_quiet_step ((go_at_call 100;exact dD (hwd _)));repeat (go_big_quiet_step (fail))
     refine wpQuiet_nil ?_;rintro V4 ⟨x9,xq⟩;have hW:=x9.h;rw[← xq] at hW;clear xq x9;go_wp2_with fail;go_ret;refine⟨?_,ae.then hB hW⟩;rw[show kG x=false by unfold kG;rw[hn,t3,t4,hg];rfl];rfl
    ·rw[hg] at hwd;refine cZ 27 W.heap.size W (Below.refl _ _) (by kernel_rfl) (by kernel_rfl) (by kernel_rfl) (by kernel_rfl) ?_;simp only[List.take_succ_cons,List.take_zero,List.drop_succ_cons,List.drop_zero];repeat (go_big_quiet_step (fail))
     go_big_quiet_step ((go_at_call 98;exact dD (mb _)));repeat (go_big_quiet_step (fail))
     go_big_quiet_step ((go_at_call 100;exact dD (hwd _)));repeat (go_big_quiet_step (fail))
     refine wpQuiet_nil ?_;rintro V4 ⟨x9,xq⟩;have hW:=x9.h;rw[← xq] at hW;clear xq x9;go_wp2_with fail;go_ret;refine⟨?_,ae.then hB hW⟩;rw[show kG x=true by unfold kG;rw[hn,t3,t4,hg];rfl];rfl
   ·have t2:(x.op != 20)=true:=by simpa using e2
    have t4:(x.op==20)=false:=by simpa using e2
    clear e2;refine cZ 27 W.heap.size W (Below.refl _ _) (by kernel_rfl) (by kernel_rfl) (by kernel_rfl) (by kernel_rfl) ?_;simp only[List.take_succ_cons,List.take_zero,List.drop_succ_cons,List.drop_zero];repeat (go_big_quiet_step (fail))
    go_big_quiet_step ((go_at_call 98;exact dD (mb _)));repeat (go_big_quiet_step (fail))
    refine wpQuiet_nil ?_;rintro V4 ⟨x9,xq⟩;have hW:=x9.h;rw[← xq] at hW;clear xq x9;go_wp2_with fail;go_ret;refine⟨?_,ae.then hB hW⟩;rw[show kG x=true by unfold kG;rw[hn,t3,t4];rfl];rfl
def rQ (w:World)(y:Ex)(b:Bool):Prop:=∀W,Below w.heap.size w W→Calls Tryz.prog 33 #[.agg #[.int .u8 y.op,.int .u8 y.v.k,.int .i64 y.v.n,.string y.v.s,.string y.name,.int .i64 y.width,.slice y.A y.n y.c]] W fun e w'=>e=.returned (.bool b)∧Below W.heap.size W w'
theorem Mt (op:Int)(h:0≤op∧op≤255):qP op=(bV op==2 || isAgg op):=by
 unfold qP bV isAgg gL lN fD;have hc:(op=0∨op=1∨op=2)∨op=3∨op=4∨(5≤op∧op≤9)∨(10≤op∧op≤15)∨op=16∨op=17∨op=18∨op=19∨op=20∨op=21∨(22≤op∧op≤26)∨op=27∨op=28∨29≤op:=by omega
 rw[Bool.eq_iff_iff];simp only[Bool.or_eq_true,Bool.and_eq_true,beq_iff_eq,decide_eq_true_eq];constructor
 ·intro hh;rcases hh with ⟨h1,h2⟩| h1
  ·left;split at h2
   ·omega
   ·repeat (first | omega | rfl | split)
  ·right;split at h1
   ·omega
   ·split at h1
    ·omega
    ·split at h1 <;> omega
 ·intro hh;rcases hh with h1 | h1
  ·left;refine⟨?_,?_⟩
   ·split at h1
    ·omega
    ·split at h1 <;> omega
   ·split at h1
    ·omega
    ·split at h1
     ·repeat (first | omega | rfl | split)
     ·omega
  ·right;repeat (first | omega | split)
theorem yH (op:Int)(hop:0≤op∧op≤255)(v:Val)(name:ByteArray)(width:Int)(A:Option Addr)(c:Nat)(args:List (Ex×Bool))(w:World)(hl:args.length≤1599289640356)(hA:RE w w.heap.size A (args.map (·.1)))(hE:∀a∈args,rQ w a.1 a.2):
  Calls Tryz.prog 33 #[.agg #[.int .u8 op,.int .u8 v.k,.int .i64 v.n,.string v.s,.string name,.int .i64 width,.slice A args.length c]] w fun e w'=>e=.returned (.bool (!(bV op==2 || isAgg op)&& lQ args))∧Below w.heap.size w w':=by
 have HA:=hid hA;have HE:=hid hE;clear hA hE;go_enter Tryz.func33,Tryz.ntmps33;have hX:=ah.new w 34 #[.int .u8 op,.int .u8 v.k,.int .i64 v.n,.string v.s,.string name,.int .i64 width,.slice A args.length c];have hB:=aa w (.cells #[.int .u8 op,.int .u8 v.k,.int .i64 v.n,.string v.s,.string name,.int .i64 width,.slice A args.length c] 34);have x0:=hX.cell 0;have x1:=hX.cell 1;have x2:=hX.cell 2;have x3:=hX.cell 3;have x4:=hX.cell 4;have x5:=hX.cell 5;have x6:=hX.cell 6;simp only[List.getElem?_toArray,List.getElem?_cons_zero,List.getElem?_cons_succ] at x0 x1 x2 x3 x4 x5 x6;go_wp2_with fail;refine(CG op hop.1 hop.2 _).mono ?_;rintro e w1 ⟨rfl,rfl⟩;cases hw:(bV op==2)
 ·go_wp2_with fail;refine(bM op hop.1 hop.2 _).mono ?_;rintro e w1 ⟨rfl,rfl⟩;cases ha:isAgg op
  ·go_wp2_with fail;have PW:=hid hw;have I1:=hid ha;clear x0 x1 x2 x3 x4 x5 x6 hw ha;generalize w.alloc (.cells #[.int .u8 op,.int .u8 v.k,.int .i64 v.n,.string v.s,.string name,.int .i64 width,.slice A args.length c] 34)=W at*;go_loopw [3] (fun i wr=>∃k:Nat,k≤args.length∧i=.int .i64 k∧lQ args=lQ (args.drop k)∧Below W.heap.size W wr) (fun i _=>args.length - (intOf i).toNat);case atStart=>exact⟨0,Nat.zero_le _,rfl,rfl,Below.refl _ _⟩
   case round=>
    obtain⟨k,hk,rfl,hp,hb⟩:=hrel;have HP:=hid hp;clear hp;have x6:=(hX.later hb).cell 6;simp only[List.getElem?_toArray,List.getElem?_cons_zero,List.getElem?_cons_succ] at x6;by_cases hlt:k < args.length
    ·obtain⟨b,off,rfl,FM,hex⟩:=(HA.out.below (ae.then hB hb)).at_ (show k <(args.map (·.1)).length by simpa using hlt);have pD:(args.map (·.1))[k]'(by simpa using hlt)=args[k].1:=by simp
     rw[pD] at hex;clear pD;have mF:=HE.out args[k] (List.getElem_mem hlt);have HD:=hid (show args.drop k=args[k]::args.drop (k+1)from List.drop_eq_getElem_cons hlt);generalize args[k]=yb at*;obtain⟨y,sb⟩:=yb;dsimp only at*;unfold bp at hex;go_wp2_with fail;refine(mF _ (ae.then hB hb)).mono ?_;rintro e w2 ⟨rfl,b2⟩;have hb1:=ae.then hb b2
     clear hex mF b2 x6;cases sb
     ·go_wp2_with fail;go_ret;refine⟨?_,ae.then hB hb1⟩;rw[HP.out,HD.out];simp[lQ]
     ·go_wp2_with fail;go_roundw;case rel=>refine⟨k+1,hlt,by go_num,?_,hb1⟩;rw[HP.out,HD.out];simp[lQ]
      case measure=>simp[intOf];omega
    ·go_wp2_with fail;go_ret;refine⟨?_,ae.then hB hb⟩;rw[HP.out,List.drop_eq_nil_of_le (by omega),PW.out,I1.out];rfl
  ·go_wp2_with fail;go_ret;exact⟨by rw[ha];simp,hB⟩
 ·go_wp2_with fail;go_ret;exact⟨by rw[hw];simp,hB⟩
mutual
theorem Tr.uO:∀(t:Tr) (y:Ex) (w:World),t.ok→t.at_ w (Old w) y→rQ w y t.safe
 | .mk op v name width args,y,w,aS,hat=>by
   intro W hb;have jY:=hat.later hb;unfold Tr.at_ at jY;obtain⟨h1,h2,h3,h4,h5,ys,h6,h7⟩:=jY;unfold Tr.ok at aS;obtain⟨l,dG,hl2,wP⟩:=Tr.sZ args ys W aS.2.2.2.2.2 h7;obtain⟨lO,yv,ft,dL,yA,yn,yc⟩:=y;dsimp only at h1 h2 h3 h4 h5 h6;subst h1 h2 h3 h4 h5;have hlen:l.length=args.length:=by
    have:(l.map (·.1)).length=ys.length:=by rw[dG]
    rw[List.length_map,h7.length] at this;exact this
   have k:=yH lO aS.2.2.1 yv ft dL yA yc l W (by rw[hlen];exact aS.2.1) (by rw[dG];exact h6.old) wP;rw[hl2,hlen] at k;unfold Tr.safe;rw[show qP lO=(bV lO==2 || isAgg lO)from Mt lO aS.2.2.1];exact k
theorem Tr.sZ:∀(ts:List Tr) (ys:List Ex) (w:World),Tr.iW ts→Tr.bL w (Old w) ts ys→∃l:List (Ex×Bool),l.map (·.1)=ys∧lQ l=Tr.sY ts∧∀a∈l,rQ w a.1 a.2
 | [],ys,w,_,hat=>by unfold Tr.bL at hat;subst hat;exact⟨[],rfl,by simp[Tr.sY,lQ],by simp⟩
 | t::ts,ys,w,aS,hat=>by
   unfold Tr.bL at hat;unfold Tr.iW at aS;obtain⟨y,ys',rfl,h2,h3⟩:=hat;obtain⟨l,dG,hl2,wP⟩:=Tr.sZ ts ys' w aS.2 h3;refine⟨(y,t.safe)::l,by simp[dG],by simp[hl2,Tr.sY,lQ],fun a ha=>?_⟩;rcases List.mem_cons.1 ha with rfl | ha
   ·exact Tr.uO t y w aS.1 h2
   ·exact wP a ha
end
theorem Ak:Tryz.prog.cellsOf 5=1:=by kernel_rfl
theorem rR:Tryz.prog.cellsOf 2=1:=by kernel_rfl
theorem qQ:Tryz.prog.cellsOf 9=1:=by kernel_rfl
theorem th:Tryz.prog.cellsOf 26=3:=by kernel_rfl
theorem Ov {n:Int}(h:(Lit.int .u8 n).wf=true):0≤n∧n≤255:=by simpa [Lit.wf,IntKind.min,IntKind.max,IntKind.signed,IntKind.bits] using h
section
variable {H:Type} {enc:TypeId×Value→H} {w:World} {base:Nat} {spare:Nat→Bool} {held:Bool} {fuel:Nat} {cs:List Value} {x:DataW H×List MemPlace}
theorem Ja {n:Int}(h:(Lit.int .i64 n).wf=true): -9223372036854775808≤n∧n≤9223372036854775807:=by simpa [Lit.wf,IntKind.min,IntKind.max,IntKind.signed,IntKind.bits] using h
theorem Jb (h:DataW.trod enc Tryz.prog w base spare held fuel 26 cs=some x):∃a:Val,cs=[.int .u8 a.k,.int .i64 a.n,.string a.s]∧a.Ok∧0≤a.k∧a.k≤255:=by
 obtain⟨xs,n,_,_,hl,hlen,hf⟩:=DataW.trod_struct Tryz.underlying26 h;rw[th] at hl
 match cs,hl with
 | [c0,c1,c2],_=>
   have get:∀i,i < 3→∃y,xs[i]?=some y:=fun i hi=>⟨xs[i]'(by simp at hlen;omega),List.getElem?_eq_getElem _⟩
   obtain⟨y0,e0⟩:=get 0 (by omega);obtain⟨y1,e1⟩:=get 1 (by omega);obtain⟨y2,e2⟩:=get 2 (by omega);have t0:DataW.trod enc Tryz.prog w base spare held n 5 (([c0,c1,c2].drop 0).take (Tryz.prog.cellsOf 5))=some y0:=(hf 0 _ rfl).trans e0;have t1:DataW.trod enc Tryz.prog w base spare held n 2 (([c0,c1,c2].drop 1).take (Tryz.prog.cellsOf 2))=some y1:=(hf 1 _ rfl).trans e1;have t2:DataW.trod enc Tryz.prog w base spare held n 9 (([c0,c1,c2].drop 2).take (Tryz.prog.cellsOf 9))=some y2:=(hf 2 _ rfl).trans e2;rw[Ak] at t0;rw[rR] at t1;rw[qQ] at t2;simp only[List.drop_succ_cons,List.drop_zero,List.take_succ_cons,List.take_zero] at t0 t1 t2;obtain⟨n0,q0,_,f0⟩:=DataW.trod_int Tryz.underlying5 t0;obtain⟨n1,q1,_,f1⟩:=DataW.trod_int Tryz.underlying2 t1;obtain⟨s,q2,_,f2⟩:=DataW.trod_string Tryz.underlying9 t2;simp at q0 q1 q2;subst q0 q1 q2;exact⟨⟨n0,n1,s⟩,rfl,Ja f1,Ov f0⟩
end
theorem pick {α:Type} {P:Nat→α→Prop}:∀n,(∀i,i < n→∃x,P i x)→∃l:List α,l.length=n∧∀i x,l[i]?=some x→P i x
 | 0,_=>⟨[],rfl,fun i x h=>by simp at h⟩
 | n+1,h=>by
   obtain⟨l,hl,hp⟩:=pick n fun i hi=>h i (by omega)
   obtain⟨y,hy⟩:=h n (by omega);refine⟨l++ [y],by simp[hl],fun i x hx=>?_⟩;rcases Nat.lt_trichotomy i n with hi | hi | hi
   ·rw[List.getElem?_append_left (by omega)] at hx;exact hp i x hx
   ·subst hi;rw[List.getElem?_append_right (by omega),hl] at hx;simp at hx;subst hx;exact hy
   ·rw[List.getElem?_eq_none (by simp;omega)] at hx;cases hx
theorem ji {w:World} {a:Addr} {v:Value}(h:w.cell? a=some v):a.block < w.heap.size∧a.spot=none:=by
 unfold World.cell? at h;split at h
 ·rename_i hb;refine⟨?_,?_⟩
  ·rcases Nat.lt_or_ge a.block w.heap.size with h' | h'
   ·exact h'
   ·rw[Array.getElem?_eq_none h'] at hb;cases hb
  ·split at h
   ·cases h
   ·rename_i hs;simpa using hs
 ·cases h
theorem pZ:Tryz.prog.cellsOf 34=7:=by kernel_rfl
theorem Al:Tryz.prog.cellsOf 22=1:=by kernel_rfl
theorem uP:Tryz.prog.bytesOf 34=88:=by kernel_rfl
def uQ (y:Ex):List Value:=[.int .u8 y.op,.int .u8 y.v.k,.int .i64 y.v.n,.string y.v.s,.string y.name,.int .i64 y.width,.slice y.A y.n y.c]
theorem PY {w:World} {base K:Nat} {a:Addr} {cs:List Value}(h:w.cells? base a K=some cs):cs.length=K∧∀i,i < K→w.cell? (a.add i)=cs[i]?:=by
 unfold World.cells? at h;split at h
 ·exact⟨by simpa using mapM_some_length h,fun i hi=>mapM_some_get h i i (by simp[hi])⟩
 ·cases h
def jT {H:Type}(t:TypeId)(d:DataW H):Prop:=∀n∈d.weights Tryz.prog t,n≤reachBytes
section
variable {H:Type} {enc:TypeId×Value→H} {w:World} {base:Nat} {spare:Nat→Bool} {held:Bool}
theorem xr {e:TypeId}:∀ {l:List (DataW H)},(∀n∈DataW.weightsAll Tryz.prog e l,n≤reachBytes)→∀d∈l,jT e d
 | [],_,d,h=>by cases h
 | x::l,hw,d,h=>by
   unfold DataW.weightsAll at hw;rcases List.mem_cons.1 h with rfl | h
   ·exact fun n hn=>hw n (List.mem_append_left _ hn)
   ·exact xr (fun n hn=>hw n (List.mem_append_right _ hn)) d h
theorem Am {T e:TypeId} {es rs:List (DataW H)}(hT:Tryz.prog.underlying T=some (.slice e))(h:jT T (.slice es rs)):(es.length+rs.length)*Tryz.prog.bytesOf e≤reachBytes∧∀d∈es,jT e d:=by unfold jT at h;unfold DataW.weights at h;rw[hT] at h;dsimp only at h;exact⟨h _ (List.mem_cons_self ..),xr fun n hn=>h n (List.mem_cons_of_mem _ (List.mem_append_left _ hn))⟩
theorem CI {t:TypeId} {fs:Array Field} {ps:List (DataW H)}(ht:Tryz.prog.underlying t=some (.struct fs))(h:jT t (.agg ps)) {j:Nat} {f:Field} {d:DataW H}(hf:fs[j]?=some f)(hd:ps[j]?=some d):jT f.type d:=by unfold jT at h ⊢;unfold DataW.weights at h;rw[ht] at h;dsimp only at h;intro n hn;refine h n (DataW.weights_mem_each (j:=j) ?_ hd n hn);rw[List.getElem?_map,Array.getElem?_toList,hf];rfl
theorem uR {α:Type}(f:α→List Value)(P:α→Prop)(K:Nat) {T e:TypeId}(hT:Tryz.prog.underlying T=some (.slice e))(hc:Tryz.prog.cellsOf e=K)(hK:0 < K)(hf:∀x,(f x).length=K) {fuel:Nat} {cs:List Value} {x:DataW H×List MemPlace}
  (I3:∀m,m < fuel→∀cs x,DataW.trod enc Tryz.prog w base spare held m e cs=some x→jT e x.1→∃a,cs=f a∧P a) (h:DataW.trod enc Tryz.prog w base spare held fuel T cs=some x) (hw:jT T x.1):
  ∃(A:Option Addr) (l:List α) (c:Nat),cs=[.slice A l.length c]∧(∀a∈l,P a)∧l.length*Tryz.prog.bytesOf e≤reachBytes∧(l=[]∨∃b off,A=some ⟨b,off,none⟩∧b < w.heap.size∧∀i x j u,l[i]?=some x→(f x)[j]?=some u→w.cell? ⟨b,off+i*K+j,none⟩=some u):=by
 rcases DataW.trod_slice hT h with ⟨hcs,_⟩|⟨ad,len,cap,elems,rest,n,hn,hcs,hx,_,hl,hm,hlen,he,_,_⟩
 ·exact⟨none,[],0,hcs,by simp,by simp,.inl rfl⟩
 ·subst hx hcs;obtain⟨hbytes,PZ⟩:=Am hT hw;rw[List.length_map,List.length_map,hlen] at hbytes;have hb2:len*Tryz.prog.bytesOf e≤reachBytes:=Nat.le_trans (Nat.mul_le_mul_right _ (by omega)) hbytes;rcases Nat.eq_zero_or_pos len with h0 | h0
  ·subst h0;exact⟨some ad,[],cap,rfl,by simp,by simp,.inl rfl⟩
  have rL:∀i,i < len→∃a:α,P a∧∀j,j < K→w.cell? ((ad.add (i*K)).add j)=(f a)[j]?:=by intro i hi;have h1:=he i hi;rw[List.getElem?_eq_getElem (by omega),hc] at h1;obtain⟨cs,h2,h3⟩:=Option.bind_eq_some_iff.1 h1;obtain⟨a,rfl,ha⟩:=I3 n (by omega) cs _ h3 (PZ _ (List.mem_map.2 ⟨_,List.getElem_mem _,rfl⟩));exact⟨a,ha,(PY h2).2⟩
  obtain⟨a0,_,hc0⟩:=rL 0 h0;have hsome:∃u,(f a0)[0]?=some u:=⟨(f a0)[0]'(by rw[hf];exact hK),List.getElem?_eq_getElem _⟩;obtain⟨u0,Fz⟩:=hsome;have hlt:=ji ((hc0 0 hK).trans Fz);obtain⟨b,off,spot⟩:=ad;have hs:spot=none:=by have:=hlt.2;simpa [Addr.add] using this
  subst hs;have hbl:b < w.heap.size:=by have:=hlt.1;simpa [Addr.add] using this
  obtain⟨l,Tt,hp⟩:=pick len (P:=fun i a=>P a∧∀j,j < K→w.cell? ⟨b,off+i*K+j,none⟩=(f a)[j]?) fun i hi=>by obtain⟨a,ha,I4⟩:=rL i hi;refine⟨a,ha,fun j hj=>?_⟩;have:=I4 j hj;simp only[Af] at this;exact this
  subst Tt;refine⟨some ⟨b,off,none⟩,l,cap,rfl,fun a ha=>?_,hb2,.inr ⟨b,off,rfl,hbl,fun i x j u hx hu=>?_⟩⟩
  ·obtain⟨i,hi,rfl⟩:=List.getElem_of_mem ha;exact(hp i _ (List.getElem?_eq_getElem hi)).1
  ·have hj:j < K:=by
    rcases Nat.lt_or_ge j K with h' | h'
    ·exact h'
    ·rw[List.getElem?_eq_none (by rw[hf];exact h')] at hu;cases hu
   rw[(hp i x hx).2 j hj];exact hu
theorem nN {S:Nat→Prop}:∀l:List (Ex×Tr),(∀p∈l,p.2.at_ w S p.1)→Tr.bL w S (l.map (·.2)) (l.map (·.1))
 | [],_=>by simp[Tr.bL]
 | p::l,h=>by simp only[List.map_cons];unfold Tr.bL;exact⟨_,_,rfl,h p (by simp),nN l fun q hq=>h q (by simp[hq])⟩
theorem nO:∀l:List (Ex×Tr),(∀p∈l,p.2.ok)→Tr.iW (l.map (·.2))
 | [],_=>by simp[Tr.iW]
 | p::l,h=>by simp only[List.map_cons];unfold Tr.iW;exact⟨h p (by simp),nO l fun q hq=>h q (by simp[hq])⟩
theorem FW:∀(fuel:Nat) (cs:List Value) (x:DataW H×List MemPlace),DataW.trod enc Tryz.prog w base spare held fuel 34 cs=some x→jT 34 x.1→∃p:Ex×Tr,cs=uQ p.1∧p.2.at_ w (Old w) p.1∧p.2.ok:=by
 intro fuel;induction fuel using Nat.strongRecOn with
 | _ fuel ih=>
   intro cs x h hw;obtain⟨xs,n,hn,hx,hl,hlen,hf⟩:=DataW.trod_struct Tryz.underlying34 h;rw[pZ] at hl;subst hx
   match cs,hl with
   | [c0,c1,c2,c3,c4,c5,c6],_=>
     have get:∀i,i < 5→∃y,xs[i]?=some y:=fun i hi=>⟨xs[i]'(by simp at hlen;omega),List.getElem?_eq_getElem _⟩
     obtain⟨y0,e0⟩:=get 0 (by omega);obtain⟨y1,e1⟩:=get 1 (by omega);obtain⟨y2,e2⟩:=get 2 (by omega);obtain⟨y3,e3⟩:=get 3 (by omega);obtain⟨y4,e4⟩:=get 4 (by omega);have t0:DataW.trod enc Tryz.prog w base spare held n 5 (([c0,c1,c2,c3,c4,c5,c6].drop 0).take (Tryz.prog.cellsOf 5))=some y0:=(hf 0 _ rfl).trans e0;have t1:DataW.trod enc Tryz.prog w base spare held n 26 (([c0,c1,c2,c3,c4,c5,c6].drop 1).take (Tryz.prog.cellsOf 26))=some y1:=(hf 1 _ rfl).trans e1;have t2:DataW.trod enc Tryz.prog w base spare held n 9 (([c0,c1,c2,c3,c4,c5,c6].drop 4).take (Tryz.prog.cellsOf 9))=some y2:=(hf 2 _ rfl).trans e2;have t3:DataW.trod enc Tryz.prog w base spare held n 2 (([c0,c1,c2,c3,c4,c5,c6].drop 5).take (Tryz.prog.cellsOf 2))=some y3:=(hf 3 _ rfl).trans e3;have t4:DataW.trod enc Tryz.prog w base spare held n 22 (([c0,c1,c2,c3,c4,c5,c6].drop 6).take (Tryz.prog.cellsOf 22))=some y4:=(hf 4 _ rfl).trans e4;rw[Ak] at t0;rw[th] at t1;rw[qQ] at t2;rw[rR] at t3;rw[Al] at t4;simp only[List.drop_succ_cons,List.drop_zero,List.take_succ_cons,List.take_zero] at t0 t1 t2 t3 t4;obtain⟨n0,q0,_,f0⟩:=DataW.trod_int Tryz.underlying5 t0;obtain⟨a,qa,ha,Mu,hk2⟩:=Jb t1;obtain⟨s,q2,_,f2⟩:=DataW.trod_string Tryz.underlying9 t2;obtain⟨n3,q3,_,f3⟩:=DataW.trod_int Tryz.underlying2 t3;have hl4:jT 22 y4.1:=by have h4:=CI (j:=4) (d:=y4.1) Tryz.underlying34 hw rfl (by rw[List.getElem?_map,e4];rfl);exact h4
     obtain⟨A,l,c,q4,hP,hby,gR⟩:=uR (fun p:Ex×Tr=>uQ p.1) (fun p=>p.2.at_ w (Old w) p.1∧p.2.ok) 7 Tryz.underlying22 pZ (by omega) (fun _=>rfl) (fun m hm cs x h1 h2=>ih m (by omega) cs x h1 h2) t4 hl4;simp at q0 qa q2 q3 q4;obtain⟨rfl,rfl,rfl⟩:=qa;subst q0 q2 q3 q4;rw[uP] at hby;have Tt:l.length≤1599289640356:=by unfold reachBytes at hby;omega
     refine⟨(⟨n0,a,s,n3,A,l.length,c⟩,.mk n0 a s n3 (l.map (·.2))),rfl,?_,?_⟩
     ·dsimp only;unfold Tr.at_;refine⟨rfl,rfl,rfl,rfl,by simp,l.map (·.1),?_,nN l fun p hp=>(hP p hp).1⟩;rcases gR with gR |⟨b,off,rfl,hb,gR⟩
      ·exact .inl (by simp[gR])
      ·refine .inr ⟨b,off,rfl,hb,fun i y hy=>?_⟩;obtain⟨p,hp,rfl⟩:∃p,l[i]?=some p∧p.1=y:=by simpa [List.getElem?_map] using hy
       have k:=fun j u hu=>gR i p j u hp hu
       exact⟨k 0 _ rfl,k 1 _ rfl,k 2 _ rfl,k 3 _ rfl,k 4 _ rfl,k 5 _ rfl,k 6 _ rfl⟩
     ·dsimp only;unfold Tr.ok;exact⟨ha,by simpa using Tt,Ov f0,Ja f3,⟨Mu,hk2⟩,nO l fun p hp=>(hP p hp).2⟩
end
section
variable {H:Type} {enc:TypeId×Value→H} {W:World} {base:Nat} {v:Value} {d:DataW H} {p:List MemPlace}
end
def Tr.op:Tr→Int | .mk op _ _ _ _=>op
def Tr.v:Tr→Val | .mk _ v _ _ _=>v
def Tr.name:Tr→ByteArray | .mk _ _ name _ _=>name
def Ez (n a b m:Int):Int:=wrap64 (wrap64 (wrap64 (wrap64 (n+1)+wrap64 (wrap64 (a / 5000)*2000))+wrap64 (wrap64 (b / 5000)*2000))+m)
mutual
def Tr.size:Tr→Int
 | .mk op v name width args=>Tr.nx 0 args
def Tr.nx:Int→List Tr→Int
 | n,[]=>n
 | n,.mk op v name width args::ts=>if n < 2000 then Tr.nx (Ez n name.size v.s.size (Tr.nx 0 args)) ts else n
end
theorem Tr.bL.get {w:World} {S:Nat→Prop}:∀ {ts:List Tr} {ys:List Ex} {i:Nat} {t:Tr},Tr.bL w S ts ys→ts[i]?=some t→∃y,ys[i]?=some y∧t.at_ w S y
 | [],ys,i,t,h,ht=>by simp at ht
 | x::ts,ys,0,t,h,ht=>by unfold Tr.bL at h;obtain⟨y,ys',rfl,h2,h3⟩:=h;simp at ht;subst ht;exact⟨y,rfl,h2⟩
 | x::ts,ys,i+1,t,h,ht=>by unfold Tr.bL at h;obtain⟨y,ys',rfl,h2,h3⟩:=h;have:=Tr.bL.get h3 (i:=i) (t:=t) (by simpa using ht);simpa using this
def CJ (w:World)(y:Ex)(n:Int):Prop:=∀W,Below w.heap.size w W→Calls Tryz.prog 6 #[.slice y.A y.n y.c] W fun e w'=>e=.returned (.int .i64 n)∧Below W.heap.size W w'
theorem EA (A:Option Addr)(c:Nat)(ts:List Tr)(ys:List Ex)(w:World)(hl:ts.length≤1599289640356)(hall:Tr.bL w (Old w) ts ys)(hA:RE w w.heap.size A ys)(hE:∀(i:Nat) (t:Tr) (y:Ex),ts[i]?=some t→ys[i]?=some y→CJ w y t.size):
  Calls Tryz.prog 6 #[.slice A ts.length c] w fun e w'=>e=.returned (.int .i64 (Tr.nx 0 ts))∧Below w.heap.size w w':=by
 have HA:=hid hA;have HE:=hid hE;have HL:=hid hall;clear hA hE hall;go_enter Tryz.func6,Tryz.ntmps6;go_wp2_with fail;go_loopw [3,4] (fun nv i wr=>∃(k:Nat) (n:Int),k≤ts.length∧i=.int .i64 k∧nv=.int .i64 n∧Tr.nx 0 ts=Tr.nx n (ts.drop k)∧Below w.heap.size w wr) (fun _ i _=>ts.length - (intOf i).toNat);case atStart=>exact⟨0,0,Nat.zero_le _,rfl,rfl,rfl,Below.refl _ _⟩
 case round=>
  obtain⟨k,n,hk,rfl,rfl,hF,hb⟩:=hrel;have HF:=hid hF;clear hF;by_cases hlt:k < ts.length
  ·have HD:=hid (show ts.drop k=ts[k]::ts.drop (k+1)from List.drop_eq_getElem_cons hlt);obtain⟨y,hy,hat⟩:=HL.out.get (List.getElem?_eq_getElem hlt);have hsz:=HE.out k _ y (List.getElem?_eq_getElem hlt) hy;by_cases h2:n < 2000
   ·have WS:k < ys.length:=by
     rcases Nat.lt_or_ge k ys.length with h | h
     ·exact h
     ·rw[List.getElem?_eq_none h] at hy;cases hy
    obtain⟨b,off,rfl,FM,hex⟩:=(HA.out.below hb).at_ WS;have pD:ys[k]=y:=by rw[List.getElem?_eq_getElem WS] at hy;simpa using hy
    rw[pD] at hex;clear pD hy WS;generalize ts[k]=t at*;obtain⟨top,tv,Ao,uS,targs⟩:=t;unfold Tr.at_ at hat;have h4:=hat.2.1;have h5:=hat.2.2.1;clear hat;have HG:=hid (show Tr.nx n (.mk top tv Ao uS targs::ts.drop (k+1))=Tr.nx (Ez n y.name.size y.v.s.size (Tr.size (.mk top tv Ao uS targs))) (ts.drop (k+1)) by
     rw[h4,h5]
     conv=>lhs;unfold Tr.nx
     rw[if_pos h2]
     rfl)
    clear h4 h5;generalize Tr.size (.mk top tv Ao uS targs)=m at*;have t1:=decide_eq_true h2;have Zj:=fun x:Ext wr.heap.size wr=>(hex.keep (w':=x.w) fun o=>x.h.cell (p:=⟨b,o,none⟩) (Nat.lt_of_lt_of_le FM hb.size))
    unfold bp at Zj;have WT:=fun x:Ext wr.heap.size wr=>hsz x.w (ae.then hb x.h)
    go_wp2_with fail;refine cZ 28 wr.heap.size wr (Below.refl _ _) (by kernel_rfl) (by kernel_rfl) (by kernel_rfl) (by kernel_rfl) ?_;simp only[List.take_succ_cons,List.take_zero,List.drop_succ_cons,List.drop_zero];repeat (go_big_quiet_step (fail))
    go_big_quiet_step ((go_at_call 6;exact dP (Nat.le_refl _) (WT _)));repeat (go_big_quiet_step (fail))
    refine wpQuiet_nil ?_;rintro V4 ⟨x2,hx2⟩;have hW:=x2.h;rw[← hx2] at hW;clear hx2 x2 Zj hex;go_wp2_with fail;go_roundw;case rel=>refine⟨k+1,Ez n y.name.size y.v.s.size m,hlt,by go_num,by unfold Ez;rfl,?_,ae.then hb hW⟩;rw[HF.out,HD.out];exact HG.out
    case measure=>simp[intOf];omega
   ·have t1:=decide_eq_false h2;generalize ts[k]=t at*;obtain⟨top,tv,Ao,uS,targs⟩:=t;have HG:=hid (show Tr.nx n (.mk top tv Ao uS targs::ts.drop (k+1))=n by
     unfold Tr.nx
     rw[if_neg h2])
    clear hsz hat hy;go_wp2_with fail;go_ret;refine⟨?_,hb⟩;rw[HF.out,HD.out,HG.out];rfl
  ·go_wp2_with fail;go_ret;refine⟨?_,hb⟩;rw[HF.out,List.drop_eq_nil_of_le (by omega)];unfold Tr.nx;rfl
mutual
theorem Tr.Mv:∀(t:Tr) (y:Ex) (w:World),t.ok→t.at_ w (Old w) y→CJ w y t.size
 | .mk op v name width args,y,w,aS,hat=>by intro W hb;have jY:=hat.later hb;unfold Tr.at_ at jY;obtain⟨h1,h2,h3,h4,h5,ys,h6,h7⟩:=jY;unfold Tr.ok at aS;have k:=EA y.A y.c args ys W aS.2.1 h7 h6.old (Tr.uT args ys W aS.2.2.2.2.2 h7);rw[h5];unfold Tr.size;exact k
theorem Tr.uT:∀(ts:List Tr) (ys:List Ex) (w:World),Tr.iW ts→Tr.bL w (Old w) ts ys→∀(i:Nat) (t:Tr) (y:Ex),ts[i]?=some t→ys[i]?=some y→CJ w y t.size
 | [],ys,w,_,_,i,t,y,ht,_=>by simp at ht
 | x::ts,ys,w,aS,hat,i,t,y,ht,hy=>by
   unfold Tr.bL at hat;unfold Tr.iW at aS;obtain⟨y',ys',rfl,h2,h3⟩:=hat
   match i,ht,hy with
   | 0,ht,hy=>simp at ht hy;subst ht hy;exact Tr.Mv x y' w aS.1 h2
   | i+1,ht,hy=>exact Tr.uT ts ys' w aS.2 h3 i t y (by simpa using ht) (by simpa using hy)
end
def ez (op:Int):Int:=if op=12 then 14 else if op=14 then 12 else if op=13 then 15 else if op=15 then 13 else op
def aH (op:Int)(v:Val):Bool:=op==1 && v.k==0
def Jc (t:Tr):Bool:=aH t.op t.v
def lh (op:Int)(v:Val):Bool:=aH op v ||(op==1 && jy v ⟨1,0,ByteArray.empty⟩)
def eK (aq:ByteArray)(t:Tr):Bool:=t.op==2 && t.name.toList==aq.toList
def pF:Tr:=.mk 0 aL ByteArray.empty 0 []
def bj (op:Int)(aq:ByteArray)(a b:Tr):Int×Val×Bool:=
 if eK aq b=true then(ez op,a.v,eK aq b && a.op==1)else(op,b.v,eK aq a && b.op==1)
def xt (op:Int)(aq:ByteArray)(a b:Tr):Sp:=
 if (bj op aq a b).2.2=true∧(bj op aq a b).2.1.k=2∧yu (bj op aq a b).1=true then pT (bj op aq a b).1 (bj op aq a b).2.1.n else aP
def uU (aq:ByteArray)(op:Int)(v:Val)(args:List Tr)(sp:List Sp):Sp:=
 if op=16 then cw (sp.getD 0 aw) (sp.getD 1 aw)
 else if op=17 then Cw (sp.getD 0 aw) (sp.getD 1 aw)
 else if lh op v=true then aw
 else if op < 10∨15 < op then aP
 else if args.any Jc=true then aw
 else xt op aq (args.getD 0 pF) (args.getD 1 pF)
mutual
def Tr.span (aq:ByteArray):Tr→Sp
 | .mk op v name width args=>uU aq op v args (Tr.tj aq args)
def Tr.tj (aq:ByteArray):List Tr→List Sp
 | []=> []
 | t::ts=>t.span aq::Tr.tj aq ts
end
def Qa (aq:ByteArray)(op:Int)(args:List Tr)(vs:List (Option Val)):Option Val:=
 if op=16 then(match vs.getD 0 none with | some x=>some x | none=>vs.getD 1 none)
 else if op=17 then(match vs.getD 0 none,vs.getD 1 none with | some x,some y=>if jy x y=true then some x else none | _,_=>none)
 else if op=10 then
  (if (bj op aq (args.getD 0 pF) (args.getD 1 pF)).2.2=true∧(bj op aq (args.getD 0 pF) (args.getD 1 pF)).2.1.k≠0 then some (bj op aq (args.getD 0 pF) (args.getD 1 pF)).2.1 else none)
 else none
mutual
def Tr.value (aq:ByteArray):Tr→Option Val
 | .mk op v name width args=>Qa aq op args (Tr.values aq args)
def Tr.values (aq:ByteArray):List Tr→List (Option Val)
 | []=> []
 | t::ts=>t.value aq::Tr.values aq ts
end
def tq (op:Int)(v:Val)(width:Int)(n:Nat):Bool:=kG ⟨op,v,ByteArray.empty,width,none,n,0⟩
mutual
def Tr.forms:Tr→Bool
 | .mk op v name width args=>Tr.uV args && tq op v width args.length
def Tr.uV:List Tr→Bool
 | []=>true
 | t::ts=>t.forms && Tr.uV ts
end
mutual
def Tr.depth:Tr→Int
 | .mk op v name width args=>RowKit.wrap64 (Tr.gM args+1)
def Tr.gM:List Tr→Int
 | []=>0
 | t::ts=>max t.depth (Tr.gM ts)
end
def pG (l:List Tr):Bool:=match l with
 | [t]=>decide (t.depth≤32)&&(t.forms && t.safe)
 | _=>false
def lj (l:List Tr)(aq:ByteArray):Sp:=if pG l=true then(l.getD 0 pF).span aq else aP
def iD (l:List Tr)(aq:ByteArray):Option Val:=if pG l=true then(l.getD 0 pF).value aq else none
def iX:Option Val→Val
 | some v=>v
 | none=>aL
def nP (op k:Int):Sp:=
 if op=14∧bo - 1≤k then aw
 else if (op=10∨op=13)∧k < cP then aw
 else ct (if op=10∨op=15 then max cP k else if op=14 then max cP (k+1)else cP) (if (op=10∨op=13)∧k < bo - 1 then k+1 else if op=12 then min bo k else bo)
theorem iR {a b c d:Int}(h:a=c)(k:b=d):(⟨a,b⟩:Sp)=⟨c,d⟩:=by rw[h,k]
theorem Jd {op:Int}(k:Int)(h:yu op=true):nP op k=pT op k:=by
 have h:op=10∨12≤op∧op≤15:=by simpa [yu] using h
 have hc:op=10∨op=12∨op=13∨op=14∨op=15:=by omega
 have hl:cP= -4611687117939015680:=rfl;have hh:bo=4611687117939015679:=rfl;simp only[nP,pT,kE,fM,jx,iV,cw,ct,aw];clear h;rcases hc with rfl | rfl | rfl | rfl | rfl;all_goals
  simp (decide:=true) only[true_and,false_and,true_or,or_true,false_or,or_false,if_true,if_false,ite_true,ite_false]
  repeat' split
  all_goals first | rfl |(exfalso;omega)| exact iR (by omega) (by omega)|((try dsimp only at*);first |(exfalso;omega)| exact iR (by omega) (by omega)| rfl)
def Sp.fit (s:Sp):Prop:=s=aw∨(s.a < s.b∧cP≤s.a∧s.b≤bo)
theorem qR:aw.fit:=.inl rfl
theorem EB:aP.fit:=.inr ⟨by decide,by decide,by decide⟩
theorem nQ {a b:Int}(ha:cP≤a)(hb:b≤bo):(ct a b).fit:=by
 unfold ct;split
 ·exact qR
 ·exact .inr ⟨by show a < b;omega,ha,hb⟩
theorem Sp.fit.low {s:Sp}(h:s.fit):cP≤s.a:=by
 rcases h with rfl | h
 ·decide
 ·exact h.2.1
theorem Sp.fit.high {s:Sp}(h:s.fit):s.b≤bo:=by
 rcases h with rfl | h
 ·decide
 ·exact h.2.2
theorem EC {x y:Sp}(hx:x.fit)(hy:y.fit):(cw x y).fit:=by have:=hx.low;have:=hx.high;exact nQ (by omega) (by omega)
theorem Qb {x y:Sp}(hx:x.fit)(hy:y.fit):(Cw x y).fit:=by
 unfold Cw;split
 ·exact hy
 ·split
  ·exact hx
  ·have:=hx.low;have:=hx.high;have:=hy.low;have:=hy.high;exact .inr ⟨by show min x.a y.a < max x.b y.b;omega,by show cP≤min x.a y.a;omega,by show max x.b y.b≤bo;omega⟩
theorem Mw (op k:Int):(pT op k).fit:=by
 have h1:(iV k).fit:=nQ (by decide) (by omega);have h2:(fM k).fit:=nQ (by omega) (by decide);have h3:(jx k).fit:=nQ (by decide) (by omega);unfold pT;split
 ·exact h1
 split
 ·unfold kE;split
  ·exact qR
  ·exact nQ (by omega) (by decide)
 split
 ·exact h2
 split
 ·exact h3
 ·exact EC h2 h3
theorem qT {l:List Sp}(h:∀s∈l,s.fit)(i:Nat):(l.getD i aw).fit:=by
 rw[List.getD_eq_getElem?_getD];cases hi:l[i]? with
 | none=>exact qR
 | some s=>exact h s (List.mem_of_getElem? hi)
theorem Je (aq:ByteArray)(op:Int)(v:Val)(args:List Tr) {sp:List Sp}(h:∀s∈sp,s.fit):(uU aq op v args sp).fit:=by
 unfold uU;split
 ·exact EC (qT h 0) (qT h 1)
 split
 ·exact Qb (qT h 0) (qT h 1)
 split
 ·exact qR
 split
 ·exact EB
 split
 ·exact qR
 ·unfold xt;split
  ·exact Mw _ _
  ·exact EB
mutual
theorem Tr.uW (aq:ByteArray):∀t:Tr,(t.span aq).fit
 | .mk op v name width args=>by unfold Tr.span;exact Je aq op v args (Tr.xu aq args)
theorem Tr.xu (aq:ByteArray):∀(ts:List Tr),∀s∈Tr.tj aq ts,s.fit
 | [],s,hs=>by simp[Tr.tj] at hs
 | t::ts,s,hs=>by
   unfold Tr.tj at hs;rcases List.mem_cons.1 hs with rfl | hs
   ·exact Tr.uW aq t
   ·exact Tr.xu aq ts s hs
end
theorem Sp.fit.empty {s:Sp}(h:s.fit):s.b≤s.a↔s=aw:=by
 rcases h with rfl | h
 ·exact⟨fun _=>rfl,fun _=>by decide⟩
 ·exact⟨fun h2=>by omega,fun h2=>by subst h2;exact absurd h.1 (by decide)⟩
end Go.Proofs.YtfmbcoeallmnnaaGreatDoor
