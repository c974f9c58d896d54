/- Parts of the proof. -/
import Derived.Test.YtehhdlgjfdnafaaGreatDoorXB14
namespace Go.Proofs.YtehhdlgjfdnafaaGreatDoor
variable{p:Prop}
set_option maxHeartbeats 90000000
set_option maxRecDepth 100000
open Go.Lib (hid)
open Go.ChangeShapes Go.WideShapes Go.ChangeAt Go.RowKit List
set_option linter.unusedVariables false
set_option linter.unusedSimpArgs false
def oh:List (Int×Value)->Nat->List MapEntry
 | [],_=> []
 | x::l,i=>⟨.int .u8 x.1,x.2,i⟩::oh l (i+1)
theorem Cp (x:Int×Value):∀(l:List (Int×Value)) (i:Nat),oh (l++ [x]) i=oh l i++ [⟨.int .u8 x.1,x.2,i+l.length⟩]
 | [],i=>rfl
 | y::l,i=>by simp only[cons_append,oh,Cp x l (i+1),length_cons];rw[show i+1+l.length=i+(l.length+1) by omega]
theorem Hw (k:Int):∀(l:List (Int×Value)) (i j:Nat),match l.lookup k with
  | some v=>∃n,Instr.findNow (.int .u8) (.int .u8 k) (oh l i) j=some (some (n,v))
  | none=>Instr.findNow (.int .u8) (.int .u8 k) (oh l i) j=some none
 | [],i,j=>by simp[oh,Instr.findNow]
 |(x,v)::l,i,j=>by
  have ih:=Hw k l (i+1) (j+1);have e:Instr.sameNow (.int .u8) (.int .u8 k) (.int .u8 x)=some (k==x):=rfl;rw[lookup_cons];cases hx:(k==x)
  ·have e2:Instr.findNow (.int .u8) (.int .u8 k) (oh ((x,v)::l) i) j=Instr.findNow (.int .u8) (.int .u8 k) (oh l (i+1)) (j+1):=by simp only[oh,Instr.findNow,e,hx]
   simp only[e2];exact ih
  ·simp only;exact⟨j,by simp only[oh,Instr.findNow,e,hx]⟩
def iZ (w:World)(g:Nat)(l:List (Int×Value)):Prop:=w.heap[g]?=some (.map (oh l 0).toArray l.length)
variable{w:World}{g:Nat}{l:List (Int×Value)}
theorem iZ.lt(h:iZ w g l):g < w.heap.size:=by
 unfold iZ at h;rcases Nat.lt_or_ge g w.heap.size with hlt | EX
 ·exact hlt
 ·exact ZgM
variable{w':World}
theorem iZ.later(h:iZ w g l)(hb:Below w.heap.size w w'):iZ w' g l:=(hb.block g h.lt).trans h
variable{es es':Array MapEntry}{c c':Nat}
theorem Ny(hg:w.heap[g]?=some (.map es c)):(fo w g es' c').heap[g]?=some (.map es' c'):=by
 have:g < w.heap.size:=by
  rcases Nat.lt_or_ge g w.heap.size with h | h
  ·exact h
  ·rw[Array.getElem?_eq_none h] at hg;cases hg
 simp[fo,this]
variable{q:Nat}
theorem Ko(es:Array MapEntry)(c:Nat)(h:g≠q):(fo w g es c).heap[q]?=w.heap[q]?:=by simp only[fo,Array.getElem?_setIfInBounds];rw[if_neg h]
section
variable {P:Program} {T K V:TypeId} (hT:P.underlying T=some (.map K V)) (hK:P.underlying K=some (.int .u8))
include hT hK
omit hT hK in
theorem zhO.Kct(h:p:=by rw[Cp];simp[fo]):p:=h
theorem SH {w:World} {g:Nat} {l:List (Int×Value)}(hg:iZ w g l) {x:Int} {v:Value}(hx:l.lookup x=none):
  (Instr.mapUpdate T (.map (some g)) (.int .u8 x) v).run P w=.ok () (fo w g (oh (l++ [(x,v)]) 0).toArray (l.length+1)):=by
 have hf:=Hw x l 0 0;rw[hx] at hf;have hk:∀e (k:Int) (w:World),(Instr.checkKey e 10000 K (.int .u8 k)).run P w=.ok () w:=λ e k w=>MapKept.run_checkKey hK Taw e 9999
 open zhO in exact ZfY
theorem ky {w:World} {g:Nat} {l:List (Int×Value)}(hg:iZ w g l)(k:Int) {z:Value}(hz:∀w:World,(zeroValue V).run P w=.ok z w):
  (Instr.lookup T (.map (some g)) (.int .u8 k) false).run P w=.ok ((l.lookup k).getD z) w:=by
 have hf:=Hw k l 0 0;have hk:∀e (k:Int) (w:World),(Instr.checkKey e 10000 K (.int .u8 k)).run P w=.ok () w:=λ e k w=>MapKept.run_checkKey hK Taw e 9999
 unfold Instr.lookup
 cases hc:l.lookup k with
 | none=>rw[hc] at hf;simp only[Sem.run_bind,run_underlying hT,Result.andThen_ok,MapKept.run_getObj_map hg,hk,Instr.findKey,run_underlying hK,hf,Sem.run_pure,hz];rfl
 | some v=>rw[hc] at hf;obtain⟨n,hf⟩:=hf;simp only[Sem.run_bind,run_underlying hT,Result.andThen_ok,MapKept.run_getObj_map hg,hk,Instr.findKey,run_underlying hK,hf,Sem.run_pure];rfl
theorem zY {w:World} {g:Nat} {l:List (Int×Value)}(hg:iZ w g l)(k:Int) {z:Value}(hz:∀w:World,(zeroValue V).run P w=.ok z w):
  (Instr.lookup T (.map (some g)) (.int .u8 k) true).run P w=.ok (.tuple #[(l.lookup k).getD z,.bool (l.lookup k).isSome]) w:=by
 have hf:=Hw k l 0 0;have hk:∀e (k:Int) (w:World),(Instr.checkKey e 10000 K (.int .u8 k)).run P w=.ok () w:=λ e k w=>MapKept.run_checkKey hK Taw e 9999
 unfold Instr.lookup;cases hc:l.lookup k with
 | none=>rw[hc] at hf;simp only[Sem.run_bind,run_underlying hT,Result.andThen_ok,MapKept.run_getObj_map hg,hk,Instr.findKey,run_underlying hK,hf,Sem.run_pure,hz];rfl
 | some v=>rw[hc] at hf;obtain⟨n,hf⟩:=hf;simp only[Sem.run_bind,run_underlying hT,Result.andThen_ok,MapKept.run_getObj_map hg,hk,Instr.findKey,run_underlying hK,hf,Sem.run_pure];rfl
omit hT hK in
theorem Ev (w:World)(g:Nat)(es:Array MapEntry)(c:Nat):w.grownBy (fo w g es c) (some g):=
 ⟨rfl,rfl,rfl,by simp[fo],λ i hi hne=>Ko es c (λ e=>hne (by rw[e]))⟩
omit hT hK in
theorem iZ.new (w:World):iZ (w.alloc (.map #[] 0)) w.heap.size []:=by show(w.heap.push (.map #[] 0))[w.heap.size]?=_;rw[Array.getElem?_push_size];rfl
variable {ops:Array Oper} {rest:List Oper} {o:Oper} {a:Act} {w:World} {Q:Exit->Act->World->Prop}
theorem gB (hgd:o.guard=none)(m x y:Operand)(ho:o.op=.insert T m x y)(g:Nat)(hm:a.eval m=.map (some g))(k:Int)(hx:a.eval x=.int .u8 k)(v:Value)(hv:a.eval y=v) {l:List (Int×Value)}(hM:iZ w g l)(hl:l.lookup k=none)
  (h:∀w',iZ w' g (l++ [(k,v)])->w.grownBy w' (some g)->wpList P ops Q rest (a.put o.dst undef) w'):wpList P ops Q (o::rest) a w:=
 wpList_plain hgd λ K R5=>by
  unfold Oper.wp execOp;simp only[ho,hm,hx,hv,Sem.run_bind,SH hT hK hM hl,Result.andThen_ok];have hM2:iZ (fo w g (oh (l++ [(k,v)]) 0).toArray (l.length+1)) g (l++ [(k,v)]):=by have:=Ny (es':=(oh (l++ [(k,v)]) 0).toArray) (c':=l.length+1) hM;unfold iZ;rw[length_append,length_singleton];exact this
  exact R5 _ _ (h _ hM2 (Ev _ _ _ _))
omit hT hK in
theorem fu (hgd:o.guard=none)(T:TypeId)(ho:o.op=.makeMap T none)(h:wpList P ops Q rest (a.put o.dst (.map (some w.heap.size))) (w.alloc (.map #[] 0))):wpList P ops Q (o::rest) a w:=
 wpList_plain hgd λ K R5=>by unfold Oper.wp execOp;simp only[ho,Option.map_none,Sem.run_bind,run_makeMap,Result.andThen_ok];exact R5 _ _ h
end
open Go.Shelf
def dv (l:aV):Value:=.string ⟨l.toArray⟩
def Cq:List (Int×Value):=[(5,dv [43]),(6,dv [45]),(7,dv [42]),(8,dv [47]),(9,dv [37]),(10,dv [61]),(11,dv [60,62]),(12,dv [60]),(13,dv [60,61]),(14,dv [62]),(15,dv [62,61]),(16,dv [65,78,68]),(17,dv [79,82])]
def Xb (l:aV)(n:Int):Value:=.agg #[dv l,.int .i64 n]
def Nz:List (Int×Value):=[(20,Xb [98,117,99,107,101,116] 1),(22,Xb [99,111,117,110,116] 1),(23,Xb [115,117,109] 1),(24,Xb [109,105,110] 1),(25,Xb [109,97,120] 1),(26,Xb [97,118,103] 1),(27,Xb [102,105,114,115,116] 2),(28,Xb [108,97,115,116] 2)]
theorem xk:∀(l:List (Int×Value)) (k:Int),(∀x∈l,x.1≠k)->l.lookup k=none
 | [],k,h=>rfl
 |(a,v)::l,k,h=>by
  have h1:(k==a)=false:=by simpa using λ e:k=a=>h (a,v) Tae e.symm
  rw[lookup_cons,h1];exact xk l k λ x hx=>h x (by simp[hx])
theorem Cr (k:Int):(Cq.lookup k).getD (dv [])=dv (pH k)/\(Cq.lookup k).isSome=dc k:=by
 by_cases h:5<=k/\k<=17
 ·obtain⟨n,rfl⟩:∃n:Nat,k=n+5:=⟨(k - 5).toNat,by omega⟩;have hn:n < 13:=by omega
  match n,hn with
  | 0,_ | 1,_ | 2,_ | 3,_ | 4,_ | 5,_ | 6,_ | 7,_ | 8,_ | 9,_ | 10,_ | 11,_ | 12,_=>exact⟨rfl,rfl⟩
 ·rw[xk Cq k (by intro x hx;simp[Cq] at hx;rcases hx with rfl | rfl | rfl | rfl | rfl | rfl | rfl | rfl | rfl | rfl | rfl | rfl | rfl <;> simp only[ne_eq] <;> omega)];constructor
  ·unfold pH;repeat rw[if_neg Taa]
   rfl
  ·unfold dc;simp only[Option.isSome_none];symm;simp only[Bool.and_eq_false_iff,decide_eq_false_iff_not];omega
theorem Qk (k:Int):(Nz.lookup k).getD (Xb [] 0)=Xb (nB k).1 ((nB k).2:Nat)/\(Nz.lookup k).isSome=kQ k:=by
 by_cases h:k=20\/22<=k/\k<=28
 ·have h2:k=20\/k=22\/k=23\/k=24\/k=25\/k=26\/k=27\/k=28:=by omega
  rcases h2 with rfl | rfl | rfl | rfl | rfl | rfl | rfl | rfl <;> exact⟨rfl,rfl⟩
 ·rw[xk Nz k (by intro x hx;simp[Nz] at hx;rcases hx with rfl | rfl | rfl | rfl | rfl | rfl | rfl | rfl <;> simp only[ne_eq] <;> omega)];constructor
  ·unfold nB;repeat rw[if_neg Taa]
   rfl
  ·unfold kQ;simp only[Option.isSome_none];symm;simp only[Bool.or_eq_false_iff,Bool.and_eq_false_iff,decide_eq_false_iff_not,beq_eq_false_iff_ne];omega
theorem Kq (w:World):Calls Tryz.prog 94 #[] w λ e w'=>e=.returned (.map (some w.heap.size))/\iZ w' w.heap.size Cq/\Below w.heap.size w w':=by
 go_enter Tryz.func94,Tryz.ntmps94;go_upto_region 1 with fail
 refine wp_region_lit ?_;refine fu rfl 92 rfl ?_;have hM:=iZ.new w;have hB:=aa w (.map #[] 0);have jK:Below w.heap.size w (w.alloc (.map #[] 0)):=hB;clear hB;obtain⟨gm,pg⟩:∃gm,gm=w.heap.size:=⟨_,rfl⟩;rw[<- pg] at hM ⊢;have hle:w.heap.size<=gm:=Nat.le_of_eq pg.symm;have HGM:=hid pg;clear pg;generalize w.alloc _=W0 at*;go_wp2_with (first
  |(refine gB Tryz.underlying92 Tryz.underlying5 rfl _ _ _ rfl gm rfl _ rfl _ rfl hM TaQ ?_
    clear hM
    intro wm hM hgr
    replace jK:=jK.trans (aO hgr jK.size hle)
    clear hgr))
 exact Zg7
theorem Ew (w:World):Calls Tryz.prog 95 #[] w λ e w'=>e=.returned (.map (some w.heap.size))/\iZ w' w.heap.size Nz/\Below w.heap.size w w':=by
 go_enter Tryz.func95,Tryz.ntmps95;go_upto_region 1 with fail
 refine wp_region_lit ?_;refine fu rfl 144 rfl ?_;have hM:=iZ.new w;have hB:=aa w (.map #[] 0);have jK:Below w.heap.size w (w.alloc (.map #[] 0)):=hB;clear hB;obtain⟨gm,pg⟩:∃gm,gm=w.heap.size:=⟨_,rfl⟩;rw[<- pg] at hM ⊢;have hle:w.heap.size<=gm:=Nat.le_of_eq pg.symm;have HGM:=hid pg;clear pg;generalize w.alloc _=W0 at*;go_wp2_with (first
  |(refine gB Tryz.underlying144 Tryz.underlying5 rfl _ _ _ rfl gm rfl _ rfl _ rfl hM TaQ ?_
    clear hM
    intro wm hM hgr
    replace jK:=jK.trans (aO hgr jK.size hle)
    clear hgr))
 exact Zg7
theorem adZ (k:Int):(!(pH k).isEmpty)=dc k:=by
 by_cases h:5<=k/\k<=17
 ·obtain⟨n,rfl⟩:∃n:Nat,k=n+5:=⟨(k - 5).toNat,by omega⟩;have hn:n < 13:=by omega
  match n,hn with
  | 0,_ | 1,_ | 2,_ | 3,_ | 4,_ | 5,_ | 6,_ | 7,_ | 8,_ | 9,_ | 10,_ | 11,_ | 12,_=>rfl
 ·unfold pH;repeat rw[if_neg Taa]
  unfold dc;symm;simp only[isEmpty_nil,Bool.not_true,Bool.and_eq_false_iff,decide_eq_false_iff_not];omega
theorem SI (op:Int)(w:World):Calls Tryz.prog 142 #[.int .u8 op] w λ e w'=>e=.returned (.bool (iY op))/\Below w.heap.size w w':=by
 have H:=hid (Cr op);go_enter Tryz.func142,Tryz.ntmps142;by_cases h3:op=3
 ·subst h3;exact Zc1
 by_cases h4:op=4
 ·subst h4;exact Zc1
 by_cases SJ:op=18
 ·subst SJ;exact Zc1
 by_cases SK:op=19
 ·subst SK;exact Zc1
 have t3:(op==3)=false:=by simpa using h3
 have t4:(op==4)=false:=by simpa using h4
 have t18:(op==18)=false:=by simpa using SJ
 have t19:(op==19)=false:=by simpa using SK
 have HL:=hid (show iY op=dc op by unfold iY;rw[t3,t4,t18,t19];rfl);clear h3 h4 SJ SK;go_wp2_with fail;refine(Kq w).mono ?_;rintro e w1 ⟨rfl,hM,b1⟩;go_wp2_with fail;rw[ky Tryz.underlying92 Tryz.underlying5 hM op (z:=dv []) (λ w=>by kernel_rfl),H.out.1];simp only[Result.andThen];rw[Oper.upon_value];unfold dv;go_wp2_with fail;go_ret;exact⟨by rw[HL.out,<- adZ op];rfl,b1⟩
theorem js (y:Ex)(k:Int)(w:World):Calls Tryz.prog 96 #[dN y,.int .i64 k] w λ e w'=>e=.returned (.bool (decide ((y.n:Int)=k)&& bF y.v y.name y.width))/\Below w.heap.size w w':=by
 obtain⟨op,v,name,width,A,n,c⟩:=y;unfold dN aT;go_enter Tryz.func96,Tryz.ntmps96;go_wp2_with fail
 all_goals
  go_ret;refine⟨?_,by go_grown⟩;simp_all[bF,oP]
def fZ (f:FuncId)(b:Nat)(w0:World)(y:Ex)(o:Option aV)(c:Nat):Prop:=∀W s n,eI w0.heap.size b s n W->Below w0.heap.size w0 W->n+c<=50000000->Calls Tryz.prog f #[.pointer (some ⟨b,0,none⟩),dN y] W (ba w0.heap.size b (aq s o) (n+c) W)
variable{b:Nat}{y:Ex}{o:Option aV}
theorem zh5.KcB(h:p:=by refine(HX.out w1 s n om.out (hw.trans fT.out.below) Taa).mono ?_;rintro e w2 ⟨rfl,h2,d2⟩;have H2:=hid (h2.more (show n+c<=n+(c+2) by omega));have D2:=hid (fT.out.trans d2);clear h2 d2 om fT;go_wp2_with fail;exact⟨.tuple #[],results_none rfl _ _ _,rfl,by rw[HL.out];exact H2.out,D2.out⟩):p:=h
theorem zh6.KcB(h:p:=by refine(HX.out W3 _ _ H3.out (hw.trans D3.out.below) Taa).mono ?_;rintro e w4 ⟨rfl,h4,d4⟩;have H4:=hid h4;have JJ:=hid (d4.blk HG.out hgb Tab);have D4:=hid (D3.out.trans d4);clear h4 d4 H3 D3 tq HG x0 x1 x2 x3 x4 x5 x6;go_wp2_with fail;refine leaves_cons (f:=39) (args:= #[.pointer (some ⟨b,0,none⟩),.slice (some ⟨g2,0,none⟩) 1 1]) Tae (by simp[go_sem]) ?_;refine(aea [⟨#[41]⟩] g2 1 .returning w4 H4.out rfl JJ.out hgb Taa (by intro x hx;simp at hx;subst hx;decide) Taa).mono ?_;rintro e u' w5 ⟨rfl,rfl,h5,d5⟩;refine⟨.tuple #[],results_none rfl _ _ _,rfl,?_,D4.out.trans d5⟩;rw[HL.out];have:=h5.more (show n+1+c+1<=n+(c+2) by omega);exact Zfl):p:=h
theorem ziS.KcX(h:p:=by
 cases hl:iY op
 ·have HL:=hid (show jO (op,o)=o by unfold jO;rw[hl];rfl);clear hl;have x0:=jB.out.cell 0;have x1:=jB.out.cell 1;have x2:=jB.out.cell 2;have x3:=jB.out.cell 3;have x4:=jB.out.cell 4;have x5:=jB.out.cell 5;have x6:=jB.out.cell 6;open zh5 in exact Zgm
 ·have HL:=hid (show jO (op,o)=aq (some [40]) (aq o (some [41])) by unfold jO;rw[hl];rfl);clear hl;go_wp2_with fail;refine(cA ⟨#[40]⟩ w1 om.out Tab Taa).mono ?_;rintro e w2 ⟨rfl,h2,d2⟩;have H2:=hid h2;have D2:=hid (fT.out.trans d2);have qc:=hid (d2.blk jB.out lO Tab);clear h2 d2 om fT jB;go_upto_region 4 with fail;have bm:=aa w2 (.cells #[.string ⟨#[41]⟩] 9);have HG:=hid (av.new w2 9 #[.string ⟨#[41]⟩]);have H3:=hid (H2.out.later bm);have kZ:=D2.out.size;have D3:=hid (D2.out.later bm hsz);have tq:=hid (qc.out.later bm);have hgb:w2.heap.size≠b:=by omega
  clear H2 D2 qc;generalize w2.alloc _=W3 at*;generalize w2.heap.size=g2 at*;clear bm;have x0:=tq.out.cell 0;have x1:=tq.out.cell 1;have x2:=tq.out.cell 2;have x3:=tq.out.cell 3;have x4:=tq.out.cell 4;have x5:=tq.out.cell 5;have x6:=tq.out.cell 6;open zh6 in exact Zgm):p:=h
theorem nQ{w0:World}   (hx:fZ 60 b w0 y o c):fZ 97 b w0 y (jO (y.op,o)) (c+2):=by
 intro w s n h hw hn;obtain⟨op,v,name,width,A,k,cp⟩:=y;have HX:=hid hx;have HH:=hid h;have hsz:=h.size;have hlt:=h.lt;clear hx h;unfold dN aT;go_enter_defers Tryz.func97,Tryz.ntmps97;have HB:=hid (av.new w 36 #[.int .u8 op,.int .u8 v.k,.int .i64 v.n,.string v.s,.string name,.int .i64 width,.slice A k cp]);have bx:=aa w (.cells #[.int .u8 op,.int .u8 v.k,.int .i64 v.n,.string v.s,.string name,.int .i64 width,.slice A k cp] 36);have HS:=hid (HH.out.later bx);have HD:=hid (cy.aC (b:=b) bx hsz);have lO:w.heap.size≠b:=by omega
 have x0:=HB.out.cell 0;have x1:=HB.out.cell 1;have x2:=HB.out.cell 2;have x3:=HB.out.cell 3;have x4:=HB.out.cell 4;have x5:=HB.out.cell 5;have x6:=HB.out.cell 6;simp only[Uaa] at x0 x1 x2 x3 x4 x5 x6;clear HH;go_upto_region 1 with fail;generalize w.alloc _=W1 at*;clear bx;go_wp2_with fail;refine(SI op W1).mono ?_;open ziS in exact Zhi
def uC (n:Nat)(f:Nat->Value):Array Value:=((List.range n).map f).toArray
variable{n:Nat}
theorem dQ(T:Array Value)(h:T.size=n):∃f:Nat->Value,T=uC n f:=by refine⟨λ i=>T.getD i undef,Array.ext (by simp[uC,h]) λ i h1 h2=>?_⟩;simp[uC,Array.getD,h1]
variable{i:Nat}
theorem aw(f:Nat->Value)(h:i < n):(uC n f).getD i undef=f i:=by simp[uC,Array.getD,h]
def ja:Code->Nat->Code
 | .seq _ b,n+1=>ja b n
 | c,_=>c
def zb (w:World)(g:Nat)(y:Ex):Prop:=av w g 36 #[.int .u8 y.op,.int .u8 y.v.k,.int .i64 y.v.n,.string y.v.s,.string y.name,.int .i64 y.width,.slice y.A y.n y.c]
theorem zb.cells(h:zb w g y):w.cell? ⟨g,0,none⟩=some (.int .u8 y.op)/\w.cell? ⟨g,1,none⟩=some (.int .u8 y.v.k)/\w.cell? ⟨g,2,none⟩=some (.int .i64 y.v.n)/\w.cell? ⟨g,3,none⟩=some (.string y.v.s)/\w.cell? ⟨g,4,none⟩=some (.string y.name)/\w.cell? ⟨g,5,none⟩=some (.int .i64 y.width)/\w.cell? ⟨g,6,none⟩=some (.slice y.A y.n y.c):=
 ⟨h.cell 0,h.cell 1,h.cell 2,h.cell 3,h.cell 4,h.cell 5,h.cell 6⟩
variable{B:Nat}
theorem zb.did(h:zb w g y)(d:cy B b w w')(hg:g≠b):zb w' g y:=d.blk h hg Tab
theorem zb.later(h:zb w g y)(d:Below w.heap.size w w'):zb w' g y:=av.later h d
structure aoh (y:Ex):Prop where
 v:y.v.Ok
 vs:y.v.s.size<=1048576
 name:y.name.size<=1048576
 w0: -9223372036854775808<=y.width
 w1:y.width<=9223372036854775807
def N9 (op:Int):Array Value:= #[dv (nB op).1,.int .i64 ((nB op).2:Nat)]
structure xn (B:Nat) (F:Array Value) (w w':World):Prop where
 below:Below B w w'
 kept:Lib.OthersKept 142 none w w'
 rows:∀(k:Nat) (cs:Array Value),av w k 142 cs->av w' k 142 cs\/av w' k 142 F
variable{F:Array Value}
theorem xn.refl(w:World):xn B F w w:=⟨Below.refl _ _,Lib.OthersKept.refl _ _ _,λ _ _ h=> .inl h⟩
variable{a:World}
theorem xn.trans{b c:World}(h:xn B F a b)(k:xn B F b c):xn B F a c:=⟨h.below.trans k.below,h.kept.trans k.kept,λ q cs hq=>by
 rcases h.rows q cs hq with h1 | h1
 ·exact k.rows q cs h1
 ·exact .inr ((k.rows q F h1).elim id id)⟩
theorem xn.later(h:Below w.heap.size w w')(hB:B<=w.heap.size):xn B F w w':=⟨h.mono hB,λ k o hk _ _=>(h.block k (rp hk)).trans hk,λ k cs hk=> .inl (av.later hk h)⟩
theorem xn.drew(w:World):xn B F w w.drew:=⟨(Below.refl _ _).drew,(Lib.OthersKept.refl _ _ _).drew,λ _ _ h=> .inl h⟩
variable{t:TypeId}{cs:Array Value}
theorem xn.blk(h:xn B F w w')   (hg:av w g t cs)(ht:t≠142):av w' g t cs:=h.kept g _ hg (λ e=>by cases e) (λ c fz e=>ht (by injection e with _ e _))
theorem xn.map(h:xn B F w w')  (hg:iZ w g l):iZ w' g l:=h.kept g _ hg (λ e=>by cases e) (λ c fz e=>by cases e)
theorem R6(h:av w q 142 cs)(hs:cs.size=2)(hB:B<=q)(u v:Value):
  xn B #[u,v] w ((w.setCell ⟨q,0,none⟩ u).setCell ⟨q,1,none⟩ v)/\av ((w.setCell ⟨q,0,none⟩ u).setCell ⟨q,1,none⟩ v) q 142 #[u,v]:=by
 obtain⟨a,b,rfl⟩:∃a b,cs= #[a,b]:=by
  obtain⟨l⟩:=cs
  match l,hs with
  | [a,b],_=>exact⟨a,b,rfl⟩
 have hb:av ((w.setCell ⟨q,0,none⟩ u).setCell ⟨q,1,none⟩ v) q 142 #[u,v]:=by unfold av at h ⊢;simp[World.setCell,Array.getElem?_modify,h]
 have Wy:∀k,k≠q->((w.setCell ⟨q,0,none⟩ u).setCell ⟨q,1,none⟩ v).heap[k]?=w.heap[k]?:=λ k hk=>by rw[Below.heap_setCell _ _ _ _ (by simpa using λ e=>hk e),Below.heap_setCell _ _ _ _ (by simpa using λ e=>hk e)]
 refine⟨⟨((Below.refl _ _).setCell (p:=⟨q,0,none⟩) hB _).setCell (p:=⟨q,1,none⟩) hB _,λ k o hk _ ho=>?_,λ k ds hk=>?_⟩,hb⟩
 ·refine(Wy k λ e=>?_).trans hk;subst e;unfold av at h;rw[h] at hk;injection hk with hk;exact ho _ _ hk.symm
 ·by_cases e:k=q
  ·subst e;exact .inr hb
  ·exact .inl ((Wy k e).trans hk)
def e2V (B gx:Nat)(op:Int):Nat->World->Value->Prop
 | 0=>λ w v=>∃q,v=.map (some q)/\iZ w q Nz
 | 1=>λ _ v=>v=.pointer (some ⟨gx,0,none⟩)
 | 2=>λ _ v=>v=.int .u8 op
 | 3=>λ _ v=>v=.tuple #[.agg (N9 op),.bool (kQ op)]
 | 4=>λ _ v=>v=.tuple #[.agg (N9 op),.bool (kQ op)]
 | 5=>λ _ v=>v=.agg (N9 op)
 | 6=>λ _ v=>v=.bool (kQ op)
 | 7=>λ w v=>∃g,v=.pointer (some ⟨g,0,none⟩)/\B<=g/\∃cs,av w g 142 cs/\cs.size=2
 | _=>λ _ _=>True
theorem SL (B gx:Nat)(op:Int)(i:Nat)(w w':World)(v:Value)(h:e2V B gx op i w v)(hr:xn B (N9 op) w w'):e2V B gx op i w' v:=by
 unfold e2V at*;split at h
 ·obtain⟨q,h1,h2⟩:=h;exact⟨q,h1,hr.map h2⟩
 ·exact h
 ·exact h
 ·exact h
 ·exact h
 ·exact h
 ·exact h
 ·obtain⟨g,h1,h2,cs,h3,h4⟩:=h;rcases hr.rows _ _ h3 with h5 | h5
  ·exact⟨g,h1,h2,cs,h5,h4⟩
  ·exact⟨g,h1,h2,_,h5,rfl⟩
 ·trivial
def e2U (B:Nat)(op:Int)(i:Nat)(w:World)(ρ:Operand->Value):Prop:=
 i=8->∃g,ρ (.tmp 6)=.pointer (some ⟨g,0,none⟩)/\B<=g/\av w g 142 (N9 op)
variable{ρ ρ':Operand->Value}
theorem SM(B:Nat)(op:Int)  (i:Nat)(h:e2U B op i w ρ)(hr:xn B (N9 op) w w')(he:i=8->ρ' (.tmp 6)=ρ (.tmp 6)):e2U B op i w' ρ':=by
 intro hi;obtain⟨g,h1,h2,h4⟩:=h hi;rcases hr.rows _ _ h4 with h5 | h5
 ·exact⟨g,(he hi).trans h1,h2,h5⟩
 ·exact⟨g,(he hi).trans h1,h2,h5⟩
variable{P:Program}{Q:Exit->Act->World->Prop}{a0:Act}{id:Nat}{ops:List Oper}
theorem NA{w0:World}  (k:Nat)(R:World->World->Prop)(hrefl:∀w,R w w)(vC:∀a b c,R a b->R b c->R a c)(nY:∀w,R w w.drew)
  (V:Nat->World->Value->Prop) (U:Nat->World->(Operand->Value)->Prop) (hU:Ww (ops.take k) R U) (hV:∀i w w' v,V i w v->R w w'->V i w' v) (hm:P.follows .mixedOrders=true)
  (az:cT (ops.take k) a0.tmps.size (ops.take k) 0=true) (hz:dD ops (ops.drop k) (ops.take k).length=true)
  (hs:Ha P (ops.take k) R V U a0 w0 (ops.take k) 0) (hf:∀w,R w0 w->cU V (λ a w=>(∀i o,(ops.take k)[i]?=some o->U i w a.eval)->wpList P ops.toArray Q (ops.drop k) a w) (ops.take k) 0 a0 w):(Code.region id ops.toArray true).wp P Q a0 w0:=
 Hb (ops.drop k) (ops.take k) (take_append_drop k ops).symm R hrefl vC nY V U hU hV hm az TaS hs hf
noncomputable def sk:Code:=Tryz.f60.body.getD .skip
structure Hx (T:Array Value) (b gx gf:Nat) (op:Int):Prop where
 sz:T.size=249
 t0:T.getD 0 undef=.pointer (some ⟨b,0,none⟩)
 t3:T.getD 3 undef=.pointer (some ⟨gx,0,none⟩)
 t4:T.getD 4 undef=dv (pH op)
 t5:T.getD 5 undef=.bool (dc op)
 t6:T.getD 6 undef=.pointer (some ⟨gf,0,none⟩)
 t7:T.getD 7 undef=.bool (kQ op)
structure qg (w0:World) (b:Nat) (s:Option aV) (n:Nat) (ws W:World) (gx gf:Nat) (y:Ex):Prop where
 x:zb W gx y
 f:av W gf 142 (N9 y.op)
 st:eI w0.heap.size b s n W
 did:cy w0.heap.size b ws W
section
variable {w0 ws W W':World} {b n m gx gf:Nat} {s s':Option aV} {y:Ex}
theorem qg.next (h:qg w0 b s n ws W gx gf y)(hx:gx≠b)(hf:gf≠b)(h1:eI w0.heap.size b s' m W')(d:cy w0.heap.size b W W'):qg w0 b s' m ws W' gx gf y:=⟨h.x.did d hx,d.blk h.f hf Tab,h1,h.did.trans d⟩
theorem qg.later (h:qg w0 b s n ws W gx gf y)(hB:w0.heap.size<=ws.heap.size)(k:Below W.heap.size W W'):qg w0 b s n ws W' gx gf y:=⟨h.x.later k,av.later h.f k,h.st.later k,h.did.later k hB⟩
theorem qg.jQ (h:qg w0 b s n ws W gx gf y):W.cell? ⟨gf,0,none⟩=some (dv (nB y.op).1)/\W.cell? ⟨gf,1,none⟩=some (.int .i64 ((nB y.op).2:Nat)):=⟨h.f.cell 0,h.f.cell 1⟩
end
def e1V (g:Nat)(op:Int):Nat->World->Value->Prop
 | 0,w,v=>∃q:Nat,v=.map (some q)/\iZ w q Cq
 | 1,_,v=>v=.pointer (some ⟨g,0,none⟩)
 | 2,_,v=>v=.int .u8 op
 | 3,_,v=>v=.tuple #[dv (pH op),.bool (dc op)]
 | 4,_,v=>v=.tuple #[dv (pH op),.bool (dc op)]
 | 5,_,v=>v=dv (pH op)
 | 6,_,v=>v=.bool (dc op)
 | 7,_,v=>v=dv (pH op)
 | 8,_,v=>v=.bool (dc op)
 | _,_,_=>False
theorem SN (g:Nat)(op:Int):∀i w w' v,e1V g op i w v->af w w'->e1V g op i w' v:=by
 intro i w w' v h hl
 match i with
 | 1 | 2 | 3 | 4 | 5 | 6 | 7 | 8=>exact h
 | 0=>obtain⟨q,h1,f0⟩:=h;exact⟨q,h1,f0.later hl⟩
 | n+9=>exact h
variable{s:Option aV}{R:Ending->World->Prop}
theorem zfp.Kbr(h:p:=by
 have HD:=hid (cy.aC (b:=b) bx aeb);have lO:w.heap.size≠b:=by omega
 clear HH;go_upto_region 1 with fail;generalize w.alloc _=W1 at*;clear bx;refine cM 9 (e1V w.heap.size op) (SN _ _) Tac Tac Tac ?_ ?_
 ·simp only[take_succ_cons,take_zero];refine⟨?_,ZbI,?_,?_,ZbI,ZbT,ZbT,ZbI,ZbI,trivial⟩
  ·intro ρ w3 hc hL hr;have e1:=hc.func 94;refine dG (f:=94) (args:= #[]) (w':=w3) (by simp[go_sem,e1];done) ?_;refine(Kq w3).mono ?_;rintro e w4 ⟨rfl,hM,b4⟩;exact⟨_,rfl,b4,_,rfl,hM⟩
  ·intro ρ w3 hc hL hr;have h0:_=_:=hr.1;have cc:=((HB.out.later hL).cells).1;exact ae (w':=w3) (by simp[go_sem,h0,cc];done) ⟨af.refl _,rfl⟩
  ·intro ρ w3 hc hL hr;obtain⟨q0,h0,aok⟩:∃q:Nat,ρ (.tmp 9)=.map (some q)/\iZ w3 q Cq:=hr.1;have h1:_=_:=hr.2.1;have e:=zY (P:=Tryz.prog) Tryz.underlying92 Tryz.underlying5 aok op (z:=dv []) (λ w=>by kernel_rfl);rw[(Cr op).1,(Cr op).2] at e;exact ae (w':=w3) (by simp[go_sem,h0,h1,e];done) ⟨af.refl _,rfl⟩
 intro W2 hL;simp only[Uab];rintro a0 ⟨q_0,rfl,atD⟩ _ rfl _ rfl _ rfl _ rfl _ rfl _ rfl _ rfl _ rfl;simp only[cU,Act.put,Uac];have qc:=hid (HB.out.later hL);have uD:=hid (HS.out.later hL);have eP:=hid (HD.out.later hL aeb);clear HB HS HD hL;go_upto_region 2 with fail;rename_i hK;have HK:=hid hK;clear hK;refine NA 9 (xn W2.heap.size (N9 op)) xn.refl (λ _ _ _=>xn.trans) xn.drew (e2V W2.heap.size w.heap.size op) (e2U W2.heap.size op) ?_ (λ i u u' v h hr=>SL _ _ _ _ _ _ _ h hr) Tac Tac Tac ?_ ?_
 ·intro i o u u' ρ ρ' hi hu hr hk;refine SM _ _ i hu hr λ e=>?_
  subst e;simp only[take_succ_cons,take_zero] at hi hk;refine hk 7 ?_ _ 6 rfl rfl;injection hi with hi;subst hi;decide
 ·simp only[take_succ_cons,take_zero];refine⟨?_,Zec,?_,?_,?_,Zec,Zec,?_,?_,trivial⟩
  ·intro ρ w1 hc hL hr;have e1:=hc.func 95;refine dG (f:=95) (args:= #[]) (w':=w1) (by simp[go_sem,e1]) ?_;refine(Ew w1).mono ?_;rintro e w2 ⟨rfl,hM,hb⟩;exact⟨_,rfl,xn.later hb hL.below.size,⟨_,rfl,hM⟩,λ h=>by cases h⟩
  ·intro ρ w1 hc hL hr;have h1:_=_:=hr.1;have c0:=(zb.cells (hL.blk qc.out Tab)).1;exact ae (w':=w1) (by simp[go_sem,h1,c0]) ⟨xn.refl _,rfl,λ h=>by cases h⟩
  ·intro ρ w1 hc hL hr;obtain⟨g,h1,hg⟩:∃g,ρ (.tmp 16)=.map (some g)/\iZ w1 g Nz:=hr.1;have h2:_=_:=hr.2.1;have e:=zY (P:=Tryz.prog) Tryz.underlying144 Tryz.underlying5 hg op (z:=Xb [] 0) (λ w=>by kernel_rfl);rw[(Qk op).1,(Qk op).2] at e;exact ae (v:=.tuple #[.agg (N9 op),.bool (kQ op)]) (w':=w1) (by simp[execOp,h1,h2,e];rfl) ⟨xn.refl _,rfl,λ h=>by cases h⟩
  ·intro ρ w1 hc hL hr;exact Wv (.inl rfl) rfl ⟨xn.refl _,hr.1,λ h=>by cases h⟩
  ·intro ρ w1 hc hL hr;refine ae (w':=w1.alloc (.cells #[dv [],.int .i64 0] 142)) (by simp[go_sem];rfl) ⟨xn.later (aa w1 _) hL.below.size,⟨w1.heap.size,rfl,hL.below.size,_,av.new w1 _ _,rfl⟩,λ h=>by cases h⟩
  ·intro ρ w1 hc hL hr;obtain⟨g,h1,hgB,cs,hcs,hsz⟩:∃g,ρ (.tmp 6)=.pointer (some ⟨g,0,none⟩)/\W2.heap.size<=g/\∃cs,av w1 g 142 cs/\cs.size=2:=hr.1;have h2:_=_:=hr.2.1;obtain⟨f1,f2⟩:=R6 hcs hsz hgB (dv (nB op).1) (.int .i64 ((nB op).2:Nat));have c:∀i,(hi:i < 2)->w1.cell? ⟨g,i,none⟩=some (cs[i]' Taa):=λ i hi=>(hcs.cell i).trans (Array.getElem?_eq_getElem Taa)
   have fz:=hcs.frozen;have c0:=c 0 Taa;have c1:=c 1 Taa;refine sN (w':=(w1.setCell ⟨g,0,none⟩ (dv (nB op).1)).setCell ⟨g,1,none⟩ (.int .i64 ((nB op).2:Nat))) ?_ ⟨f1,trivial,λ _=>⟨g,h1,hgB,f2⟩⟩;simp[go_sem,h1,h2,N9,dv,c0,c1,fz]
 ·intro W3 hL;simp only[Uab];rintro _ ⟨gm,rfl,pg⟩ _ rfl _ rfl _ rfl _ rfl _ rfl _ rfl _ ⟨g4,rfl,hg4,cs,hcs,hsz⟩ hu;obtain⟨g,hg,hgB,hob⟩:=hu 8 _ rfl rfl;have bj:g4=g:=by simpa [Act.put,Act.eval] using hg
  subst bj;clear hu hg hcs hsz cs pg hg4;simp only[cU,Act.put,Uac];have tq:=hid (show zb W3 w.heap.size ⟨op,v,name,width,A,k,cp⟩from hL.blk qc.out Tab);have hW2:=eP.out.size;have HS3:=hid (uD.out.later hL.below);have jR:=hid (eP.out.later hL.below aeb);have HF3:=hid hob;have aol:g4≠b:=by have:=uD.out.lt;omega
  clear qc uD eP hL hob hgB;go_wp2_with fail;refine HK.out _ _ ?_;have key:=λ T hT=>HR.out W3 g4 T hT ⟨tq.out,HF3.out,HS3.out,jR.out⟩ lO aol
  simp only[sk,ja,Tryz.f60,Option.getD_some] at key;exact key _ ⟨rfl,rfl,rfl,rfl,rfl,rfl,rfl⟩):p:=h
theorem NB{w0:World}    (h:eI w0.heap.size b s n w)
  (sK:∀(W:World) (gf:Nat) (T:Array Value),Hx T b w.heap.size gf y.op->qg w0 b s n w W w.heap.size gf y->w.heap.size≠b->gf≠b->(ja sk 3).wp Tryz.prog (bodyPost Tryz.prog Tryz.f60 R) { tmps:=T,defers:=[] } W):
  Calls Tryz.prog 60 #[.pointer (some ⟨b,0,none⟩),dN y] w R:=by obtain⟨op,v,name,width,A,k,cp⟩:=y;have HH:=hid h;have HR:=hid sK;have aeb:=h.size;have hlt:=h.lt;clear h sK;unfold dN aT;go_enter Tryz.func60,Tryz.ntmps60;open zfp in exact ZcF
def xr (w0:World)(q off:Nat)(z:Ex):Prop:=q < w0.heap.size/\w0.cell? ⟨q,off,none⟩=some (.int .u8 z.op)/\w0.cell? ⟨q,off+1,none⟩=some (.int .u8 z.v.k)/\w0.cell? ⟨q,off+2,none⟩=some (.int .i64 z.v.n)/\w0.cell? ⟨q,off+3,none⟩=some (.string z.v.s)/\w0.cell? ⟨q,off+4,none⟩=some (.string z.name)/\w0.cell? ⟨q,off+5,none⟩=some (.int .i64 z.width)/\w0.cell? ⟨q,off+6,none⟩=some (.slice z.A z.n z.c)
variable{W:World}{off:Nat}{z:Ex}
theorem xr.later{w0:World}  (h:xr w0 q off z)(hw:Below w0.heap.size w0 W):W.cell? ⟨q,off,none⟩=some (.int .u8 z.op)/\W.cell? ⟨q,off+1,none⟩=some (.int .u8 z.v.k)/\W.cell? ⟨q,off+2,none⟩=some (.int .i64 z.v.n)/\W.cell? ⟨q,off+3,none⟩=some (.string z.v.s)/\W.cell? ⟨q,off+4,none⟩=some (.string z.name)/\W.cell? ⟨q,off+5,none⟩=some (.int .i64 z.width)/\W.cell? ⟨q,off+6,none⟩=some (.slice z.A z.n z.c):=by obtain⟨hq,h0,h1,h2,h3,h4,h5,h6⟩:=h;exact⟨(hw.cell (p:=⟨q,off,none⟩) hq).trans h0,(hw.cell (p:=⟨q,off+1,none⟩) hq).trans h1,(hw.cell (p:=⟨q,off+2,none⟩) hq).trans h2,(hw.cell (p:=⟨q,off+3,none⟩) hq).trans h3,(hw.cell (p:=⟨q,off+4,none⟩) hq).trans h4,(hw.cell (p:=⟨q,off+5,none⟩) hq).trans h5,(hw.cell (p:=⟨q,off+6,none⟩) hq).trans h6⟩
theorem eI.xt(h:eI B b s n W):(∃x,W.cell? ⟨b,2,none⟩=some (.bool x))/\W.frozen? ⟨b,2,none⟩=false/\eI B b none n (W.setCell ⟨b,2,none⟩ (.bool true))/\cy B b W (W.setCell ⟨b,2,none⟩ (.bool true)):=by have hlt:=h.lt;obtain⟨bad,l,h1,h2,rfl⟩:=h;obtain⟨p,v,hb⟩:=h1.cells;exact⟨⟨bad,by rw[Lib.cell_of_heap hb];rfl⟩,Lib.frozen_of_heap hb 2,⟨true,l,h1.set _,h2,rfl⟩,⟨(Below.refl _ _).setCell (p:=⟨b,2,none⟩) hlt.1 _,(Lib.OthersKept.refl _ _ _).setCell ⟨b,2,none⟩ rfl _⟩⟩
theorem S6 (k:Int):(pH k).length<=3:=by
 by_cases h:5<=k/\k<=17
 ·obtain⟨n,rfl⟩:∃n:Nat,k=n+5:=⟨(k - 5).toNat,by omega⟩;have hn:n < 13:=by omega
  match n,hn with
  | 0,_ | 1,_ | 2,_ | 3,_ | 4,_ | 5,_ | 6,_ | 7,_ | 8,_ | 9,_ | 10,_ | 11,_ | 12,_=>decide
 ·unfold pH;repeat rw[if_neg Taa]
  decide
variable{ws:World}{gx gf:Nat}{op width:Int}{A:Option Addr}{k cp:Nat}{T:Array Value}{c0 c1:Nat}{z0 z1:Ex}{o0 o1:Option aV}
theorem zh8.KcC(h:p:=by refine(I0.out w1 s n H1.out.st Bn Taa).mono ?_;rintro e w2 ⟨rfl,h2,d2⟩;have H2:=hid (H1.out.next hx hf h2 d2);clear h2 d2 H1 Bn k0 k1 k2 k3 k4 k5 k6 x0 x1 x2 x3 x4 x5 x6;unfold dv;go_wp2_with fail;refine(Cs ⟨#[32]⟩ ⟨(pH op).toArray⟩ ⟨#[32]⟩ w2 H2.out.st Tab (by show(pH op).toArray.size<=_;simp;omega) Tab Taa).mono ?_;rintro e w3 ⟨rfl,h3,d3⟩;have H3:=hid (H2.out.next hx hf h3 d3);clear h3 d3 H2;obtain⟨x0,x1,x2,x3,x4,x5,x6⟩:=H3.out.x.cells;dsimp only at x0 x1 x2 x3 x4 x5 x6;have hw3:=hw.trans H3.out.did.below;obtain⟨k0,k1,k2,k3,k4,k5,k6⟩:=A1.out.later hw3;go_wp2_with fail;refine(I1.out w3 _ _ H3.out.st hw3 Taa).mono ?_;rintro e w4 ⟨rfl,h4,d4⟩;have H4:=hid (H3.out.next hx hf h4 d4);clear h4 d4 H3 hw3 k0 k1 k2 k3 k4 k5 k6 x0 x1 x2 x3 x4 x5 x6;go_wp2_with fail;go_end0;refine⟨rfl,?_,H4.out.did⟩;have:=H4.out.st;exact Zfl):p:=h
theorem zee.Ka4(h:p:=by go_wp2_with fail;refine(js ⟨op,v,name,width,some ⟨q,off,none⟩,2,cp⟩ 2 W).mono ?_;rintro e w1 ⟨rfl,b1⟩;have H1:=hid (HH.out.later hsz b1);rw[show(decide (((2:Nat):Int)=2)&& bF v name width)=true by rw[hp];rfl];clear HH b1 x0 x1 x2 x3 x4 x5 x6;open zh8 in exact Zgn):p:=h
theorem zas.Kac(h:p:=by rw[ME] at h5;simp only[uC,List.range,List.range.loop,List.map,h0,h3,h4,h5,h6,h7];clear hT ME h0 h3 h4 h5 h6 h7;have hsz:=Nat.le_trans hw.size (Nat.le_refl ws.heap.size);have HH:=hid h;clear h;subst hk hA;have I0:=hid i0;have I1:=hid i1;have A0:=hid a0;have A1:=hid a1;have htl:(pH op).length<=3:=S6 op;clear i0 i1 a0 a1;open zee in exact ZbH):p:=h
theorem aeo{w0:World}    {v:Val} {name:ByteArray}    (hE:dy w0)(hw:Below w0.heap.size w0 ws)(t1:(op==1)=false)(t2:(op==2)=false)(t21:(op==21)=false)(ME:dc op=true)   (hA:A=some ⟨q,off,none⟩)(hk:k=2)(hp:bF v name width=true)(a0:xr w0 q off z0)(a1:xr w0 q (off+7) z1)(i0:fZ 97 b w0 z0 o0 c0)(i1:fZ 97 b w0 z1 o1 c1)(hn:n+c0+3+c1<=50000000)(hT:Hx T b gx gf (op))(h:qg w0 b s n ws W gx gf ⟨op,v,name,width,A,k,cp⟩)(hx:gx≠b)(hf:gf≠b):
  (ja sk 3).wp Tryz.prog (bodyPost Tryz.prog Tryz.f60 (ba w0.heap.size b (aq s (aq o0 (aq (some (32::(pH op++ [32]))) o1))) (n+c0+3+c1) ws)) { tmps:=T,defers:=[] } W:=by
 open zas in exact Zac
theorem zbN.Kap(h:p:=by go_wp2_with fail;refine(js ⟨op,v,name,width,A,k,cp⟩ 2 W).mono ?_;exact Zat):p:=h
theorem zat.Kac(h:p:=by rw[ME] at h5;rw[VX] at h7;simp only[uC,List.range,List.range.loop,List.map,h0,h3,h4,h5,h6,h7];clear hT ME VX h0 h3 h4 h5 h6 h7;open zbN in exact Zaz):p:=h
theorem S8{w0:World}    {v:Val} {name:ByteArray}    (hE:dy w0)(hw:Below w0.heap.size w0 ws)(t1:(op==1)=false)(t2:(op==2)=false)(t21:(op==21)=false)(t3:(op==3)=false)(t4:(op==4)=false)(t18:(op==18)=false)(t19:(op==19)=false)(ME:dc op=true)(VX:kQ op=false)(xu:(decide ((k:Int)=2)&& bF v name width)=false)(hT:Hx T b gx gf (op))(h:qg w0 b s n ws W gx gf ⟨op,v,name,width,A,k,cp⟩)(hx:gx≠b)(hf:gf≠b):
  (ja sk 3).wp Tryz.prog (bodyPost Tryz.prog Tryz.f60 (ba w0.heap.size b (aq s (none)) (n) ws)) { tmps:=T,defers:=[] } W:=by
 open zat in exact Zac
theorem zbO.Kap(h:p:=by go_wp2_with fail;refine(js ⟨3,v,name,width,A,k,cp⟩ 1 W).mono ?_;exact Zat):p:=h
theorem zau.Kac(h:p:=by rw[show dc 3=false from rfl] at h5;rw[show kQ 3=false from rfl] at h7;simp only[uC,List.range,List.range.loop,List.map,h0,h3,h4,h5,h6,h7];clear hT h0 h3 h4 h5 h6 h7;open zbO in exact Zaz):p:=h
theorem S9{w0:World}   {v:Val} {name:ByteArray}    (hE:dy w0)(hw:Below w0.heap.size w0 ws)(xu:(decide ((k:Int)=1)&& bF v name width)=false)(hT:Hx T b gx gf (3))(h:qg w0 b s n ws W gx gf ⟨3,v,name,width,A,k,cp⟩)(hx:gx≠b)(hf:gf≠b):
  (ja sk 3).wp Tryz.prog (bodyPost Tryz.prog Tryz.f60 (ba w0.heap.size b (aq s (none)) (n) ws)) { tmps:=T,defers:=[] } W:=by
 open zau in exact Zac
theorem zbP.Kap(h:p:=by go_wp2_with fail;refine(js ⟨4,v,name,width,A,k,cp⟩ 1 W).mono ?_;exact Zat):p:=h
theorem zav.Kac(h:p:=by rw[show dc 4=false from rfl] at h5;rw[show kQ 4=false from rfl] at h7;simp only[uC,List.range,List.range.loop,List.map,h0,h3,h4,h5,h6,h7];clear hT h0 h3 h4 h5 h6 h7;open zbP in exact Zaz):p:=h
theorem T6{w0:World}   {v:Val} {name:ByteArray}    (hE:dy w0)(hw:Below w0.heap.size w0 ws)(xu:(decide ((k:Int)=1)&& bF v name width)=false)(hT:Hx T b gx gf (4))(h:qg w0 b s n ws W gx gf ⟨4,v,name,width,A,k,cp⟩)(hx:gx≠b)(hf:gf≠b):
  (ja sk 3).wp Tryz.prog (bodyPost Tryz.prog Tryz.f60 (ba w0.heap.size b (aq s (none)) (n) ws)) { tmps:=T,defers:=[] } W:=by
 open zav in exact Zac
theorem zbQ.Kap(h:p:=by go_wp2_with fail;refine(js ⟨18,v,name,width,A,k,cp⟩ 1 W).mono ?_;exact Zat):p:=h
theorem zaw.Kac(h:p:=by rw[show dc 18=false from rfl] at h5;rw[show kQ 18=false from rfl] at h7;simp only[uC,List.range,List.range.loop,List.map,h0,h3,h4,h5,h6,h7];clear hT h0 h3 h4 h5 h6 h7;open zbQ in exact Zaz):p:=h
theorem Xl{w0:World}   {v:Val} {name:ByteArray}    (hE:dy w0)(hw:Below w0.heap.size w0 ws)(xu:(decide ((k:Int)=1)&& bF v name width)=false)(hT:Hx T b gx gf (18))(h:qg w0 b s n ws W gx gf ⟨18,v,name,width,A,k,cp⟩)(hx:gx≠b)(hf:gf≠b):
  (ja sk 3).wp Tryz.prog (bodyPost Tryz.prog Tryz.f60 (ba w0.heap.size b (aq s (none)) (n) ws)) { tmps:=T,defers:=[] } W:=by
 open zaw in exact Zac
theorem zbR.Kap(h:p:=by go_wp2_with fail;refine(js ⟨19,v,name,width,A,k,cp⟩ 1 W).mono ?_;exact Zat):p:=h
theorem zax.Kac(h:p:=by rw[show dc 19=false from rfl] at h5;rw[show kQ 19=false from rfl] at h7;simp only[uC,List.range,List.range.loop,List.map,h0,h3,h4,h5,h6,h7];clear hT h0 h3 h4 h5 h6 h7;open zbR in exact Zaz):p:=h
theorem Kv{w0:World}   {v:Val} {name:ByteArray}    (hE:dy w0)(hw:Below w0.heap.size w0 ws)(xu:(decide ((k:Int)=1)&& bF v name width)=false)(hT:Hx T b gx gf (19))(h:qg w0 b s n ws W gx gf ⟨19,v,name,width,A,k,cp⟩)(hx:gx≠b)(hf:gf≠b):
  (ja sk 3).wp Tryz.prog (bodyPost Tryz.prog Tryz.f60 (ba w0.heap.size b (aq s (none)) (n) ws)) { tmps:=T,defers:=[] } W:=by
 open zax in exact Zac
theorem zbS.Kap(h:p:=by exact Zdp):p:=h
theorem zay.Kac(h:p:=by rw[ME] at h5;rw[VX] at h7;simp only[uC,List.range,List.range.loop,List.map,h0,h3,h4,h5,h6,h7];clear hT ME VX h0 h3 h4 h5 h6 h7;open zbS in exact Zaz):p:=h
theorem aes{w0:World}    {v:Val} {name:ByteArray}    (hE:dy w0)(hw:Below w0.heap.size w0 ws)(t1:(op==1)=false)(t2:(op==2)=false)(t21:(op==21)=false)(t3:(op==3)=false)(t4:(op==4)=false)(t18:(op==18)=false)(t19:(op==19)=false)(ME:dc op=false)(VX:kQ op=true)(tk:((k:Int)==((nB op).2:Nat))=false)(hT:Hx T b gx gf (op))(h:qg w0 b s n ws W gx gf ⟨op,v,name,width,A,k,cp⟩)(hx:gx≠b)(hf:gf≠b):
  (ja sk 3).wp Tryz.prog (bodyPost Tryz.prog Tryz.f60 (ba w0.heap.size b (aq s (none)) (n) ws)) { tmps:=T,defers:=[] } W:=by
 open zay in exact Zac
theorem zbT.Kap(h:p:=by exact Zdp):p:=h
theorem zaz.Kac(h:p:=by rw[ME] at h5;rw[VX] at h7;simp only[uC,List.range,List.range.loop,List.map,h0,h3,h4,h5,h6,h7];clear hT ME VX h0 h3 h4 h5 h6 h7;open zbT in exact Zaz):p:=h
theorem Xm{w0:World}    {v:Val} {name:ByteArray}    (hE:dy w0)(hw:Below w0.heap.size w0 ws)(t1:(op==1)=false)(t2:(op==2)=false)(t21:(op==21)=false)(t3:(op==3)=false)(t4:(op==4)=false)(t18:(op==18)=false)(t19:(op==19)=false)(ME:dc op=false)(VX:kQ op=false)(hT:Hx T b gx gf (op))(h:qg w0 b s n ws W gx gf ⟨op,v,name,width,A,k,cp⟩)(hx:gx≠b)(hf:gf≠b):
  (ja sk 3).wp Tryz.prog (bodyPost Tryz.prog Tryz.f60 (ba w0.heap.size b (aq s (none)) (n) ws)) { tmps:=T,defers:=[] } W:=by
 open zaz in exact Zac
end Go.Proofs.YtehhdlgjfdnafaaGreatDoor
