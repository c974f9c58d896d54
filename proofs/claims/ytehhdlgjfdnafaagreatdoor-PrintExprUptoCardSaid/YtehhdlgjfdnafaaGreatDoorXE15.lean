/- Parts of the proof. -/
import Derived.Test.YtehhdlgjfdnafaaGreatDoorXE14
namespace Go.Proofs.YtehhdlgjfdnafaaGreatDoor
variable{p:Prop}
set_option maxHeartbeats 90000000
set_option maxRecDepth 100000
open Go.Lib (hid)
open Go.ChangeShapes Go.WideShapes Go.ChangeAt Go.RowKit List
set_option linter.unusedVariables false
set_option linter.unusedSimpArgs false
def nD:List (Int×Value)->Nat->List MapEntry
 | [],_=> []
 | x::l,i=>⟨.int .u8 x.1,x.2,i⟩::nD l (i+1)
theorem zY (x:Int×Value):∀(l:List (Int×Value)) (i:Nat),nD (l++ [x]) i=nD l i++ [⟨.int .u8 x.1,x.2,i+l.length⟩]
 | [],i=>rfl
 | y::l,i=>by simp only[cons_append,nD,zY x l (i+1),length_cons];rw[show i+1+l.length=i+(l.length+1) by omega]
theorem EG (k:Int):∀(l:List (Int×Value)) (i j:Nat),match l.lookup k with
  | some v=>∃n,Instr.findNow (.int .u8) (.int .u8 k) (nD l i) j=some (some (n,v))
  | none=>Instr.findNow (.int .u8) (.int .u8 k) (nD l i) j=some none
 | [],i,j=>by simp[nD,Instr.findNow]
 |(x,v)::l,i,j=>by
  have ih:=EG k l (i+1) (j+1);have e:Instr.sameNow (.int .u8) (.int .u8 k) (.int .u8 x)=some (k==x):=rfl;rw[lookup_cons];cases hx:(k==x)
  ·have e2:Instr.findNow (.int .u8) (.int .u8 k) (nD ((x,v)::l) i) j=Instr.findNow (.int .u8) (.int .u8 k) (nD l (i+1)) (j+1):=by simp only[nD,Instr.findNow,e,hx]
   simp only[e2];exact ih
  ·simp only;exact⟨j,by simp only[nD,Instr.findNow,e,hx]⟩
def iy (w:World)(g:Nat)(l:List (Int×Value)):Prop:=w.heap[g]?=some (.map (nD l 0).toArray l.length)
variable{w:World}{g:Nat}{l:List (Int×Value)}
theorem iy.lt(h:iy w g l):g < w.heap.size:=by
 unfold iy at h;rcases Nat.lt_or_ge g w.heap.size with hlt | CE
 ·exact hlt
 ·exact Zgu
variable{w':World}
theorem iy.later(h:iy w g l)(hb:Below w.heap.size w w'):iy w' g l:=(hb.block g h.lt).trans h
variable{es es':Array MapEntry}{c c':Nat}
theorem Kc(hg:w.heap[g]?=some (.map es c)):(eO w g es' c').heap[g]?=some (.map es' c'):=by
 have:g < w.heap.size:=by
  rcases Nat.lt_or_ge g w.heap.size with h | h
  ·exact h
  ·rw[Array.getElem?_eq_none h] at hg;cases hg
 simp[eO,this]
variable{q:Nat}
theorem GM(es:Array MapEntry)(c:Nat)(h:g≠q):(eO w g es c).heap[q]?=w.heap[q]?:=by simp only[eO,Array.getElem?_setIfInBounds];rw[if_neg h]
section
variable {P:Program} {T K V:TypeId} (hT:P.underlying T=some (.map K V)) (hK:P.underlying K=some (.int .u8))
include hT hK
omit hT hK in
theorem zg7.Kch(h:p:=by rw[zY];simp[eO]):p:=h
theorem Ol {w:World} {g:Nat} {l:List (Int×Value)}(hg:iy w g l) {x:Int} {v:Value}(hx:l.lookup x=none):
  (Instr.mapUpdate T (.map (some g)) (.int .u8 x) v).run P w=.ok () (eO w g (nD (l++ [(x,v)]) 0).toArray (l.length+1)):=by
 have hf:=EG x l 0 0;rw[hx] at hf;have hk:∀e (k:Int) (w:World),(Instr.checkKey e 10000 K (.int .u8 k)).run P w=.ok () w:=λ e k w=>MapKept.run_checkKey hK Taw e 9999
 open zg7 in exact ZfG
theorem jH {w:World} {g:Nat} {l:List (Int×Value)}(hg:iy w g l)(k:Int) {z:Value}(hz:∀w:World,(zeroValue V).run P w=.ok z w):
  (Instr.lookup T (.map (some g)) (.int .u8 k) false).run P w=.ok ((l.lookup k).getD z) w:=by
 have hf:=EG k l 0 0;have hk:∀e (k:Int) (w:World),(Instr.checkKey e 10000 K (.int .u8 k)).run P w=.ok () w:=λ e k w=>MapKept.run_checkKey hK Taw e 9999
 unfold Instr.lookup
 cases hc:l.lookup k with
 | none=>rw[hc] at hf;simp only[Sem.run_bind,run_underlying hT,Result.andThen_ok,MapKept.run_getObj_map hg,hk,Instr.findKey,run_underlying hK,hf,Sem.run_pure,hz];rfl
 | some v=>rw[hc] at hf;obtain⟨n,hf⟩:=hf;simp only[Sem.run_bind,run_underlying hT,Result.andThen_ok,MapKept.run_getObj_map hg,hk,Instr.findKey,run_underlying hK,hf,Sem.run_pure];rfl
theorem xN {w:World} {g:Nat} {l:List (Int×Value)}(hg:iy w g l)(k:Int) {z:Value}(hz:∀w:World,(zeroValue V).run P w=.ok z w):
  (Instr.lookup T (.map (some g)) (.int .u8 k) true).run P w=.ok (.tuple #[(l.lookup k).getD z,.bool (l.lookup k).isSome]) w:=by
 have hf:=EG k l 0 0;have hk:∀e (k:Int) (w:World),(Instr.checkKey e 10000 K (.int .u8 k)).run P w=.ok () w:=λ e k w=>MapKept.run_checkKey hK Taw e 9999
 unfold Instr.lookup;cases hc:l.lookup k with
 | none=>rw[hc] at hf;simp only[Sem.run_bind,run_underlying hT,Result.andThen_ok,MapKept.run_getObj_map hg,hk,Instr.findKey,run_underlying hK,hf,Sem.run_pure,hz];rfl
 | some v=>rw[hc] at hf;obtain⟨n,hf⟩:=hf;simp only[Sem.run_bind,run_underlying hT,Result.andThen_ok,MapKept.run_getObj_map hg,hk,Instr.findKey,run_underlying hK,hf,Sem.run_pure];rfl
omit hT hK in
theorem Cg (w:World)(g:Nat)(es:Array MapEntry)(c:Nat):w.grownBy (eO w g es c) (some g):=
 ⟨rfl,rfl,rfl,by simp[eO],λ i hi hne=>GM es c (λ e=>hne (by rw[e]))⟩
omit hT hK in
theorem iy.new (w:World):iy (w.alloc (.map #[] 0)) w.heap.size []:=by show(w.heap.push (.map #[] 0))[w.heap.size]?=_;rw[Array.getElem?_push_size];rfl
variable {ops:Array Oper} {rest:List Oper} {o:Oper} {a:Act} {w:World} {Q:Exit->Act->World->Prop}
theorem fM (hgd:o.guard=none)(m x y:Operand)(ho:o.op=.insert T m x y)(g:Nat)(hm:a.eval m=.map (some g))(k:Int)(hx:a.eval x=.int .u8 k)(v:Value)(hv:a.eval y=v) {l:List (Int×Value)}(hM:iy w g l)(hl:l.lookup k=none)
  (h:∀w',iy w' g (l++ [(k,v)])->w.grownBy w' (some g)->wpList P ops Q rest (a.put o.dst undef) w'):wpList P ops Q (o::rest) a w:=
 wpList_plain hgd λ K WX=>by
  unfold Oper.wp execOp;simp only[ho,hm,hx,hv,Sem.run_bind,Ol hT hK hM hl,Result.andThen_ok];have hM2:iy (eO w g (nD (l++ [(k,v)]) 0).toArray (l.length+1)) g (l++ [(k,v)]):=by have:=Kc (es':=(nD (l++ [(k,v)]) 0).toArray) (c':=l.length+1) hM;unfold iy;rw[length_append,length_singleton];exact this
  exact WX _ _ (h _ hM2 (Cg _ _ _ _))
omit hT hK in
theorem eV (hgd:o.guard=none)(T:TypeId)(ho:o.op=.makeMap T none)(h:wpList P ops Q rest (a.put o.dst (.map (some w.heap.size))) (w.alloc (.map #[] 0))):wpList P ops Q (o::rest) a w:=
 wpList_plain hgd λ K WX=>by unfold Oper.wp execOp;simp only[ho,Option.map_none,Sem.run_bind,run_makeMap,Result.andThen_ok];exact WX _ _ h
end
open Go.Shelf
def df (l:aT):Value:=.string ⟨l.toArray⟩
def zZ:List (Int×Value):=[(5,df [43]),(6,df [45]),(7,df [42]),(8,df [47]),(9,df [37]),(10,df [61]),(11,df [60,62]),(12,df [60]),(13,df [60,61]),(14,df [62]),(15,df [62,61]),(16,df [65,78,68]),(17,df [79,82])]
def RS (l:aT)(n:Int):Value:=.agg #[df l,.int .i64 n]
def Kd:List (Int×Value):=[(20,RS [98,117,99,107,101,116] 1),(22,RS [99,111,117,110,116] 1),(23,RS [115,117,109] 1),(24,RS [109,105,110] 1),(25,RS [109,97,120] 1),(26,RS [97,118,103] 1),(27,RS [102,105,114,115,116] 2),(28,RS [108,97,115,116] 2)]
theorem vr:∀(l:List (Int×Value)) (k:Int),(∀x∈l,x.1≠k)->l.lookup k=none
 | [],k,h=>rfl
 |(a,v)::l,k,h=>by
  have h1:(k==a)=false:=by simpa using λ e:k=a=>h (a,v) Tae e.symm
  rw[lookup_cons,h1];exact vr l k λ x hx=>h x (by simp[hx])
theorem Aa (k:Int):(zZ.lookup k).getD (df [])=df (oO k)/\(zZ.lookup k).isSome=cT k:=by
 by_cases h:5<=k/\k<=17
 ·obtain⟨n,rfl⟩:∃n:Nat,k=n+5:=⟨(k - 5).toNat,by omega⟩;have hn:n < 13:=by omega
  match n,hn with
  | 0,_ | 1,_ | 2,_ | 3,_ | 4,_ | 5,_ | 6,_ | 7,_ | 8,_ | 9,_ | 10,_ | 11,_ | 12,_=>exact⟨rfl,rfl⟩
 ·rw[vr zZ k (by intro x hx;simp[zZ] at hx;rcases hx with rfl | rfl | rfl | rfl | rfl | rfl | rfl | rfl | rfl | rfl | rfl | rfl | rfl <;> simp only[ne_eq] <;> omega)];constructor
  ·unfold oO;repeat rw[if_neg Taa]
   rfl
  ·unfold cT;simp only[Option.isSome_none];symm;simp only[Bool.and_eq_false_iff,decide_eq_false_iff_not];omega
theorem Ms (k:Int):(Kd.lookup k).getD (RS [] 0)=RS (mL k).1 ((mL k).2:Nat)/\(Kd.lookup k).isSome=jV k:=by
 by_cases h:k=20\/22<=k/\k<=28
 ·have h2:k=20\/k=22\/k=23\/k=24\/k=25\/k=26\/k=27\/k=28:=by omega
  rcases h2 with rfl | rfl | rfl | rfl | rfl | rfl | rfl | rfl <;> exact⟨rfl,rfl⟩
 ·rw[vr Kd k (by intro x hx;simp[Kd] at hx;rcases hx with rfl | rfl | rfl | rfl | rfl | rfl | rfl | rfl <;> simp only[ne_eq] <;> omega)];constructor
  ·unfold mL;repeat rw[if_neg Taa]
   rfl
  ·unfold jV;simp only[Option.isSome_none];symm;simp only[Bool.or_eq_false_iff,Bool.and_eq_false_iff,decide_eq_false_iff_not,beq_eq_false_iff_ne];omega
theorem GN (w:World):Calls Tryz.prog 94 #[] w λ e w'=>e=.returned (.map (some w.heap.size))/\iy w' w.heap.size zZ/\Below w.heap.size w w':=by
 go_enter Tryz.func94,Tryz.ntmps94;go_upto_region 1 with fail
 refine wp_region_lit ?_;refine eV rfl 92 rfl ?_;have hM:=iy.new w;have hB:=aa w (.map #[] 0);have jn:Below w.heap.size w (w.alloc (.map #[] 0)):=hB;clear hB;obtain⟨gm,ox⟩:∃gm,gm=w.heap.size:=⟨_,rfl⟩;rw[<- ox] at hM ⊢;have hle:w.heap.size<=gm:=Nat.le_of_eq ox.symm;have HGM:=hid ox;clear ox;generalize w.alloc _=W0 at*;go_wp2_with (first
  |(refine fM Tryz.underlying92 Tryz.underlying5 rfl _ _ _ rfl gm rfl _ rfl _ rfl hM TaQ ?_
    clear hM
    intro wm hM hgr
    replace jn:=jn.trans (aJ hgr jn.size hle)
    clear hgr))
 exact ZgK
theorem Ch (w:World):Calls Tryz.prog 95 #[] w λ e w'=>e=.returned (.map (some w.heap.size))/\iy w' w.heap.size Kd/\Below w.heap.size w w':=by
 go_enter Tryz.func95,Tryz.ntmps95;go_upto_region 1 with fail
 refine wp_region_lit ?_;refine eV rfl 144 rfl ?_;have hM:=iy.new w;have hB:=aa w (.map #[] 0);have jn:Below w.heap.size w (w.alloc (.map #[] 0)):=hB;clear hB;obtain⟨gm,ox⟩:∃gm,gm=w.heap.size:=⟨_,rfl⟩;rw[<- ox] at hM ⊢;have hle:w.heap.size<=gm:=Nat.le_of_eq ox.symm;have HGM:=hid ox;clear ox;generalize w.alloc _=W0 at*;go_wp2_with (first
  |(refine fM Tryz.underlying144 Tryz.underlying5 rfl _ _ _ rfl gm rfl _ rfl _ rfl hM TaQ ?_
    clear hM
    intro wm hM hgr
    replace jn:=jn.trans (aJ hgr jn.size hle)
    clear hgr))
 exact ZgK
theorem M9 (k:Int):(!(oO k).isEmpty)=cT k:=by
 by_cases h:5<=k/\k<=17
 ·obtain⟨n,rfl⟩:∃n:Nat,k=n+5:=⟨(k - 5).toNat,by omega⟩;have hn:n < 13:=by omega
  match n,hn with
  | 0,_ | 1,_ | 2,_ | 3,_ | 4,_ | 5,_ | 6,_ | 7,_ | 8,_ | 9,_ | 10,_ | 11,_ | 12,_=>rfl
 ·unfold oO;repeat rw[if_neg Taa]
  unfold cT;symm;simp only[isEmpty_nil,Bool.not_true,Bool.and_eq_false_iff,decide_eq_false_iff_not];omega
theorem Om (op:Int)(w:World):Calls Tryz.prog 142 #[.int .u8 op] w λ e w'=>e=.returned (.bool (ix op))/\Below w.heap.size w w':=by
 have H:=hid (Aa op);go_enter Tryz.func142,Tryz.ntmps142;by_cases h3:op=3
 ·subst h3;exact ZcO
 by_cases h4:op=4
 ·subst h4;exact ZcO
 by_cases Oo:op=18
 ·subst Oo;exact ZcO
 by_cases Oq:op=19
 ·subst Oq;exact ZcO
 have t3:(op==3)=false:=by simpa using h3
 have t4:(op==4)=false:=by simpa using h4
 have t18:(op==18)=false:=by simpa using Oo
 have t19:(op==19)=false:=by simpa using Oq
 have HL:=hid (show ix op=cT op by unfold ix;rw[t3,t4,t18,t19];rfl);clear h3 h4 Oo Oq;go_wp2_with fail;refine(GN w).mono ?_;rintro e w1 ⟨rfl,hM,b1⟩;go_wp2_with fail;rw[jH Tryz.underlying92 Tryz.underlying5 hM op (z:=df []) (λ w=>by kernel_rfl),H.out.1];simp only[Result.andThen];rw[Oper.upon_value];unfold df;go_wp2_with fail;go_ret;exact⟨by rw[HL.out,<- M9 op];rfl,b1⟩
theorem iT (y:Ex)(k:Int)(w:World):Calls Tryz.prog 96 #[dA y,.int .i64 k] w λ e w'=>e=.returned (.bool (decide ((y.n:Int)=k)&& bu y.v y.name y.width))/\Below w.heap.size w w':=by
 obtain⟨op,v,name,width,A,n,c⟩:=y;unfold dA aL;go_enter Tryz.func96,Tryz.ntmps96;go_wp2_with fail
 all_goals
  go_ret;refine⟨?_,by go_grown⟩;simp_all[bu,nB]
def fC (f:FuncId)(b:Nat)(w0:World)(y:Ex)(o:Option aT)(c:Nat):Prop:=∀W s n,eu w0.heap.size b s n W->Below w0.heap.size w0 W->n+c<=50000000->Calls Tryz.prog f #[.pointer (some ⟨b,0,none⟩),dA y] W (aW w0.heap.size b (aq s o) (n+c) W)
variable{b:Nat}{y:Ex}{o:Option aT}
theorem zhq.Kcq(h:p:=by refine(HX.out w1 s n nE.out (hw.trans fw.out.below) Taa).mono ?_;rintro e w2 ⟨rfl,h2,d2⟩;have H2:=hid (h2.more (show n+c<=n+(c+2) by omega));have D2:=hid (fw.out.trans d2);clear h2 d2 nE fw;go_wp2_with fail;exact⟨.tuple #[],results_none rfl _ _ _,rfl,by rw[HL.out];exact H2.out,D2.out⟩):p:=h
theorem zhr.Kcq(h:p:=by refine(HX.out W3 _ _ H3.out (hw.trans D3.out.below) Taa).mono ?_;rintro e w4 ⟨rfl,h4,d4⟩;have H4:=hid h4;have Ga:=hid (d4.blk HG.out hgb Tac);have D4:=hid (D3.out.trans d4);clear h4 d4 H3 D3 yX HG x0 x1 x2 x3 x4 x5 x6;go_wp2_with fail;refine leaves_cons (f:=39) (args:= #[.pointer (some ⟨b,0,none⟩),.slice (some ⟨g2,0,none⟩) 1 1]) Tae (by simp[go_sem]) ?_;refine(N0 [⟨#[41]⟩] g2 1 .returning w4 H4.out rfl Ga.out hgb Taa (by intro x hx;simp at hx;subst hx;decide) Taa).mono ?_;rintro e u' w5 ⟨rfl,rfl,h5,d5⟩;refine⟨.tuple #[],results_none rfl _ _ _,rfl,?_,D4.out.trans d5⟩;rw[HL.out];have:=h5.more (show n+1+c+1<=n+(c+2) by omega);exact Ze6):p:=h
theorem zh6.KcJ(h:p:=by
 cases hl:ix op
 ·have HL:=hid (show jt (op,o)=o by unfold jt;rw[hl];rfl);clear hl;have x0:=mn.out.cell 0;have x1:=mn.out.cell 1;have x2:=mn.out.cell 2;have x3:=mn.out.cell 3;have x4:=mn.out.cell 4;have x5:=mn.out.cell 5;have x6:=mn.out.cell 6;open zhq in exact Zf6
 ·have HL:=hid (show jt (op,o)=aq (some [40]) (aq o (some [41])) by unfold jt;rw[hl];rfl);clear hl;go_wp2_with fail;refine(cn ⟨#[40]⟩ w1 nE.out Tac Taa).mono ?_;rintro e w2 ⟨rfl,h2,d2⟩;have H2:=hid h2;have D2:=hid (fw.out.trans d2);have px:=hid (d2.blk mn.out kG Tac);clear h2 d2 nE fw mn;go_upto_region 4 with fail;have bm:=aa w2 (.cells #[.string ⟨#[41]⟩] 9);have HG:=hid (av.new w2 9 #[.string ⟨#[41]⟩]);have H3:=hid (H2.out.later bm);have lW:=D2.out.size;have D3:=hid (D2.out.later bm hsz);have yX:=hid (px.out.later bm);have hgb:w2.heap.size≠b:=by omega
  clear H2 D2 px;generalize w2.alloc _=W3 at*;generalize w2.heap.size=g2 at*;clear bm;have x0:=yX.out.cell 0;have x1:=yX.out.cell 1;have x2:=yX.out.cell 2;have x3:=yX.out.cell 3;have x4:=yX.out.cell 4;have x5:=yX.out.cell 5;have x6:=yX.out.cell 6;open zhr in exact Zf6):p:=h
theorem nd{w0:World}   (hx:fC 60 b w0 y o c):fC 97 b w0 y (jt (y.op,o)) (c+2):=by
 intro w s n h hw hn;obtain⟨op,v,name,width,A,k,cp⟩:=y;have HX:=hid hx;have HH:=hid h;have hsz:=h.size;have hlt:=h.lt;clear hx h;unfold dA aL;go_enter_defers Tryz.func97,Tryz.ntmps97;have HB:=hid (av.new w 36 #[.int .u8 op,.int .u8 v.k,.int .i64 v.n,.string v.s,.string name,.int .i64 width,.slice A k cp]);have bx:=aa w (.cells #[.int .u8 op,.int .u8 v.k,.int .i64 v.n,.string v.s,.string name,.int .i64 width,.slice A k cp] 36);have HS:=hid (HH.out.later bx);have HD:=hid (ck.aA (b:=b) bx hsz);have kG:w.heap.size≠b:=by omega
 have x0:=HB.out.cell 0;have x1:=HB.out.cell 1;have x2:=HB.out.cell 2;have x3:=HB.out.cell 3;have x4:=HB.out.cell 4;have x5:=HB.out.cell 5;have x6:=HB.out.cell 6;simp only[Uaa] at x0 x1 x2 x3 x4 x5 x6;clear HH;go_upto_region 1 with fail;generalize w.alloc _=W1 at*;clear bx;go_wp2_with fail;refine(Om op W1).mono ?_;open zh6 in exact ZgX
def sT (n:Nat)(f:Nat->Value):Array Value:=((List.range n).map f).toArray
variable{n:Nat}
theorem dJ(T:Array Value)(h:T.size=n):∃f:Nat->Value,T=sT n f:=by refine⟨λ i=>T.getD i undef,Array.ext (by simp[sT,h]) λ i h1 h2=>?_⟩;simp[sT,Array.getD,h1]
variable{i:Nat}
theorem aw(f:Nat->Value)(h:i < n):(sT n f).getD i undef=f i:=by simp[sT,Array.getD,h]
def iz:Code->Nat->Code
 | .seq _ b,n+1=>iz b n
 | c,_=>c
def wU (w:World)(g:Nat)(y:Ex):Prop:=av w g 36 #[.int .u8 y.op,.int .u8 y.v.k,.int .i64 y.v.n,.string y.v.s,.string y.name,.int .i64 y.width,.slice y.A y.n y.c]
theorem wU.cells(h:wU w g y):w.cell? ⟨g,0,none⟩=some (.int .u8 y.op)/\w.cell? ⟨g,1,none⟩=some (.int .u8 y.v.k)/\w.cell? ⟨g,2,none⟩=some (.int .i64 y.v.n)/\w.cell? ⟨g,3,none⟩=some (.string y.v.s)/\w.cell? ⟨g,4,none⟩=some (.string y.name)/\w.cell? ⟨g,5,none⟩=some (.int .i64 y.width)/\w.cell? ⟨g,6,none⟩=some (.slice y.A y.n y.c):=
 ⟨h.cell 0,h.cell 1,h.cell 2,h.cell 3,h.cell 4,h.cell 5,h.cell 6⟩
variable{B:Nat}
theorem wU.did(h:wU w g y)(d:ck B b w w')(hg:g≠b):wU w' g y:=d.blk h hg Tac
theorem wU.later(h:wU w g y)(d:Below w.heap.size w w'):wU w' g y:=av.later h d
structure ahp (y:Ex):Prop where
 v:y.v.Ok
 vs:y.v.s.size<=1048576
 name:y.name.size<=1048576
 w0: -9223372036854775808<=y.width
 w1:y.width<=9223372036854775807
def Wc (op:Int):Array Value:= #[df (mL op).1,.int .i64 ((mL op).2:Nat)]
structure vu (B:Nat) (F:Array Value) (w w':World):Prop where
 below:Below B w w'
 kept:Lib.OthersKept 142 none w w'
 rows:∀(k:Nat) (cs:Array Value),av w k 142 cs->av w' k 142 cs\/av w' k 142 F
variable{F:Array Value}
theorem vu.refl(w:World):vu B F w w:=⟨Below.refl _ _,Lib.OthersKept.refl _ _ _,λ _ _ h=> .inl h⟩
variable{a:World}
theorem vu.trans{b c:World}(h:vu B F a b)(k:vu B F b c):vu B F a c:=⟨h.below.trans k.below,h.kept.trans k.kept,λ q cs hq=>by
 rcases h.rows q cs hq with h1 | h1
 ·exact k.rows q cs h1
 ·exact .inr ((k.rows q F h1).elim id id)⟩
theorem vu.later(h:Below w.heap.size w w')(hB:B<=w.heap.size):vu B F w w':=⟨h.mono hB,λ k o hk _ _=>(h.block k (qg hk)).trans hk,λ k cs hk=> .inl (av.later hk h)⟩
theorem vu.drew(w:World):vu B F w w.drew:=⟨(Below.refl _ _).drew,(Lib.OthersKept.refl _ _ _).drew,λ _ _ h=> .inl h⟩
variable{t:TypeId}{cs:Array Value}
theorem vu.blk(h:vu B F w w')   (hg:av w g t cs)(ht:t≠142):av w' g t cs:=h.kept g _ hg (λ e=>by cases e) (λ c fz e=>ht (by injection e with _ e _))
theorem vu.map(h:vu B F w w')  (hg:iy w g l):iy w' g l:=h.kept g _ hg (λ e=>by cases e) (λ c fz e=>by cases e)
theorem WY(h:av w q 142 cs)(hs:cs.size=2)(hB:B<=q)(u v:Value):
  vu B #[u,v] w ((w.setCell ⟨q,0,none⟩ u).setCell ⟨q,1,none⟩ v)/\av ((w.setCell ⟨q,0,none⟩ u).setCell ⟨q,1,none⟩ v) q 142 #[u,v]:=by
 obtain⟨a,b,rfl⟩:∃a b,cs= #[a,b]:=by
  obtain⟨l⟩:=cs
  match l,hs with
  | [a,b],_=>exact⟨a,b,rfl⟩
 have hb:av ((w.setCell ⟨q,0,none⟩ u).setCell ⟨q,1,none⟩ v) q 142 #[u,v]:=by unfold av at h ⊢;simp[World.setCell,Array.getElem?_modify,h]
 have Rs:∀k,k≠q->((w.setCell ⟨q,0,none⟩ u).setCell ⟨q,1,none⟩ v).heap[k]?=w.heap[k]?:=λ k hk=>by rw[Below.heap_setCell _ _ _ _ (by simpa using λ e=>hk e),Below.heap_setCell _ _ _ _ (by simpa using λ e=>hk e)]
 refine⟨⟨((Below.refl _ _).setCell (p:=⟨q,0,none⟩) hB _).setCell (p:=⟨q,1,none⟩) hB _,λ k o hk _ ho=>?_,λ k ds hk=>?_⟩,hb⟩
 ·refine(Rs k λ e=>?_).trans hk;subst e;unfold av at h;rw[h] at hk;injection hk with hk;exact ho _ _ hk.symm
 ·by_cases e:k=q
  ·subst e;exact .inr hb
  ·exact .inl ((Rs k e).trans hk)
def e2V (B gx:Nat)(op:Int):Nat->World->Value->Prop
 | 0=>λ w v=>∃q,v=.map (some q)/\iy w q Kd
 | 1=>λ _ v=>v=.pointer (some ⟨gx,0,none⟩)
 | 2=>λ _ v=>v=.int .u8 op
 | 3=>λ _ v=>v=.tuple #[.agg (Wc op),.bool (jV op)]
 | 4=>λ _ v=>v=.tuple #[.agg (Wc op),.bool (jV op)]
 | 5=>λ _ v=>v=.agg (Wc op)
 | 6=>λ _ v=>v=.bool (jV op)
 | 7=>λ w v=>∃g,v=.pointer (some ⟨g,0,none⟩)/\B<=g/\∃cs,av w g 142 cs/\cs.size=2
 | _=>λ _ _=>True
theorem Ot (B gx:Nat)(op:Int)(i:Nat)(w w':World)(v:Value)(h:e2V B gx op i w v)(hr:vu B (Wc op) w w'):e2V B gx op i w' v:=by
 unfold e2V at*;split at h
 ·obtain⟨q,h1,h2⟩:=h;exact⟨q,h1,hr.map h2⟩
 ·exact h
 ·exact h
 ·exact h
 ·exact h
 ·exact h
 ·exact h
 ·obtain⟨g,h1,h2,cs,h3,h4⟩:=h;rcases hr.rows _ _ h3 with h5 | h5
  ·exact⟨g,h1,h2,cs,h5,h4⟩
  ·exact⟨g,h1,h2,_,h5,rfl⟩
 ·trivial
def e2U (B:Nat)(op:Int)(i:Nat)(w:World)(ρ:Operand->Value):Prop:=
 i=8->∃g,ρ (.tmp 6)=.pointer (some ⟨g,0,none⟩)/\B<=g/\av w g 142 (Wc op)
variable{ρ ρ':Operand->Value}
theorem Ou(B:Nat)(op:Int)  (i:Nat)(h:e2U B op i w ρ)(hr:vu B (Wc op) w w')(he:i=8->ρ' (.tmp 6)=ρ (.tmp 6)):e2U B op i w' ρ':=by
 intro hi;obtain⟨g,h1,h2,h4⟩:=h hi;rcases hr.rows _ _ h4 with h5 | h5
 ·exact⟨g,(he hi).trans h1,h2,h5⟩
 ·exact⟨g,(he hi).trans h1,h2,h5⟩
variable{P:Program}{Q:Exit->Act->World->Prop}{a0:Act}{id:Nat}{ops:List Oper}
theorem Ke{w0:World}  (k:Nat)(R:World->World->Prop)(hrefl:∀w,R w w)(tW:∀a b c,R a b->R b c->R a c)(nw:∀w,R w w.drew)
  (V:Nat->World->Value->Prop) (U:Nat->World->(Operand->Value)->Prop) (hU:Rp (ops.take k) R U) (hV:∀i w w' v,V i w v->R w w'->V i w' v) (hm:P.follows .mixedOrders=true)
  (ay:cM (ops.take k) a0.tmps.size (ops.take k) 0=true) (hz:dw ops (ops.drop k) (ops.take k).length=true)
  (hs:Ee P (ops.take k) R V U a0 w0 (ops.take k) 0) (hf:∀w,R w0 w->cN V (λ a w=>(∀i o,(ops.take k)[i]?=some o->U i w a.eval)->wpList P ops.toArray Q (ops.drop k) a w) (ops.take k) 0 a0 w):(Code.region id ops.toArray true).wp P Q a0 w0:=
 Ef (ops.drop k) (ops.take k) (take_append_drop k ops).symm R hrefl tW nw V U hU hV hm ay TaS hs hf
noncomputable def qX:Code:=Tryz.f60.body.getD .skip
structure EH (T:Array Value) (b gx gf:Nat) (op:Int):Prop where
 sz:T.size=249
 t0:T.getD 0 undef=.pointer (some ⟨b,0,none⟩)
 t3:T.getD 3 undef=.pointer (some ⟨gx,0,none⟩)
 t4:T.getD 4 undef=df (oO op)
 t5:T.getD 5 undef=.bool (cT op)
 t6:T.getD 6 undef=.pointer (some ⟨gf,0,none⟩)
 t7:T.getD 7 undef=.bool (jV op)
structure py (w0:World) (b:Nat) (s:Option aT) (n:Nat) (ws W:World) (gx gf:Nat) (y:Ex):Prop where
 x:wU W gx y
 f:av W gf 142 (Wc y.op)
 st:eu w0.heap.size b s n W
 did:ck w0.heap.size b ws W
section
variable {w0 ws W W':World} {b n m gx gf:Nat} {s s':Option aT} {y:Ex}
theorem py.next (h:py w0 b s n ws W gx gf y)(hx:gx≠b)(hf:gf≠b)(h1:eu w0.heap.size b s' m W')(d:ck w0.heap.size b W W'):py w0 b s' m ws W' gx gf y:=⟨h.x.did d hx,d.blk h.f hf Tac,h1,h.did.trans d⟩
theorem py.later (h:py w0 b s n ws W gx gf y)(hB:w0.heap.size<=ws.heap.size)(k:Below W.heap.size W W'):py w0 b s n ws W' gx gf y:=⟨h.x.later k,av.later h.f k,h.st.later k,h.did.later k hB⟩
theorem py.ju (h:py w0 b s n ws W gx gf y):W.cell? ⟨gf,0,none⟩=some (df (mL y.op).1)/\W.cell? ⟨gf,1,none⟩=some (.int .i64 ((mL y.op).2:Nat)):=⟨h.f.cell 0,h.f.cell 1⟩
end
def e1V (g:Nat)(op:Int):Nat->World->Value->Prop
 | 0,w,v=>∃q:Nat,v=.map (some q)/\iy w q zZ
 | 1,_,v=>v=.pointer (some ⟨g,0,none⟩)
 | 2,_,v=>v=.int .u8 op
 | 3,_,v=>v=.tuple #[df (oO op),.bool (cT op)]
 | 4,_,v=>v=.tuple #[df (oO op),.bool (cT op)]
 | 5,_,v=>v=df (oO op)
 | 6,_,v=>v=.bool (cT op)
 | 7,_,v=>v=df (oO op)
 | 8,_,v=>v=.bool (cT op)
 | _,_,_=>False
theorem Ov (g:Nat)(op:Int):∀i w w' v,e1V g op i w v->af w w'->e1V g op i w' v:=by
 intro i w w' v h hl
 match i with
 | 1 | 2 | 3 | 4 | 5 | 6 | 7 | 8=>exact h
 | 0=>obtain⟨q,h1,f0⟩:=h;exact⟨q,h1,f0.later hl⟩
 | n+9=>exact h
variable{s:Option aT}{R:Ending->World->Prop}
theorem zeS.Kbj(h:p:=by
 have HD:=hid (ck.aA (b:=b) bx N2);have kG:w.heap.size≠b:=by omega
 clear HH;go_upto_region 1 with fail;generalize w.alloc _=W1 at*;clear bx;refine cE 9 (e1V w.heap.size op) (Ov _ _) Tab Tab Tab ?_ ?_
 ·simp only[take_succ_cons,take_zero];refine⟨?_,Zbz,?_,?_,Zbz,ZbK,ZbK,Zbz,Zbz,trivial⟩
  ·intro ρ w3 hc hL hr;have e1:=hc.func 94;refine dB (f:=94) (args:= #[]) (w':=w3) (by simp[go_sem,e1];done) ?_;refine(GN w3).mono ?_;rintro e w4 ⟨rfl,hM,b4⟩;exact⟨_,rfl,b4,_,rfl,hM⟩
  ·intro ρ w3 hc hL hr;have h0:_=_:=hr.1;have cc:=((HB.out.later hL).cells).1;exact ae (w':=w3) (by simp[go_sem,h0,cc];done) ⟨af.refl _,rfl⟩
  ·intro ρ w3 hc hL hr;obtain⟨q0,h0,ahs⟩:∃q:Nat,ρ (.tmp 9)=.map (some q)/\iy w3 q zZ:=hr.1;have h1:_=_:=hr.2.1;have e:=xN (P:=Tryz.prog) Tryz.underlying92 Tryz.underlying5 ahs op (z:=df []) (λ w=>by kernel_rfl);rw[(Aa op).1,(Aa op).2] at e;exact ae (w':=w3) (by simp[go_sem,h0,h1,e];done) ⟨af.refl _,rfl⟩
 intro W2 hL;simp only[Uab];rintro a0 ⟨q_0,rfl,amI⟩ _ rfl _ rfl _ rfl _ rfl _ rfl _ rfl _ rfl _ rfl;simp only[cN,Act.put,Uac];have px:=hid (HB.out.later hL);have rk:=hid (HS.out.later hL);have eC:=hid (HD.out.later hL N2);clear HB HS HD hL;go_upto_region 2 with fail;rename_i hK;have HK:=hid hK;clear hK;refine Ke 9 (vu W2.heap.size (Wc op)) vu.refl (λ _ _ _=>vu.trans) vu.drew (e2V W2.heap.size w.heap.size op) (e2U W2.heap.size op) ?_ (λ i u u' v h hr=>Ot _ _ _ _ _ _ _ h hr) Tab Tab Tab ?_ ?_
 ·intro i o u u' ρ ρ' hi hu hr hk;refine Ou _ _ i hu hr λ e=>?_
  subst e;simp only[take_succ_cons,take_zero] at hi hk;refine hk 7 ?_ _ 6 rfl rfl;injection hi with hi;subst hi;decide
 ·simp only[take_succ_cons,take_zero];refine⟨?_,ZdV,?_,?_,?_,ZdV,ZdV,?_,?_,trivial⟩
  ·intro ρ w1 hc hL hr;have e1:=hc.func 95;refine dB (f:=95) (args:= #[]) (w':=w1) (by simp[go_sem,e1]) ?_;refine(Ch w1).mono ?_;rintro e w2 ⟨rfl,hM,hb⟩;exact⟨_,rfl,vu.later hb hL.below.size,⟨_,rfl,hM⟩,λ h=>by cases h⟩
  ·intro ρ w1 hc hL hr;have h1:_=_:=hr.1;have c0:=(wU.cells (hL.blk px.out Tac)).1;exact ae (w':=w1) (by simp[go_sem,h1,c0]) ⟨vu.refl _,rfl,λ h=>by cases h⟩
  ·intro ρ w1 hc hL hr;obtain⟨g,h1,hg⟩:∃g,ρ (.tmp 16)=.map (some g)/\iy w1 g Kd:=hr.1;have h2:_=_:=hr.2.1;have e:=xN (P:=Tryz.prog) Tryz.underlying144 Tryz.underlying5 hg op (z:=RS [] 0) (λ w=>by kernel_rfl);rw[(Ms op).1,(Ms op).2] at e;exact ae (v:=.tuple #[.agg (Wc op),.bool (jV op)]) (w':=w1) (by simp[execOp,h1,h2,e];rfl) ⟨vu.refl _,rfl,λ h=>by cases h⟩
  ·intro ρ w1 hc hL hr;exact Ro (.inl rfl) rfl ⟨vu.refl _,hr.1,λ h=>by cases h⟩
  ·intro ρ w1 hc hL hr;refine ae (w':=w1.alloc (.cells #[df [],.int .i64 0] 142)) (by simp[go_sem];rfl) ⟨vu.later (aa w1 _) hL.below.size,⟨w1.heap.size,rfl,hL.below.size,_,av.new w1 _ _,rfl⟩,λ h=>by cases h⟩
  ·intro ρ w1 hc hL hr;obtain⟨g,h1,hgB,cs,hcs,hsz⟩:∃g,ρ (.tmp 6)=.pointer (some ⟨g,0,none⟩)/\W2.heap.size<=g/\∃cs,av w1 g 142 cs/\cs.size=2:=hr.1;have h2:_=_:=hr.2.1;obtain⟨f1,f2⟩:=WY hcs hsz hgB (df (mL op).1) (.int .i64 ((mL op).2:Nat));have c:∀i,(hi:i < 2)->w1.cell? ⟨g,i,none⟩=some (cs[i]' Taa):=λ i hi=>(hcs.cell i).trans (Array.getElem?_eq_getElem Taa)
   have fz:=hcs.frozen;have c0:=c 0 Taa;have c1:=c 1 Taa;refine rE (w':=(w1.setCell ⟨g,0,none⟩ (df (mL op).1)).setCell ⟨g,1,none⟩ (.int .i64 ((mL op).2:Nat))) ?_ ⟨f1,trivial,λ _=>⟨g,h1,hgB,f2⟩⟩;simp[go_sem,h1,h2,Wc,df,c0,c1,fz]
 ·intro W3 hL;simp only[Uab];rintro _ ⟨gm,rfl,ox⟩ _ rfl _ rfl _ rfl _ rfl _ rfl _ rfl _ ⟨g4,rfl,hg4,cs,hcs,hsz⟩ hu;obtain⟨g,hg,hgB,hob⟩:=hu 8 _ rfl rfl;have aZ:g4=g:=by simpa [Act.put,Act.eval] using hg
  subst aZ;clear hu hg hcs hsz cs ox hg4;simp only[cN,Act.put,Uac];have yX:=hid (show wU W3 w.heap.size ⟨op,v,name,width,A,k,cp⟩from hL.blk px.out Tac);have hW2:=eC.out.size;have HS3:=hid (rk.out.later hL.below);have jv:=hid (eC.out.later hL.below N2);have HF3:=hid hob;have aht:g4≠b:=by have:=rk.out.lt;omega
  clear px rk eC hL hob hgB;go_wp2_with fail;refine HK.out _ _ ?_;have key:=λ T hT=>HR.out W3 g4 T hT ⟨yX.out,HF3.out,HS3.out,jv.out⟩ kG aht
  simp only[qX,iz,Tryz.f60,Option.getD_some] at key;exact key _ ⟨rfl,rfl,rfl,rfl,rfl,rfl,rfl⟩):p:=h
theorem Kf{w0:World}    (h:eu w0.heap.size b s n w)
  (rB:∀(W:World) (gf:Nat) (T:Array Value),EH T b w.heap.size gf y.op->py w0 b s n w W w.heap.size gf y->w.heap.size≠b->gf≠b->(iz qX 3).wp Tryz.prog (bodyPost Tryz.prog Tryz.f60 R) { tmps:=T,defers:=[] } W):
  Calls Tryz.prog 60 #[.pointer (some ⟨b,0,none⟩),dA y] w R:=by obtain⟨op,v,name,width,A,k,cp⟩:=y;have HH:=hid h;have HR:=hid rB;have N2:=h.size;have hlt:=h.lt;clear h rB;unfold dA aL;go_enter Tryz.func60,Tryz.ntmps60;open zeS in exact Zct
def vv (w0:World)(q off:Nat)(z:Ex):Prop:=q < w0.heap.size/\w0.cell? ⟨q,off,none⟩=some (.int .u8 z.op)/\w0.cell? ⟨q,off+1,none⟩=some (.int .u8 z.v.k)/\w0.cell? ⟨q,off+2,none⟩=some (.int .i64 z.v.n)/\w0.cell? ⟨q,off+3,none⟩=some (.string z.v.s)/\w0.cell? ⟨q,off+4,none⟩=some (.string z.name)/\w0.cell? ⟨q,off+5,none⟩=some (.int .i64 z.width)/\w0.cell? ⟨q,off+6,none⟩=some (.slice z.A z.n z.c)
variable{W:World}{off:Nat}{z:Ex}
theorem vv.later{w0:World}  (h:vv w0 q off z)(hw:Below w0.heap.size w0 W):W.cell? ⟨q,off,none⟩=some (.int .u8 z.op)/\W.cell? ⟨q,off+1,none⟩=some (.int .u8 z.v.k)/\W.cell? ⟨q,off+2,none⟩=some (.int .i64 z.v.n)/\W.cell? ⟨q,off+3,none⟩=some (.string z.v.s)/\W.cell? ⟨q,off+4,none⟩=some (.string z.name)/\W.cell? ⟨q,off+5,none⟩=some (.int .i64 z.width)/\W.cell? ⟨q,off+6,none⟩=some (.slice z.A z.n z.c):=by obtain⟨hq,h0,h1,h2,h3,h4,h5,h6⟩:=h;exact⟨(hw.cell (p:=⟨q,off,none⟩) hq).trans h0,(hw.cell (p:=⟨q,off+1,none⟩) hq).trans h1,(hw.cell (p:=⟨q,off+2,none⟩) hq).trans h2,(hw.cell (p:=⟨q,off+3,none⟩) hq).trans h3,(hw.cell (p:=⟨q,off+4,none⟩) hq).trans h4,(hw.cell (p:=⟨q,off+5,none⟩) hq).trans h5,(hw.cell (p:=⟨q,off+6,none⟩) hq).trans h6⟩
theorem eu.vw(h:eu B b s n W):(∃x,W.cell? ⟨b,2,none⟩=some (.bool x))/\W.frozen? ⟨b,2,none⟩=false/\eu B b none n (W.setCell ⟨b,2,none⟩ (.bool true))/\ck B b W (W.setCell ⟨b,2,none⟩ (.bool true)):=by have hlt:=h.lt;obtain⟨bad,l,h1,h2,rfl⟩:=h;obtain⟨p,v,hb⟩:=h1.cells;exact⟨⟨bad,by rw[Lib.cell_of_heap hb];rfl⟩,Lib.frozen_of_heap hb 2,⟨true,l,h1.set _,h2,rfl⟩,⟨(Below.refl _ _).setCell (p:=⟨b,2,none⟩) hlt.1 _,(Lib.OthersKept.refl _ _ _).setCell ⟨b,2,none⟩ rfl _⟩⟩
theorem WZ (k:Int):(oO k).length<=3:=by
 by_cases h:5<=k/\k<=17
 ·obtain⟨n,rfl⟩:∃n:Nat,k=n+5:=⟨(k - 5).toNat,by omega⟩;have hn:n < 13:=by omega
  match n,hn with
  | 0,_ | 1,_ | 2,_ | 3,_ | 4,_ | 5,_ | 6,_ | 7,_ | 8,_ | 9,_ | 10,_ | 11,_ | 12,_=>decide
 ·unfold oO;repeat rw[if_neg Taa]
  decide
variable{ws:World}{gx gf:Nat}{op width:Int}{A:Option Addr}{k cp:Nat}{T:Array Value}{c0 c1:Nat}{z0 z1:Ex}{o0 o1:Option aT}
theorem zht.Kcr(h:p:=by refine(I0.out w1 s n H1.out.st yY Taa).mono ?_;rintro e w2 ⟨rfl,h2,d2⟩;have H2:=hid (H1.out.next hx hf h2 d2);clear h2 d2 H1 yY k0 k1 k2 k3 k4 k5 k6 x0 x1 x2 x3 x4 x5 x6;unfold df;go_wp2_with fail;refine(Ab ⟨#[32]⟩ ⟨(oO op).toArray⟩ ⟨#[32]⟩ w2 H2.out.st Tac (by show(oO op).toArray.size<=_;simp;omega) Tac Taa).mono ?_;rintro e w3 ⟨rfl,h3,d3⟩;have H3:=hid (H2.out.next hx hf h3 d3);clear h3 d3 H2;obtain⟨x0,x1,x2,x3,x4,x5,x6⟩:=H3.out.x.cells;dsimp only at x0 x1 x2 x3 x4 x5 x6;have hw3:=hw.trans H3.out.did.below;obtain⟨k0,k1,k2,k3,k4,k5,k6⟩:=A1.out.later hw3;go_wp2_with fail;refine(I1.out w3 _ _ H3.out.st hw3 Taa).mono ?_;rintro e w4 ⟨rfl,h4,d4⟩;have H4:=hid (H3.out.next hx hf h4 d4);clear h4 d4 H3 hw3 k0 k1 k2 k3 k4 k5 k6 x0 x1 x2 x3 x4 x5 x6;go_wp2_with fail;go_end0;refine⟨rfl,?_,H4.out.did⟩;have:=H4.out.st;exact Ze6):p:=h
theorem zdK.KaW(h:p:=by go_wp2_with fail;refine(iT ⟨op,v,name,width,some ⟨q,off,none⟩,2,cp⟩ 2 W).mono ?_;rintro e w1 ⟨rfl,b1⟩;have H1:=hid (HH.out.later hsz b1);rw[show(decide (((2:Nat):Int)=2)&& bu v name width)=true by rw[hp];rfl];clear HH b1 x0 x1 x2 x3 x4 x5 x6;open zht in exact Zf7):p:=h
theorem zas.Kac(h:p:=by rw[Jw] at h5;simp only[sT,List.range,List.range.loop,List.map,h0,h3,h4,h5,h6,h7];clear hT Jw h0 h3 h4 h5 h6 h7;have hsz:=Nat.le_trans hw.size (Nat.le_refl ws.heap.size);have HH:=hid h;clear h;subst hk hA;have I0:=hid i0;have I1:=hid i1;have A0:=hid a0;have A1:=hid a1;have htl:(oO op).length<=3:=WZ op;clear i0 i1 a0 a1;open zdK in exact Zby):p:=h
theorem N6{w0:World}    {v:Val} {name:ByteArray}    (hE:di w0)(hw:Below w0.heap.size w0 ws)(t1:(op==1)=false)(t2:(op==2)=false)(t21:(op==21)=false)(Jw:cT op=true)   (hA:A=some ⟨q,off,none⟩)(hk:k=2)(hp:bu v name width=true)(a0:vv w0 q off z0)(a1:vv w0 q (off+7) z1)(i0:fC 97 b w0 z0 o0 c0)(i1:fC 97 b w0 z1 o1 c1)(hn:n+c0+3+c1<=50000000)(hT:EH T b gx gf (op))(h:py w0 b s n ws W gx gf ⟨op,v,name,width,A,k,cp⟩)(hx:gx≠b)(hf:gf≠b):
  (iz qX 3).wp Tryz.prog (bodyPost Tryz.prog Tryz.f60 (aW w0.heap.size b (aq s (aq o0 (aq (some (32::(oO op++ [32]))) o1))) (n+c0+3+c1) ws)) { tmps:=T,defers:=[] } W:=by
 open zas in exact Zac
theorem zbA.Kan(h:p:=by go_wp2_with fail;refine(iT ⟨op,v,name,width,A,k,cp⟩ 2 W).mono ?_;exact Zas):p:=h
theorem zat.Kac(h:p:=by rw[Jw] at h5;rw[QR] at h7;simp only[sT,List.range,List.range.loop,List.map,h0,h3,h4,h5,h6,h7];clear hT Jw QR h0 h3 h4 h5 h6 h7;open zbA in exact Zax):p:=h
theorem Xb{w0:World}    {v:Val} {name:ByteArray}    (hE:di w0)(hw:Below w0.heap.size w0 ws)(t1:(op==1)=false)(t2:(op==2)=false)(t21:(op==21)=false)(t3:(op==3)=false)(t4:(op==4)=false)(t18:(op==18)=false)(t19:(op==19)=false)(Jw:cT op=true)(QR:jV op=false)(vx:(decide ((k:Int)=2)&& bu v name width)=false)(hT:EH T b gx gf (op))(h:py w0 b s n ws W gx gf ⟨op,v,name,width,A,k,cp⟩)(hx:gx≠b)(hf:gf≠b):
  (iz qX 3).wp Tryz.prog (bodyPost Tryz.prog Tryz.f60 (aW w0.heap.size b (aq s (none)) (n) ws)) { tmps:=T,defers:=[] } W:=by
 open zat in exact Zac
theorem zbB.Kan(h:p:=by go_wp2_with fail;refine(iT ⟨3,v,name,width,A,k,cp⟩ 1 W).mono ?_;exact Zas):p:=h
theorem zau.Kac(h:p:=by rw[show cT 3=false from rfl] at h5;rw[show jV 3=false from rfl] at h7;simp only[sT,List.range,List.range.loop,List.map,h0,h3,h4,h5,h6,h7];clear hT h0 h3 h4 h5 h6 h7;open zbB in exact Zax):p:=h
theorem Xc{w0:World}   {v:Val} {name:ByteArray}    (hE:di w0)(hw:Below w0.heap.size w0 ws)(vx:(decide ((k:Int)=1)&& bu v name width)=false)(hT:EH T b gx gf (3))(h:py w0 b s n ws W gx gf ⟨3,v,name,width,A,k,cp⟩)(hx:gx≠b)(hf:gf≠b):
  (iz qX 3).wp Tryz.prog (bodyPost Tryz.prog Tryz.f60 (aW w0.heap.size b (aq s (none)) (n) ws)) { tmps:=T,defers:=[] } W:=by
 open zau in exact Zac
theorem zbC.Kan(h:p:=by go_wp2_with fail;refine(iT ⟨4,v,name,width,A,k,cp⟩ 1 W).mono ?_;exact Zas):p:=h
theorem zav.Kac(h:p:=by rw[show cT 4=false from rfl] at h5;rw[show jV 4=false from rfl] at h7;simp only[sT,List.range,List.range.loop,List.map,h0,h3,h4,h5,h6,h7];clear hT h0 h3 h4 h5 h6 h7;open zbC in exact Zax):p:=h
theorem Xd{w0:World}   {v:Val} {name:ByteArray}    (hE:di w0)(hw:Below w0.heap.size w0 ws)(vx:(decide ((k:Int)=1)&& bu v name width)=false)(hT:EH T b gx gf (4))(h:py w0 b s n ws W gx gf ⟨4,v,name,width,A,k,cp⟩)(hx:gx≠b)(hf:gf≠b):
  (iz qX 3).wp Tryz.prog (bodyPost Tryz.prog Tryz.f60 (aW w0.heap.size b (aq s (none)) (n) ws)) { tmps:=T,defers:=[] } W:=by
 open zav in exact Zac
theorem zbD.Kan(h:p:=by go_wp2_with fail;refine(iT ⟨18,v,name,width,A,k,cp⟩ 1 W).mono ?_;exact Zas):p:=h
theorem zaw.Kac(h:p:=by rw[show cT 18=false from rfl] at h5;rw[show jV 18=false from rfl] at h7;simp only[sT,List.range,List.range.loop,List.map,h0,h3,h4,h5,h6,h7];clear hT h0 h3 h4 h5 h6 h7;open zbD in exact Zax):p:=h
theorem RZ{w0:World}   {v:Val} {name:ByteArray}    (hE:di w0)(hw:Below w0.heap.size w0 ws)(vx:(decide ((k:Int)=1)&& bu v name width)=false)(hT:EH T b gx gf (18))(h:py w0 b s n ws W gx gf ⟨18,v,name,width,A,k,cp⟩)(hx:gx≠b)(hf:gf≠b):
  (iz qX 3).wp Tryz.prog (bodyPost Tryz.prog Tryz.f60 (aW w0.heap.size b (aq s (none)) (n) ws)) { tmps:=T,defers:=[] } W:=by
 open zaw in exact Zac
theorem zbE.Kan(h:p:=by go_wp2_with fail;refine(iT ⟨19,v,name,width,A,k,cp⟩ 1 W).mono ?_;exact Zas):p:=h
theorem zax.Kac(h:p:=by rw[show cT 19=false from rfl] at h5;rw[show jV 19=false from rfl] at h7;simp only[sT,List.range,List.range.loop,List.map,h0,h3,h4,h5,h6,h7];clear hT h0 h3 h4 h5 h6 h7;open zbE in exact Zax):p:=h
theorem GU{w0:World}   {v:Val} {name:ByteArray}    (hE:di w0)(hw:Below w0.heap.size w0 ws)(vx:(decide ((k:Int)=1)&& bu v name width)=false)(hT:EH T b gx gf (19))(h:py w0 b s n ws W gx gf ⟨19,v,name,width,A,k,cp⟩)(hx:gx≠b)(hf:gf≠b):
  (iz qX 3).wp Tryz.prog (bodyPost Tryz.prog Tryz.f60 (aW w0.heap.size b (aq s (none)) (n) ws)) { tmps:=T,defers:=[] } W:=by
 open zax in exact Zac
theorem zbF.Kan(h:p:=by exact Zdb):p:=h
theorem zay.Kac(h:p:=by rw[Jw] at h5;rw[QR] at h7;simp only[sT,List.range,List.range.loop,List.map,h0,h3,h4,h5,h6,h7];clear hT Jw QR h0 h3 h4 h5 h6 h7;open zbF in exact Zax):p:=h
theorem O0{w0:World}    {v:Val} {name:ByteArray}    (hE:di w0)(hw:Below w0.heap.size w0 ws)(t1:(op==1)=false)(t2:(op==2)=false)(t21:(op==21)=false)(t3:(op==3)=false)(t4:(op==4)=false)(t18:(op==18)=false)(t19:(op==19)=false)(Jw:cT op=false)(QR:jV op=true)(tk:((k:Int)==((mL op).2:Nat))=false)(hT:EH T b gx gf (op))(h:py w0 b s n ws W gx gf ⟨op,v,name,width,A,k,cp⟩)(hx:gx≠b)(hf:gf≠b):
  (iz qX 3).wp Tryz.prog (bodyPost Tryz.prog Tryz.f60 (aW w0.heap.size b (aq s (none)) (n) ws)) { tmps:=T,defers:=[] } W:=by
 open zay in exact Zac
theorem zbG.Kan(h:p:=by exact Zdb):p:=h
theorem zaz.Kac(h:p:=by rw[Jw] at h5;rw[QR] at h7;simp only[sT,List.range,List.range.loop,List.map,h0,h3,h4,h5,h6,h7];clear hT Jw QR h0 h3 h4 h5 h6 h7;open zbG in exact Zax):p:=h
theorem Sa{w0:World}    {v:Val} {name:ByteArray}    (hE:di w0)(hw:Below w0.heap.size w0 ws)(t1:(op==1)=false)(t2:(op==2)=false)(t21:(op==21)=false)(t3:(op==3)=false)(t4:(op==4)=false)(t18:(op==18)=false)(t19:(op==19)=false)(Jw:cT op=false)(QR:jV op=false)(hT:EH T b gx gf (op))(h:py w0 b s n ws W gx gf ⟨op,v,name,width,A,k,cp⟩)(hx:gx≠b)(hf:gf≠b):
  (iz qX 3).wp Tryz.prog (bodyPost Tryz.prog Tryz.f60 (aW w0.heap.size b (aq s (none)) (n) ws)) { tmps:=T,defers:=[] } W:=by
 open zaz in exact Zac
end Go.Proofs.YtehhdlgjfdnafaaGreatDoor
