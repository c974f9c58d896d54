/- Parts of the proof. -/
import Derived.Test.YtfmbcoeallmnnaaGreatDoorD37
namespace Go.Proofs.YtfmbcoeallmnnaaGreatDoor
open Go.Lib (hid)
open Go.ChangeShapes Go.WideShapes Go.ChangeAt Go.RowKit
set_option linter.unusedVariables false
set_option linter.unusedSimpArgs false
theorem EX (ts:List Tr)(A:Option Addr)(n c:Nat)(w:World)(aZ:Tr.iO ts)(hn:ts.length≤1599289640356)(hl:jo w ts A n):Calls Tryz.prog 6 #[.slice A n c] w fun e w'=>∃m:Int,e=.returned (.int .i64 m)∧Below w.heap.size w w':=by obtain⟨rfl,ys,h2,h3⟩:=hl;exact(Iq A c ts ys w hn h3 h2.old (Tr.wT ts ys w aZ h3)).mono fun e w' ⟨h1,h2⟩=>⟨_,h1,h2⟩
def eF (n:ByteArray):Tr:=.mk 2 ah n 0 []
def pG (n:Int):Tr:=.mk 1 ⟨2,n,⟨#[]⟩⟩ ⟨#[]⟩ 0 []
def kB (op:Int)(a b:Tr):Tr:=.mk op ah ⟨#[]⟩ 0 [a,b]
def rO (lo hi:Int):Tr:=kB 16 (kB 15 (eF cO) (pG lo)) (kB 12 (eF cO) (pG hi))
def Hn (lo hi:Int):Tr:=kB 16 (kB 14 (pG hi) (eF cO)) (kB 13 (pG lo) (eF cO))
def nZ (lo hi:Int):Sp:=bT ⟨lo,hi⟩ aY
theorem Ju (lo hi:Int):nZ lo hi=dG (max lo dz) (min hi bR):=rfl
theorem Ck (s:Sp):bT br s=br:=if_pos (show min (0:Int) s.b≤max 0 s.a by omega)
theorem and_nil (s:Sp):bT s br=br:=if_pos (show min s.b (0:Int)≤max s.a 0 by omega)
theorem yH (a b c d:Int):bT (dG a b) (dG c d)=dG (max a c) (min b d):=by
 by_cases h1:b≤a
 ·rw[show dG a b=br from if_pos h1,Ck];exact(if_pos (show min b d≤max a c by omega)).symm
 ·by_cases h2:d≤c
  ·rw[show dG c d=br from if_pos h2,and_nil];exact(if_pos (show min b d≤max a c by omega)).symm
  ·rw[show dG a b=⟨a,b⟩from if_neg h1,show dG c d=⟨c,d⟩from if_neg h2];rfl
theorem EY (lo hi:Int):bT (ey lo) (fD hi)=nZ lo hi∧bT (fD hi) (ey lo)=nZ lo hi:=by
 have hl:dz= -4611687117939015680:=rfl;have hh:bR=4611687117939015679:=rfl;unfold ey fD;rw[yH,yH,Ju];constructor
 ·rw[show max (max lo dz) dz=max lo dz by omega,show min bR (min hi bR)=min hi bR by omega]
 ·rw[show max dz (max lo dz)=max lo dz by omega,show min (min hi bR) bR=min hi bR by omega]
theorem LN (lo hi:Int):mM [rO lo hi]=true:=by kernel_rfl
theorem LO (lo hi:Int):mM [Hn lo hi]=true:=by kernel_rfl
theorem uD (aA:ByteArray)(v:Val)(name:ByteArray)(width:Int)(a b:Tr):(Tr.mk 16 v name width [a,b]).span aA=bT (a.span aA) (b.span aA):=by rw[Tr.span,mY];rfl
theorem EZ (op n:Int)(h:AX op=true)(h1:10≤op)(h2:op≤15):(kB op (eF cO) (pG n)).span cO=jX op n:=by
 unfold kB Tr.span;rw[mY];unfold sy;have hn:kE op ah=false:=by
  have:(op==1)=false:=by simp;omega
  simp[kE,aO,this]
 rw[if_neg (by omega),if_neg (by omega),if_neg (by rw[hn];decide),if_neg (by omega),if_neg (by simp[wU,aO,eF,pG,Tr.op,Tr.v])];have hs:bF op cO (eF cO) (pG n)=(op,⟨2,n,⟨#[]⟩⟩,true):=by
  have h3:iP cO (pG n)=false:=rfl;have h4:iP cO (eF cO)=true:=by kernel_rfl
  simp only[bF,h3,h4];rfl
 show qE op cO (eF cO) (pG n)=_;unfold qE;rw[hs,if_pos ⟨rfl,rfl,h⟩]
theorem AO (op n:Int)(h:AX (mL op)=true)(h1:10≤op)(h2:op≤15):(kB op (pG n) (eF cO)).span cO=jX (mL op) n:=by
 unfold kB Tr.span;rw[mY];unfold sy;have hn:kE op ah=false:=by
  have:(op==1)=false:=by simp;omega
  simp[kE,aO,this]
 rw[if_neg (by omega),if_neg (by omega),if_neg (by rw[hn];decide),if_neg (by omega),if_neg (by simp[wU,aO,eF,pG,Tr.op,Tr.v])];have hs:bF op cO (pG n) (eF cO)=(mL op,⟨2,n,⟨#[]⟩⟩,true):=by
  have h3:iP cO (eF cO)=true:=by kernel_rfl
  simp only[bF,h3,ite_true];rfl
 show qE op cO (pG n) (eF cO)=_;unfold qE;rw[hs,if_pos ⟨rfl,rfl,h⟩]
theorem AP (lo hi:Int):(rO lo hi).span cO=nZ lo hi:=by unfold rO;rw[kB,uD,EZ 15 lo (by decide) (by decide) (by decide),EZ 12 hi (by decide) (by decide) (by decide)];rw[show jX 15 lo=ey lo by simp[jX],show jX 12 hi=fD hi by simp[jX]];exact(EY lo hi).1
theorem LP (lo hi:Int):(Hn lo hi).span cO=nZ lo hi:=by unfold Hn;rw[kB,uD,AO 14 hi (by decide) (by decide) (by decide),AO 13 lo (by decide) (by decide) (by decide)];rw[show jX (mL 14) hi=fD hi by simp[jX,mL],show jX (mL 13) lo=ey lo by simp[jX,mL]];exact(EY lo hi).2
theorem Fa (lo hi:Int):(nZ lo hi).fit:=by rw[Ju];exact mN (by omega) (by omega)
theorem LQ {x y:Sp}(hx:x.fit)(hy:y.fit):bT (bT x y) x=bT x y:=by
 have hl:dz= -4611687117939015680:=rfl;have hh:bR=4611687117939015679:=rfl;have a1:=hx.low;have a2:=hx.high;have a3:=hy.low;have a4:=hy.high;rcases hx with rfl | hx
 ·rw[Ck,Ck]
 ·have e:x=dG x.a x.b:=(if_neg (show¬x.b≤x.a by omega)).symm;have e2:bT x y=dG (max x.a y.a) (min x.b y.b):=rfl;rw[e2];have k:=yH (max x.a y.a) (min x.b y.b) x.a x.b;rw[← e] at k;rw[k,show max (max x.a y.a) x.a=max x.a y.a by omega,show min (min x.b y.b) x.b=min x.b y.b by omega]
theorem PJ (lo hi:Int)(t:Tr):eN [kB 16 (rO lo hi) t] cO=aY∨bT (eN [kB 16 (rO lo hi) t] cO) (nZ lo hi)=eN [kB 16 (rO lo hi) t] cO:=by
 unfold eN;split
 ·refine .inr ?_;show bT ((kB 16 (rO lo hi) t).span cO) _=(kB 16 (rO lo hi) t).span cO;rw[kB,uD,AP];exact LQ (Fa lo hi) (t.wX cO)
 ·exact .inl rfl
def Y0 (y:Ex):List Value:=[.int .u8 y.op,.int .u8 y.v.k,.int .i64 y.v.n,.string y.v.s,.string y.name,.int .i64 y.width,.slice y.A y.n y.c]
def Y1 (n:ByteArray):Ex:=⟨2,ah,n,0,none,0,0⟩
def Y2 (n:Int):Ex:=⟨1,⟨2,n,⟨#[]⟩⟩,⟨#[]⟩,0,none,0,0⟩
def WN (op:Int)(g:Nat):Ex:=⟨op,ah,⟨#[]⟩,0,some ⟨g,0,none⟩,2,2⟩
theorem vV (w:World)(n:ByteArray):(eF n).at_ w (Old w) (Y1 n):=by unfold eF Tr.at_;exact⟨rfl,rfl,rfl,rfl,rfl,[],.inl rfl,by unfold Tr.bJ;rfl⟩
theorem vW (w:World)(n:Int):(pG n).at_ w (Old w) (Y2 n):=by unfold pG Tr.at_;exact⟨rfl,rfl,rfl,rfl,rfl,[],.inl rfl,by unfold Tr.bJ;rfl⟩
theorem od {w:World} {g:Nat} {T:TypeId} {a b:Tr} {x y:Ex}(op:Int)(h:ag w g T (Y0 x++Y0 y).toArray)(ha:a.at_ w (Old w) x)(hb:b.at_ w (Old w) y):(kB op a b).at_ w (Old w) (WN op g):=by
 unfold kB Tr.at_;refine⟨rfl,rfl,rfl,rfl,rfl,[x,y],.inr ⟨g,0,rfl,h.lt,fun i z hz=>?_⟩,?_⟩
 ·match i with
  | 0=>simp at hz;subst hz;exact⟨h.cell 0,h.cell 1,h.cell 2,h.cell 3,h.cell 4,h.cell 5,h.cell 6⟩
  | 1=>simp at hz;subst hz;exact⟨h.cell 7,h.cell 8,h.cell 9,h.cell 10,h.cell 11,h.cell 12,h.cell 13⟩
  | i+2=>simp at hz
 ·unfold Tr.bJ;refine⟨x,[y],rfl,ha,?_⟩;unfold Tr.bJ;exact⟨y,[],rfl,hb,by unfold Tr.bJ;rfl⟩
theorem Cl {w:World} {g:Nat} {T:TypeId} {t:Tr} {x:Ex}(h:ag w g T (Y0 x).toArray)(ht:t.at_ w (Old w) x):jo w [t] (some ⟨g,0,none⟩) 1:=by
 refine⟨rfl,[x],.inr ⟨g,0,rfl,h.lt,fun i z hz=>?_⟩,?_⟩
 ·match i with
  | 0=>simp at hz;subst hz;exact⟨h.cell 0,h.cell 1,h.cell 2,h.cell 3,h.cell 4,h.cell 5,h.cell 6⟩
  | i+1=>simp at hz
 ·unfold Tr.bJ;exact⟨x,[],rfl,ht,by unfold Tr.bJ;rfl⟩
theorem qg {n:Int}(h: -9223372036854775808≤n∧n≤9223372036854775807):(pG n).ok:=by unfold pG Tr.ok;exact⟨h,by simp,by decide,by decide,⟨by show(0:Int)≤2;decide,by show(2:Int)≤255;decide⟩,by unfold Tr.iO;trivial⟩
theorem qh (n:ByteArray):(eF n).ok:=by unfold eF Tr.ok;exact⟨gM,by simp,by decide,by decide,by decide,by unfold Tr.iO;trivial⟩
theorem jR {op:Int} {a b:Tr}(h:0≤op∧op≤255)(ha:a.ok)(hb:b.ok):(kB op a b).ok:=by unfold kB Tr.ok;refine⟨gM,by simp,h,by decide,by decide,?_⟩;unfold Tr.iO;refine⟨ha,?_⟩;unfold Tr.iO;exact⟨hb,by unfold Tr.iO;trivial⟩
theorem qi {P:Program} {Q:Exit→Act→World→Prop} {a0:Act} {w0:World} {id:Nat} {ops:List Oper}(k:Nat)(V:Nat→World→Value→Prop)(hV:∀i w w' v,V i w v→ae w w'→V i w' v)(hm:P.follows .mixedOrders=true)
  (aZ:bX (ops.take k) a0.tmps.size (ops.take k) 0=true) (hz:cH ops (ops.drop k) (ops.take k).length=true)
  (hs:Steps P (ops.take k) ae V a0 w0 (ops.take k) 0) (hf:∀w,ae w0 w→cN V (fun a w=>wpList P ops.toArray Q (ops.drop k) a w) (ops.take k) 0 a0 w):(Code.region id ops.toArray true).wp P Q a0 w0:=
 iJ (ops.drop k) (ops.take k) (List.take_append_drop k ops).symm ae ae.refl (fun _ _ _=>ae.trans) ae.drew V hV hm aZ (by rw[List.take_append_drop];exact hz) hs hf
def WO (s:Sp)(gb:Nat):Nat→World→Value→Prop
 | 0,_,v=>v=.agg #[.int .i64 s.a,.int .i64 s.b]
 | 1,_,v=>v=.agg #[.int .i64 s.a,.int .i64 s.b]
 | 2,_,v=>v=.bool false
 | 3,_,v=>v=.bool false
 | 4,_,v=>v=.agg #[.int .u8 16,.int .u8 0,.int .i64 0,.string ⟨#[]⟩,.string ⟨#[]⟩,.int .i64 0,.slice (some ⟨gb,0,none⟩) 2 2]
 | 5,w,v=>∃g:Nat,v=.slice (some ⟨g,0,none⟩) 1 1∧ag w g 34 #[.int .u8 16,.int .u8 0,.int .i64 0,.string ⟨#[]⟩,.string ⟨#[]⟩,.int .i64 0,.slice (some ⟨gb,0,none⟩) 2 2]
 | 6,_,v=>v=.agg #[.int .i64 s.a,.int .i64 s.b]
 | 7,_,v=>v=.agg #[.int .i64 s.a,.int .i64 s.b]
 | 8,_,v=>v=.bool false
 | 9,_,v=>v=.bool false
 | _,_,_=>False
theorem Ho (s:Sp)(gb:Nat):∀i w w' v,WO s gb i w v→ae w w'→WO s gb i w' v:=by
 intro i w w' v h hl
 match i with
 | 0 | 1 | 2 | 3 | 4 | 6 | 7 | 8 | 9=>exact h
 | 5=>obtain⟨g,h1,f0⟩:=h;exact⟨g,h1,f0.later hl⟩
 | n+10=>exact h
def WQ (z:Sp)(ga q off c:Nat)(y:Ex)(B:Nat):Nat→World→Value→Prop
 | 0,_,v=>v=.agg #[.int .u8 16,.int .u8 0,.int .i64 0,.string ⟨#[]⟩,.string ⟨#[]⟩,.int .i64 0,.slice (some ⟨ga,0,none⟩) 2 2]
 | 1,_,v=>v=.slice (some ⟨q,off,none⟩) 1 c
 | 2,_,v=>v=.pointer (some ⟨q,off,none⟩)
 | 3,_,v=>v=.agg #[.int .u8 y.op,.int .u8 y.v.k,.int .i64 y.v.n,.string y.v.s,.string y.name,.int .i64 y.width,.slice y.A y.n y.c]
 | 4,w,v=>∃g:Nat,v=.slice (some ⟨g,0,none⟩) 2 2∧ag w g 34 #[.int .u8 16,.int .u8 0,.int .i64 0,.string ⟨#[]⟩,.string ⟨#[]⟩,.int .i64 0,.slice (some ⟨ga,0,none⟩) 2 2,.int .u8 y.op,.int .u8 y.v.k,.int .i64 y.v.n,.string y.v.s,.string y.name,.int .i64 y.width,.slice y.A y.n y.c]
 | 5,w,v=>∃g:Nat,v=.agg #[.int .u8 16,.int .u8 0,.int .i64 0,.string ⟨#[]⟩,.string ⟨#[]⟩,.int .i64 0,.slice (some ⟨g,0,none⟩) 2 2]∧ag w g 34 #[.int .u8 16,.int .u8 0,.int .i64 0,.string ⟨#[]⟩,.string ⟨#[]⟩,.int .i64 0,.slice (some ⟨ga,0,none⟩) 2 2,.int .u8 y.op,.int .u8 y.v.k,.int .i64 y.v.n,.string y.v.s,.string y.name,.int .i64 y.width,.slice y.A y.n y.c]
 | 6,w,v=>∃x g:Nat,v=.slice (some ⟨x,0,none⟩) 1 1∧ag w x 34 #[.int .u8 16,.int .u8 0,.int .i64 0,.string ⟨#[]⟩,.string ⟨#[]⟩,.int .i64 0,.slice (some ⟨g,0,none⟩) 2 2]∧ag w g 34 #[.int .u8 16,.int .u8 0,.int .i64 0,.string ⟨#[]⟩,.string ⟨#[]⟩,.int .i64 0,.slice (some ⟨ga,0,none⟩) 2 2,.int .u8 y.op,.int .u8 y.v.k,.int .i64 y.v.n,.string y.v.s,.string y.name,.int .i64 y.width,.slice y.A y.n y.c]
 | 7,_,v=>v=.agg #[.int .i64 z.a,.int .i64 z.b]
 | 8,w,v=>∃g:Nat,v=.pointer (some ⟨g,0,none⟩)∧ag w g 30 #[.int .i64 0,.int .i64 0]∧B≤g
 | _,_,_=>False
theorem Hp (z:Sp)(ga q off c:Nat)(y:Ex)(B:Nat):∀i w w' v,WQ z ga q off c y B i w v→ae w w'→WQ z ga q off c y B i w' v:=by
 intro i w w' v h hl
 match i with
 | 0 | 1 | 2 | 3 | 7=>exact h
 | 4=>obtain⟨g,h1,f0⟩:=h;exact⟨g,h1,f0.later hl⟩
 | 5=>obtain⟨g,h1,f0⟩:=h;exact⟨g,h1,f0.later hl⟩
 | 6=>obtain⟨x,g,h1,f0,f1⟩:=h;exact⟨x,g,h1,f0.later hl,f1.later hl⟩
 | 8=>obtain⟨g,h1,f0,f1⟩:=h;exact⟨g,h1,f0.later hl,f1⟩
 | n+9=>exact h
def WR (s z:Sp)(al:Bool):Nat→World→Value→Prop
 | 0,_,v=>v=.agg #[.int .i64 z.a,.int .i64 z.b]
 | 1,_,v=>v=.agg #[.int .i64 (-4611687117939015680),.int .i64 4611687117939015679]
 | 2,_,v=>v=(cond al (.bool true) (.bool false))
 | 3,_,v=>v=(cond al (.bool true) (.bool false))
 | 4,_,v=>v=(cond al (undef) (.agg #[.int .i64 z.a,.int .i64 z.b]))
 | 5,_,v=>v=(cond al (undef) (.agg #[.int .i64 s.a,.int .i64 s.b]))
 | 6,_,v=>v=(cond al (undef) (.agg #[.int .i64 z.a,.int .i64 z.b]))
 | 7,_,v=>v=(cond al (undef) (.agg #[.int .i64 z.a,.int .i64 z.b]))
 | 8,_,v=>v=(cond al (undef) (.bool true))
 | 9,_,v=>v=.bool true
 | 10,_,v=>v=.bool true
 | 11,_,v=>v=.bool true
 | 12,_,v=>v=.bool true
 | 13,_,v=>v=.bool true
 | _,_,_=>False
theorem Hq (s z:Sp)(al:Bool):∀i w w' v,WR s z al i w v→ae w w'→WR s z al i w' v:=by
 intro i w w' v h hl
 match i with
 | 0 | 1 | 2 | 3 | 4 | 5 | 6 | 7 | 8 | 9 | 10 | 11 | 12 | 13=>exact h
 | n+14=>exact h
theorem PK {z:Sp}(h:z≠aY):z.a= -4611687117939015680→¬z.b=4611687117939015679:=by intro h1 h2;obtain⟨a,b⟩:=z;dsimp only at h1 h2;subst h1 h2;exact h rfl
set_option maxHeartbeats 4000000
set_option maxRecDepth 100000
theorem uE (lo hi:Int)(hlo: -9223372036854775808≤lo∧lo≤9223372036854775807)(hhi: -9223372036854775808≤hi∧hi≤9223372036854775807)(ts:List Tr)(A:Option Addr)(n c:Nat)(w:World)(aZ:Tr.iO ts)(hl:jo w ts A n)(hn:ts.length≤1599289640356)(hE:fQ w):
  Calls Tryz.prog 4 #[.int .i64 lo,.int .i64 hi,.slice A n c] w fun e w'=>e=.returned (.bool true)∧Below w.heap.size w w':=by
 have HE:=hid hE;have HL:=hid hl;have Cr:=hid aZ;have HB:=hid (Below.refl w.heap.size w);have HN:=hid hn;have I3:=hid hlo;have I4:=hid hhi;clear hE hl aZ hn hlo hhi;go_enter Tryz.func4,Tryz.ntmps4;by_cases h1:1 < n
 ·have h2:(1:Int)<(n:Int):=by omega
  have t1:=decide_eq_true h1;have t2:=decide_eq_true h2;clear h1 h2;go_wp2_with fail;refine(ct _ HE.out).mono ?_;rintro e w9 ⟨rfl,b1⟩;go_wp2_with fail;go_ret;exact⟨rfl,ae.then HB.out b1⟩
 have h2:¬(1:Int)<(n:Int):=by omega
 have t1:=decide_eq_false h1;have t2:=decide_eq_false h2;have rQ:n≤1:=by omega
 have HN1:=hid rQ;clear h1 h2 rQ;go_wp2_with fail;refine(EX ts A n c w Cr.out HN.out HL.out).mono ?_;rintro e w1 ⟨m,rfl,b1⟩;replace HE:=hid (HE.out.later b1);replace HL:=hid (HL.out.later b1);replace HB:=hid (ae.then HB.out b1);clear b1;by_cases h3:100 < m
 ·have t3:=decide_eq_true h3;clear h3;go_wp2_with fail;refine(ct _ HE.out).mono ?_;rintro e w9 ⟨rfl,b1⟩;go_wp2_with fail;go_ret;exact⟨rfl,ae.then HB.out b1⟩
 have t3:=decide_eq_false h3;clear h3 t1 t2;go_upto_region 4 with fail
 have H7:=ag.new w1 34 #[.int .u8 2,.int .u8 0,.int .i64 0,.string ⟨#[]⟩,.string ⟨#[116,105,109,101]⟩,.int .i64 0,.slice none 0 0];have b1:=aa w1 (.cells #[.int .u8 2,.int .u8 0,.int .i64 0,.string ⟨#[]⟩,.string ⟨#[116,105,109,101]⟩,.int .i64 0,.slice none 0 0] 34);replace HE:=hid (HE.out.later b1);replace HL:=hid (HL.out.later b1);replace HB:=hid (ae.then HB.out b1);clear b1;generalize w1.alloc _=I5 at*;generalize w1.heap.size=g7 at*;go_upto_region 5 with fail
 have H8:=ag.new I5 34 #[.int .u8 1,.int .u8 2,.int .i64 lo,.string ⟨#[]⟩,.string ⟨#[]⟩,.int .i64 0,.slice none 0 0];have b1:=aa I5 (.cells #[.int .u8 1,.int .u8 2,.int .i64 lo,.string ⟨#[]⟩,.string ⟨#[]⟩,.int .i64 0,.slice none 0 0] 34);replace H7:=H7.later b1;replace HE:=hid (HE.out.later b1);replace HL:=hid (HL.out.later b1);replace HB:=hid (ae.then HB.out b1);clear b1;generalize I5.alloc _=I6 at*;generalize I5.heap.size=g8 at*;go_upto_region 6 with fail
 have H9:=ag.new I6 34 #[.int .u8 1,.int .u8 2,.int .i64 hi,.string ⟨#[]⟩,.string ⟨#[]⟩,.int .i64 0,.slice none 0 0];have b1:=aa I6 (.cells #[.int .u8 1,.int .u8 2,.int .i64 hi,.string ⟨#[]⟩,.string ⟨#[]⟩,.int .i64 0,.slice none 0 0] 34);replace H7:=H7.later b1;replace H8:=H8.later b1;replace HE:=hid (HE.out.later b1);replace HL:=hid (HL.out.later b1);replace HB:=hid (ae.then HB.out b1);clear b1;generalize I6.alloc _=yI at*;generalize I6.heap.size=g9 at*;have x0:=H7.cell 0;have x1:=H7.cell 1;have x2:=H7.cell 2;have x3:=H7.cell 3;have x4:=H7.cell 4;have x5:=H7.cell 5;have x6:=H7.cell 6;have y0:=H8.cell 0;have y1:=H8.cell 1;have y2:=H8.cell 2;have y3:=H8.cell 3;have y4:=H8.cell 4;have y5:=H8.cell 5;have y6:=H8.cell 6;have z0:=H9.cell 0;have z1:=H9.cell 1;have z2:=H9.cell 2;have z3:=H9.cell 3;have z4:=H9.cell 4;have z5:=H9.cell 5;have z6:=H9.cell 6;simp only[List.getElem?_toArray,List.getElem?_cons_zero,List.getElem?_cons_succ] at x0 x1 x2 x3 x4 x5 x6 y0 y1 y2 y3 y4 y5 y6 z0 z1 z2 z3 z4 z5 z6;have Y3:=H7.lt;have Y4:=H8.lt;have Y5:=H9.lt;go_upto_region 7 with fail
 have P1:=ag.new (yI) 34 #[.int .u8 2,.int .u8 0,.int .i64 0,.string ⟨#[]⟩,.string ⟨#[116,105,109,101]⟩,.int .i64 0,.slice none 0 0,.int .u8 1,.int .u8 2,.int .i64 lo,.string ⟨#[]⟩,.string ⟨#[]⟩,.int .i64 0,.slice none 0 0];have b1:=aa (yI) (.cells #[.int .u8 2,.int .u8 0,.int .i64 0,.string ⟨#[]⟩,.string ⟨#[116,105,109,101]⟩,.int .i64 0,.slice none 0 0,.int .u8 1,.int .u8 2,.int .i64 lo,.string ⟨#[]⟩,.string ⟨#[]⟩,.int .i64 0,.slice none 0 0] 34);replace H7:=H7.later b1;replace H8:=H8.later b1;replace H9:=H9.later b1;replace HE:=hid (HE.out.later b1);replace HL:=hid (HL.out.later b1);replace HB:=hid (ae.then HB.out b1);clear b1;have P2:=ag.new ((yI).alloc (.cells #[.int .u8 2,.int .u8 0,.int .i64 0,.string ⟨#[]⟩,.string ⟨#[116,105,109,101]⟩,.int .i64 0,.slice none 0 0,.int .u8 1,.int .u8 2,.int .i64 lo,.string ⟨#[]⟩,.string ⟨#[]⟩,.int .i64 0,.slice none 0 0] 34)) 34 #[.int .u8 2,.int .u8 0,.int .i64 0,.string ⟨#[]⟩,.string ⟨#[116,105,109,101]⟩,.int .i64 0,.slice none 0 0,.int .u8 1,.int .u8 2,.int .i64 hi,.string ⟨#[]⟩,.string ⟨#[]⟩,.int .i64 0,.slice none 0 0];have b1:=aa ((yI).alloc (.cells #[.int .u8 2,.int .u8 0,.int .i64 0,.string ⟨#[]⟩,.string ⟨#[116,105,109,101]⟩,.int .i64 0,.slice none 0 0,.int .u8 1,.int .u8 2,.int .i64 lo,.string ⟨#[]⟩,.string ⟨#[]⟩,.int .i64 0,.slice none 0 0] 34)) (.cells #[.int .u8 2,.int .u8 0,.int .i64 0,.string ⟨#[]⟩,.string ⟨#[116,105,109,101]⟩,.int .i64 0,.slice none 0 0,.int .u8 1,.int .u8 2,.int .i64 hi,.string ⟨#[]⟩,.string ⟨#[]⟩,.int .i64 0,.slice none 0 0] 34);replace H7:=H7.later b1;replace H8:=H8.later b1;replace H9:=H9.later b1;replace P1:=P1.later b1;replace HE:=hid (HE.out.later b1);replace HL:=hid (HL.out.later b1);replace HB:=hid (ae.then HB.out b1);clear b1;have P3:=ag.new (((yI).alloc (.cells #[.int .u8 2,.int .u8 0,.int .i64 0,.string ⟨#[]⟩,.string ⟨#[116,105,109,101]⟩,.int .i64 0,.slice none 0 0,.int .u8 1,.int .u8 2,.int .i64 lo,.string ⟨#[]⟩,.string ⟨#[]⟩,.int .i64 0,.slice none 0 0] 34)).alloc (.cells #[.int .u8 2,.int .u8 0,.int .i64 0,.string ⟨#[]⟩,.string ⟨#[116,105,109,101]⟩,.int .i64 0,.slice none 0 0,.int .u8 1,.int .u8 2,.int .i64 hi,.string ⟨#[]⟩,.string ⟨#[]⟩,.int .i64 0,.slice none 0 0] 34)) 34 #[.int .u8 15,.int .u8 0,.int .i64 0,.string ⟨#[]⟩,.string ⟨#[]⟩,.int .i64 0,.slice (some ⟨yI.heap.size,0,none⟩) 2 2,.int .u8 12,.int .u8 0,.int .i64 0,.string ⟨#[]⟩,.string ⟨#[]⟩,.int .i64 0,.slice (some ⟨(yI.heap.size+1),0,none⟩) 2 2];have b1:=aa (((yI).alloc (.cells #[.int .u8 2,.int .u8 0,.int .i64 0,.string ⟨#[]⟩,.string ⟨#[116,105,109,101]⟩,.int .i64 0,.slice none 0 0,.int .u8 1,.int .u8 2,.int .i64 lo,.string ⟨#[]⟩,.string ⟨#[]⟩,.int .i64 0,.slice none 0 0] 34)).alloc (.cells #[.int .u8 2,.int .u8 0,.int .i64 0,.string ⟨#[]⟩,.string ⟨#[116,105,109,101]⟩,.int .i64 0,.slice none 0 0,.int .u8 1,.int .u8 2,.int .i64 hi,.string ⟨#[]⟩,.string ⟨#[]⟩,.int .i64 0,.slice none 0 0] 34)) (.cells #[.int .u8 15,.int .u8 0,.int .i64 0,.string ⟨#[]⟩,.string ⟨#[]⟩,.int .i64 0,.slice (some ⟨yI.heap.size,0,none⟩) 2 2,.int .u8 12,.int .u8 0,.int .i64 0,.string ⟨#[]⟩,.string ⟨#[]⟩,.int .i64 0,.slice (some ⟨(yI.heap.size+1),0,none⟩) 2 2] 34)
 replace H7:=H7.later b1;replace H8:=H8.later b1;replace H9:=H9.later b1;replace P1:=P1.later b1;replace P2:=P2.later b1;replace HE:=hid (HE.out.later b1);replace HL:=hid (HL.out.later b1);replace HB:=hid (ae.then HB.out b1);clear b1;have P4:=ag.new ((((yI).alloc (.cells #[.int .u8 2,.int .u8 0,.int .i64 0,.string ⟨#[]⟩,.string ⟨#[116,105,109,101]⟩,.int .i64 0,.slice none 0 0,.int .u8 1,.int .u8 2,.int .i64 lo,.string ⟨#[]⟩,.string ⟨#[]⟩,.int .i64 0,.slice none 0 0] 34)).alloc (.cells #[.int .u8 2,.int .u8 0,.int .i64 0,.string ⟨#[]⟩,.string ⟨#[116,105,109,101]⟩,.int .i64 0,.slice none 0 0,.int .u8 1,.int .u8 2,.int .i64 hi,.string ⟨#[]⟩,.string ⟨#[]⟩,.int .i64 0,.slice none 0 0] 34)).alloc (.cells #[.int .u8 15,.int .u8 0,.int .i64 0,.string ⟨#[]⟩,.string ⟨#[]⟩,.int .i64 0,.slice (some ⟨yI.heap.size,0,none⟩) 2 2,.int .u8 12,.int .u8 0,.int .i64 0,.string ⟨#[]⟩,.string ⟨#[]⟩,.int .i64 0,.slice (some ⟨(yI.heap.size+1),0,none⟩) 2 2] 34)) 34 #[.int .u8 16,.int .u8 0,.int .i64 0,.string ⟨#[]⟩,.string ⟨#[]⟩,.int .i64 0,.slice (some ⟨(yI.heap.size+1+1),0,none⟩) 2 2];have b1:=aa ((((yI).alloc (.cells #[.int .u8 2,.int .u8 0,.int .i64 0,.string ⟨#[]⟩,.string ⟨#[116,105,109,101]⟩,.int .i64 0,.slice none 0 0,.int .u8 1,.int .u8 2,.int .i64 lo,.string ⟨#[]⟩,.string ⟨#[]⟩,.int .i64 0,.slice none 0 0] 34)).alloc (.cells #[.int .u8 2,.int .u8 0,.int .i64 0,.string ⟨#[]⟩,.string ⟨#[116,105,109,101]⟩,.int .i64 0,.slice none 0 0,.int .u8 1,.int .u8 2,.int .i64 hi,.string ⟨#[]⟩,.string ⟨#[]⟩,.int .i64 0,.slice none 0 0] 34)).alloc (.cells #[.int .u8 15,.int .u8 0,.int .i64 0,.string ⟨#[]⟩,.string ⟨#[]⟩,.int .i64 0,.slice (some ⟨yI.heap.size,0,none⟩) 2 2,.int .u8 12,.int .u8 0,.int .i64 0,.string ⟨#[]⟩,.string ⟨#[]⟩,.int .i64 0,.slice (some ⟨(yI.heap.size+1),0,none⟩) 2 2] 34)) (.cells #[.int .u8 16,.int .u8 0,.int .i64 0,.string ⟨#[]⟩,.string ⟨#[]⟩,.int .i64 0,.slice (some ⟨(yI.heap.size+1+1),0,none⟩) 2 2] 34);replace H7:=H7.later b1;replace H8:=H8.later b1;replace H9:=H9.later b1;replace P1:=P1.later b1;replace P2:=P2.later b1;replace P3:=P3.later b1;replace HE:=hid (HE.out.later b1);replace HL:=hid (HL.out.later b1);replace HB:=hid (ae.then HB.out b1);clear b1;simp only[World.size_alloc] at P2 P3 P4;clear x0 x1 x2 x3 x4 x5 x6 y0 y1 y2 y3 y4 y5 y6 z0 z1 z2 z3 z4 z5 z6 Y3 Y4 Y5;generalize World.alloc (World.alloc (World.alloc (World.alloc yI _) _) _) _=Wx at*;generalize yI.heap.size+1+1+1=LW at*;generalize yI.heap.size+1+1=PL at*;generalize yI.heap.size+1=ga2 at*;generalize yI.heap.size=ga1 at*;have x0:=H7.cell 0;have x1:=H7.cell 1;have x2:=H7.cell 2;have x3:=H7.cell 3;have x4:=H7.cell 4;have x5:=H7.cell 5;have x6:=H7.cell 6;have y0:=H8.cell 0;have y1:=H8.cell 1;have y2:=H8.cell 2;have y3:=H8.cell 3;have y4:=H8.cell 4;have y5:=H8.cell 5;have y6:=H8.cell 6;have z0:=H9.cell 0;have z1:=H9.cell 1;have z2:=H9.cell 2;have z3:=H9.cell 3;have z4:=H9.cell 4;have z5:=H9.cell 5;have z6:=H9.cell 6;simp only[List.getElem?_toArray,List.getElem?_cons_zero,List.getElem?_cons_succ] at x0 x1 x2 x3 x4 x5 x6 y0 y1 y2 y3 y4 y5 y6 z0 z1 z2 z3 z4 z5 z6
 have Y3:=H7.lt;have Y4:=H8.lt;have Y5:=H9.lt;go_upto_region 8 with fail
 have Q1:=ag.new (Wx) 34 #[.int .u8 1,.int .u8 2,.int .i64 hi,.string ⟨#[]⟩,.string ⟨#[]⟩,.int .i64 0,.slice none 0 0,.int .u8 2,.int .u8 0,.int .i64 0,.string ⟨#[]⟩,.string ⟨#[116,105,109,101]⟩,.int .i64 0,.slice none 0 0];have b1:=aa (Wx) (.cells #[.int .u8 1,.int .u8 2,.int .i64 hi,.string ⟨#[]⟩,.string ⟨#[]⟩,.int .i64 0,.slice none 0 0,.int .u8 2,.int .u8 0,.int .i64 0,.string ⟨#[]⟩,.string ⟨#[116,105,109,101]⟩,.int .i64 0,.slice none 0 0] 34);replace H7:=H7.later b1;replace H8:=H8.later b1;replace H9:=H9.later b1;replace P1:=P1.later b1;replace P2:=P2.later b1;replace P3:=P3.later b1;replace P4:=P4.later b1;replace HE:=hid (HE.out.later b1);replace HL:=hid (HL.out.later b1);replace HB:=hid (ae.then HB.out b1);clear b1;have Q2:=ag.new ((Wx).alloc (.cells #[.int .u8 1,.int .u8 2,.int .i64 hi,.string ⟨#[]⟩,.string ⟨#[]⟩,.int .i64 0,.slice none 0 0,.int .u8 2,.int .u8 0,.int .i64 0,.string ⟨#[]⟩,.string ⟨#[116,105,109,101]⟩,.int .i64 0,.slice none 0 0] 34)) 34 #[.int .u8 1,.int .u8 2,.int .i64 lo,.string ⟨#[]⟩,.string ⟨#[]⟩,.int .i64 0,.slice none 0 0,.int .u8 2,.int .u8 0,.int .i64 0,.string ⟨#[]⟩,.string ⟨#[116,105,109,101]⟩,.int .i64 0,.slice none 0 0];have b1:=aa ((Wx).alloc (.cells #[.int .u8 1,.int .u8 2,.int .i64 hi,.string ⟨#[]⟩,.string ⟨#[]⟩,.int .i64 0,.slice none 0 0,.int .u8 2,.int .u8 0,.int .i64 0,.string ⟨#[]⟩,.string ⟨#[116,105,109,101]⟩,.int .i64 0,.slice none 0 0] 34)) (.cells #[.int .u8 1,.int .u8 2,.int .i64 lo,.string ⟨#[]⟩,.string ⟨#[]⟩,.int .i64 0,.slice none 0 0,.int .u8 2,.int .u8 0,.int .i64 0,.string ⟨#[]⟩,.string ⟨#[116,105,109,101]⟩,.int .i64 0,.slice none 0 0] 34);replace H7:=H7.later b1;replace H8:=H8.later b1;replace H9:=H9.later b1;replace P1:=P1.later b1;replace P2:=P2.later b1;replace P3:=P3.later b1;replace P4:=P4.later b1;replace Q1:=Q1.later b1;replace HE:=hid (HE.out.later b1);replace HL:=hid (HL.out.later b1);replace HB:=hid (ae.then HB.out b1);clear b1;have Q3:=ag.new (((Wx).alloc (.cells #[.int .u8 1,.int .u8 2,.int .i64 hi,.string ⟨#[]⟩,.string ⟨#[]⟩,.int .i64 0,.slice none 0 0,.int .u8 2,.int .u8 0,.int .i64 0,.string ⟨#[]⟩,.string ⟨#[116,105,109,101]⟩,.int .i64 0,.slice none 0 0] 34)).alloc (.cells #[.int .u8 1,.int .u8 2,.int .i64 lo,.string ⟨#[]⟩,.string ⟨#[]⟩,.int .i64 0,.slice none 0 0,.int .u8 2,.int .u8 0,.int .i64 0,.string ⟨#[]⟩,.string ⟨#[116,105,109,101]⟩,.int .i64 0,.slice none 0 0] 34)) 34 #[.int .u8 14,.int .u8 0,.int .i64 0,.string ⟨#[]⟩,.string ⟨#[]⟩,.int .i64 0,.slice (some ⟨Wx.heap.size,0,none⟩) 2 2,.int .u8 13,.int .u8 0,.int .i64 0,.string ⟨#[]⟩,.string ⟨#[]⟩,.int .i64 0,.slice (some ⟨(Wx.heap.size+1),0,none⟩) 2 2];have b1:=aa (((Wx).alloc (.cells #[.int .u8 1,.int .u8 2,.int .i64 hi,.string ⟨#[]⟩,.string ⟨#[]⟩,.int .i64 0,.slice none 0 0,.int .u8 2,.int .u8 0,.int .i64 0,.string ⟨#[]⟩,.string ⟨#[116,105,109,101]⟩,.int .i64 0,.slice none 0 0] 34)).alloc (.cells #[.int .u8 1,.int .u8 2,.int .i64 lo,.string ⟨#[]⟩,.string ⟨#[]⟩,.int .i64 0,.slice none 0 0,.int .u8 2,.int .u8 0,.int .i64 0,.string ⟨#[]⟩,.string ⟨#[116,105,109,101]⟩,.int .i64 0,.slice none 0 0] 34)) (.cells #[.int .u8 14,.int .u8 0,.int .i64 0,.string ⟨#[]⟩,.string ⟨#[]⟩,.int .i64 0,.slice (some ⟨Wx.heap.size,0,none⟩) 2 2,.int .u8 13,.int .u8 0,.int .i64 0,.string ⟨#[]⟩,.string ⟨#[]⟩,.int .i64 0,.slice (some ⟨(Wx.heap.size+1),0,none⟩) 2 2] 34)
 replace H7:=H7.later b1;replace H8:=H8.later b1;replace H9:=H9.later b1;replace P1:=P1.later b1;replace P2:=P2.later b1;replace P3:=P3.later b1;replace P4:=P4.later b1;replace Q1:=Q1.later b1;replace Q2:=Q2.later b1;replace HE:=hid (HE.out.later b1);replace HL:=hid (HL.out.later b1);replace HB:=hid (ae.then HB.out b1);clear b1;have Q4:=ag.new ((((Wx).alloc (.cells #[.int .u8 1,.int .u8 2,.int .i64 hi,.string ⟨#[]⟩,.string ⟨#[]⟩,.int .i64 0,.slice none 0 0,.int .u8 2,.int .u8 0,.int .i64 0,.string ⟨#[]⟩,.string ⟨#[116,105,109,101]⟩,.int .i64 0,.slice none 0 0] 34)).alloc (.cells #[.int .u8 1,.int .u8 2,.int .i64 lo,.string ⟨#[]⟩,.string ⟨#[]⟩,.int .i64 0,.slice none 0 0,.int .u8 2,.int .u8 0,.int .i64 0,.string ⟨#[]⟩,.string ⟨#[116,105,109,101]⟩,.int .i64 0,.slice none 0 0] 34)).alloc (.cells #[.int .u8 14,.int .u8 0,.int .i64 0,.string ⟨#[]⟩,.string ⟨#[]⟩,.int .i64 0,.slice (some ⟨Wx.heap.size,0,none⟩) 2 2,.int .u8 13,.int .u8 0,.int .i64 0,.string ⟨#[]⟩,.string ⟨#[]⟩,.int .i64 0,.slice (some ⟨(Wx.heap.size+1),0,none⟩) 2 2] 34)) 34 #[.int .u8 16,.int .u8 0,.int .i64 0,.string ⟨#[]⟩,.string ⟨#[]⟩,.int .i64 0,.slice (some ⟨(Wx.heap.size+1+1),0,none⟩) 2 2];have b1:=aa ((((Wx).alloc (.cells #[.int .u8 1,.int .u8 2,.int .i64 hi,.string ⟨#[]⟩,.string ⟨#[]⟩,.int .i64 0,.slice none 0 0,.int .u8 2,.int .u8 0,.int .i64 0,.string ⟨#[]⟩,.string ⟨#[116,105,109,101]⟩,.int .i64 0,.slice none 0 0] 34)).alloc (.cells #[.int .u8 1,.int .u8 2,.int .i64 lo,.string ⟨#[]⟩,.string ⟨#[]⟩,.int .i64 0,.slice none 0 0,.int .u8 2,.int .u8 0,.int .i64 0,.string ⟨#[]⟩,.string ⟨#[116,105,109,101]⟩,.int .i64 0,.slice none 0 0] 34)).alloc (.cells #[.int .u8 14,.int .u8 0,.int .i64 0,.string ⟨#[]⟩,.string ⟨#[]⟩,.int .i64 0,.slice (some ⟨Wx.heap.size,0,none⟩) 2 2,.int .u8 13,.int .u8 0,.int .i64 0,.string ⟨#[]⟩,.string ⟨#[]⟩,.int .i64 0,.slice (some ⟨(Wx.heap.size+1),0,none⟩) 2 2] 34)) (.cells #[.int .u8 16,.int .u8 0,.int .i64 0,.string ⟨#[]⟩,.string ⟨#[]⟩,.int .i64 0,.slice (some ⟨(Wx.heap.size+1+1),0,none⟩) 2 2] 34);replace H7:=H7.later b1;replace H8:=H8.later b1;replace H9:=H9.later b1;replace P1:=P1.later b1;replace P2:=P2.later b1;replace P3:=P3.later b1;replace P4:=P4.later b1;replace Q1:=Q1.later b1;replace Q2:=Q2.later b1;replace Q3:=Q3.later b1;replace HE:=hid (HE.out.later b1);replace HL:=hid (HL.out.later b1);replace HB:=hid (ae.then HB.out b1);clear b1;simp only[World.size_alloc] at Q2 Q3 Q4;clear x0 x1 x2 x3 x4 x5 x6 y0 y1 y2 y3 y4 y5 y6 z0 z1 z2 z3 z4 z5 z6 Y3 Y4 Y5;generalize World.alloc (World.alloc (World.alloc (World.alloc Wx _) _) _) _=Wy at*;generalize Wx.heap.size+1+1+1=g11 at*;generalize Wx.heap.size+1+1=WS at*;generalize Wx.heap.size+1=gb2 at*;generalize Wx.heap.size=gb1 at*;have hx0:(rO lo hi).at_ Wy (Old Wy) (WN 16 PL):=od 16 P3 (od 15 P1 (vV _ _) (vW _ _)) (od 12 P2 (vV _ _) (vW _ _));have hy0:(Hn lo hi).at_ Wy (Old Wy) (WN 16 WS):=od 16 Q3 (od 14 Q1 (vW _ _) (vV _ _)) (od 13 Q2 (vW _ _) (vV _ _))
 have Hr:=hid hx0;have Jv:=hid hy0;clear hx0 hy0 P1 P2 P3 Q1 Q2 Q3 H7 H8 H9;go_upto_region 9 with fail
 have Fl:=ag.new Wy 30 #[.int .i64 (-4611687117939015680),.int .i64 4611687117939015679];have b1:=aa Wy (.cells #[.int .i64 (-4611687117939015680),.int .i64 4611687117939015679] 30);replace P4:=P4.later b1;replace Q4:=Q4.later b1;replace Hr:=hid (Hr.out.later b1);replace Jv:=hid (Jv.out.later b1);replace HE:=hid (HE.out.later b1);replace HL:=hid (HL.out.later b1);replace HB:=hid (ae.then HB.out b1);clear b1;generalize Wy.alloc _=Y6 at*;generalize Wy.heap.size=g12 at*;have a0:=Fl.cell 0;have a1:=Fl.cell 1;simp only[List.getElem?_toArray,List.getElem?_cons_zero,List.getElem?_cons_succ] at a0 a1;have hw:=jI ⟨lo,hi⟩ aY Y6;rw[show bT ⟨lo,hi⟩ aY=nZ lo hi from rfl] at hw;have Y7:=AP lo hi;have Y8:=LP lo hi;have hsz:=PJ lo hi;have hft:=Fa lo hi;obtain⟨s,hs⟩:∃s,s=nZ lo hi:=⟨_,rfl⟩;rw[← hs] at hw Y7 Y8 hft;simp only[← hs] at hsz;clear hs;have HSX:=hid Y7;have HSY:=hid Y8;have TB:=hid hsz;clear Y7 Y8 hsz hft;unfold ej cC at hw;have HW:=hid hw;clear hw;go_wp2_with fail;refine HW.out.mono ?_;rintro e w2 ⟨rfl,b1⟩;clear HW a0 a1;replace P4:=P4.later b1;replace Q4:=Q4.later b1;replace Fl:=Fl.later b1;replace Hr:=hid (Hr.out.later b1);replace Jv:=hid (Jv.out.later b1);replace HE:=hid (HE.out.later b1);replace HL:=hid (HL.out.later b1);replace HB:=hid (ae.then HB.out b1);clear b1;go_upto_region 10 with fail
 have oB:=ag.new w2 30 #[.int .i64 s.a,.int .i64 s.b];have b1:=aa w2 (.cells #[.int .i64 s.a,.int .i64 s.b] 30);replace P4:=P4.later b1;replace Q4:=Q4.later b1;replace Fl:=Fl.later b1;replace Hr:=hid (Hr.out.later b1);replace Jv:=hid (Jv.out.later b1);replace HE:=hid (HE.out.later b1);replace HL:=hid (HL.out.later b1);replace HB:=hid (ae.then HB.out b1);clear b1;generalize w2.alloc _=E4 at*;generalize w2.heap.size=QX at*;have x0:=P4.cell 0;have x1:=P4.cell 1;have x2:=P4.cell 2;have x3:=P4.cell 3;have x4:=P4.cell 4;have x5:=P4.cell 5;have x6:=P4.cell 6;simp only[List.getElem?_toArray,List.getElem?_cons_zero,List.getElem?_cons_succ] at x0 x1 x2 x3 x4 x5 x6;have HXL:=ag.new E4 34 #[.int .u8 16,.int .u8 0,.int .i64 0,.string ⟨#[]⟩,.string ⟨#[]⟩,.int .i64 0,.slice (some ⟨PL,0,none⟩) 2 2];have b1:=aa E4 (.cells #[.int .u8 16,.int .u8 0,.int .i64 0,.string ⟨#[]⟩,.string ⟨#[]⟩,.int .i64 0,.slice (some ⟨PL,0,none⟩) 2 2] 34);have hlx:=Cl HXL (Hr.out.later b1);have Du:Tr.iO [rO lo hi]:=by unfold Tr.iO;exact⟨jR (by decide) (jR (by decide) (qh _) (qg I3.out)) (jR (by decide) (qh _) (qg I4.out)),by unfold Tr.iO;trivial⟩
 have hcon:=jy [rO lo hi] _ 1 1 cO _ Du hlx (HE.out.later b1);rw[show eN [rO lo hi] cO=s by unfold eN;rw[if_pos (LN lo hi)];exact HSX.out] at hcon;unfold ej cC cO at hcon;have qo:=hid hcon;have TC:=hid b1;clear hlx Du hcon b1 HXL;go_wp2_with fail;refine qo.out.mono ?_;rintro e w3 ⟨rfl,b2⟩;have b1:=ae.then TC.out b2
 clear b2 TC qo x0 x1 x2 x3 x4 x5 x6;replace P4:=P4.later b1;replace Q4:=Q4.later b1;replace Fl:=Fl.later b1;replace oB:=oB.later b1;replace Hr:=hid (Hr.out.later b1);replace Jv:=hid (Jv.out.later b1);replace HE:=hid (HE.out.later b1);replace HL:=hid (HL.out.later b1);replace HB:=hid (ae.then HB.out b1);clear b1;go_upto_region 11 with fail
 have I7:=ag.new w3 30 #[.int .i64 s.a,.int .i64 s.b];have b1:=aa w3 (.cells #[.int .i64 s.a,.int .i64 s.b] 30);replace P4:=P4.later b1;replace Q4:=Q4.later b1;replace Fl:=Fl.later b1;replace oB:=oB.later b1;replace Hr:=hid (Hr.out.later b1);replace Jv:=hid (Jv.out.later b1);replace HE:=hid (HE.out.later b1);replace HL:=hid (HL.out.later b1);replace HB:=hid (ae.then HB.out b1);clear b1;generalize w3.alloc _=Z0 at*;generalize w3.heap.size=g14 at*;have Du:Tr.iO [Hn lo hi]:=by unfold Tr.iO;exact⟨jR (by decide) (jR (by decide) (qg I4.out) (qh _)) (jR (by decide) (qg I3.out) (qh _)),by unfold Tr.iO;trivial⟩
 have hcon:∀(W:World) (g:Nat),ae Z0 W→ag W g 34 #[.int .u8 16,.int .u8 0,.int .i64 0,.string ⟨#[]⟩,.string ⟨#[]⟩,.int .i64 0,.slice (some ⟨WS,0,none⟩) 2 2]→Calls Tryz.prog 10 #[.slice (some ⟨g,0,none⟩) 1 1,.string ⟨#[116,105,109,101]⟩] W fun e w'=>e=.returned (.agg #[.int .i64 s.a,.int .i64 s.b])∧Below W.heap.size W w':=by intro W g hW hg;have h:=jy [Hn lo hi] (some ⟨g,0,none⟩) 1 1 cO _ Du (Cl hg (Jv.out.later hW)) (HE.out.later hW);rw[show eN [Hn lo hi] cO=s by unfold eN;rw[if_pos (LO lo hi)];exact HSY.out] at h;unfold ej cC cO at h;exact h
 have qo:=hid hcon;clear hcon Du;go_upto_region 11 with fail
 refine qi 10 (WO s WS) (Ho _ _) (by kernel_rfl) (by kernel_rfl) (by kernel_rfl) ?_ ?_
 ·simp only[List.take_succ_cons,List.take_zero];refine⟨?_,?_,?_,?_,?_,?_,?_,?_,?_,?_,trivial⟩
  ·intro ρ w3 hc hL hr;have h0:ρ (.tmp 14)=.pointer (some ⟨g14,0,none⟩):=hr.1;have cc:=ar (I7.later hL);exact ai (w':=w3) (by simp[go_sem,h0,cc.1,cc.2];done) ⟨ae.refl _,rfl⟩
  ·intro ρ w3 hc hL hr;have h0:ρ (.tmp 13)=.pointer (some ⟨QX,0,none⟩):=hr.1;have cc:=ar (oB.later hL);exact ai (w':=w3) (by simp[go_sem,h0,cc.1,cc.2];done) ⟨ae.refl _,rfl⟩
  ·intro ρ w3 hc hL hr;have h0:ρ (.tmp 61)=.agg #[.int .i64 s.a,.int .i64 s.b]:=hr.1;have h1:ρ (.tmp 62)=.agg #[.int .i64 s.a,.int .i64 s.b]:=hr.2.1;exact ai (v:=.bool false) (w':=w3) (by simp[go_sem,hc.const,h0,h1];done) ⟨ae.refl _,rfl⟩
  ·intro ρ w3 hc hL hr;have h0:ρ (.tmp 63)=.bool false:=hr.1;exact ai (v:=.bool false) (w':=w3) (by simp[go_sem,hc.const,h0];done) ⟨ae.refl _,rfl⟩
  ·intro ρ w3 hc hL hr;intro hg;have hg:ρ (.tmp 64)=.bool false:=hg;refine⟨fun _=>?_,fun hn=>absurd hg hn⟩;have h0:ρ (.tmp 11)=.pointer (some ⟨g11,0,none⟩):=hr.1;have cc:=(Q4.later hL).cell;have c0:=cc 0;have c1:=cc 1;have c2:=cc 2;have c3:=cc 3;have c4:=cc 4;have c5:=cc 5;have c6:=cc 6;simp only[List.getElem?_toArray,List.getElem?_cons_zero,List.getElem?_cons_succ] at c0 c1 c2 c3 c4 c5 c6;exact ai (w':=w3) (by simp[go_sem,h0,c0,c1,c2,c3,c4,c5,c6];done) ⟨ae.refl _,rfl⟩
  ·intro ρ w3 hc hL hr;intro hg;have hg:ρ (.tmp 64)=.bool false:=hg;refine⟨fun _=>?_,fun hn=>absurd hg hn⟩;have h0:ρ (.tmp 65)=.agg #[.int .u8 16,.int .u8 0,.int .i64 0,.string ⟨#[]⟩,.string ⟨#[]⟩,.int .i64 0,.slice (some ⟨WS,0,none⟩) 2 2]:=hr.1;exact ai (v:=.slice (some ⟨w3.heap.size,0,none⟩) 1 1) (w':=w3.alloc (.cells #[.int .u8 16,.int .u8 0,.int .i64 0,.string ⟨#[]⟩,.string ⟨#[]⟩,.int .i64 0,.slice (some ⟨WS,0,none⟩) 2 2] 34)) (by simp[go_sem,h0];done) ⟨aa w3 _,⟨_,rfl,ag.new w3 _ _⟩⟩
  ·intro ρ w3 hc hL hr;intro hg;have hg:ρ (.tmp 64)=.bool false:=hg;refine⟨fun _=>?_,fun hn=>absurd hg hn⟩;obtain⟨g0,h0,Hs⟩:∃g:Nat,ρ (.tmp 66)=.slice (some ⟨g,0,none⟩) 1 1∧ag w3 g 34 #[.int .u8 16,.int .u8 0,.int .i64 0,.string ⟨#[]⟩,.string ⟨#[]⟩,.int .i64 0,.slice (some ⟨WS,0,none⟩) 2 2]:=hr.1;have e1:=hc.func 10;have e2:=hc.const (.string ⟨#[116,105,109,101]⟩);refine fZ (f:=10) (args:= #[.slice (some ⟨g0,0,none⟩) 1 1,.string ⟨#[116,105,109,101]⟩]) (w':=w3) (by simp[go_sem,e1,e2,h0];done) ?_;refine(qo.out w3 g0 hL Hs).mono ?_;rintro e w4 ⟨rfl,b4⟩;exact⟨_,rfl,b4,rfl⟩
  ·intro ρ w3 hc hL hr;intro hg;have hg:ρ (.tmp 64)=.bool false:=hg;refine⟨fun _=>?_,fun hn=>absurd hg hn⟩;have h0:ρ (.tmp 13)=.pointer (some ⟨QX,0,none⟩):=hr.1;have cc:=ar (oB.later hL);exact ai (w':=w3) (by simp[go_sem,h0,cc.1,cc.2];done) ⟨ae.refl _,rfl⟩
  ·intro ρ w3 hc hL hr;intro hg;have hg:ρ (.tmp 64)=.bool false:=hg;refine⟨fun _=>?_,fun hn=>absurd hg hn⟩;have h0:ρ (.tmp 67)=.agg #[.int .i64 s.a,.int .i64 s.b]:=hr.1;have h1:ρ (.tmp 68)=.agg #[.int .i64 s.a,.int .i64 s.b]:=hr.2.1;exact ai (v:=.bool false) (w':=w3) (by simp[go_sem,hc.const,h0,h1];done) ⟨ae.refl _,rfl⟩
  ·intro ρ w3 hc hL hr;have h0:ρ (.tmp 64)=.bool false:=hr.1;have h1:ρ (.tmp 69)=.bool false:=hr.2.1;exact ai (v:=.bool false) (w':=w3) (by simp[go_sem,hc.const,h0,h1];done) ⟨ae.refl _,rfl⟩
 intro w4 hL;simp only[List.take_succ_cons,List.take_zero,List.drop_succ_cons,List.drop_zero];intro a0 q0 a1 q1 a2 q2 a3 q3 a4 q4 a5 q5 a6 q6 a7 q7 a8 q8 a9 q9;replace q0: .agg #[.int .i64 s.a,.int .i64 s.b]=a0:=Eq.symm q0;subst q0;replace q1: .agg #[.int .i64 s.a,.int .i64 s.b]=a1:=Eq.symm q1;subst q1;replace q2: .bool false=a2:=Eq.symm q2;subst q2;replace q3: .bool false=a3:=Eq.symm q3;subst q3;replace q4: .agg #[.int .u8 16,.int .u8 0,.int .i64 0,.string ⟨#[]⟩,.string ⟨#[]⟩,.int .i64 0,.slice (some ⟨WS,0,none⟩) 2 2]=a4:=Eq.symm q4;subst q4;obtain⟨g_5,rfl,WT⟩:=q5;replace q6: .agg #[.int .i64 s.a,.int .i64 s.b]=a6:=Eq.symm q6;subst q6;replace q7: .agg #[.int .i64 s.a,.int .i64 s.b]=a7:=Eq.symm q7;subst q7;replace q8: .bool false=a8:=Eq.symm q8;subst q8;replace q9: .bool false=a9:=Eq.symm q9;subst q9;simp only[cN,Act.put,List.setIfInBounds_toArray,List.set_cons_succ,List.set_cons_zero];have b1:=hL;clear hL WT qo;replace P4:=P4.later b1;replace Q4:=Q4.later b1;replace Fl:=Fl.later b1;replace oB:=oB.later b1;replace I7:=I7.later b1;replace Hr:=hid (Hr.out.later b1);replace Jv:=hid (Jv.out.later b1);replace HE:=hid (HE.out.later b1);replace HL:=hid (HL.out.later b1);replace HB:=hid (ae.then HB.out b1);clear b1;by_cases hz:n=0
 ·have t1:((n:Int)==0)=true:=by simp[hz]
  have t2:(n==0)=true:=by simp[hz]
  clear hz;go_wp2_with fail;refine(ct _ HE.out).mono ?_;rintro e w9 ⟨rfl,b1⟩;go_wp2_with fail;go_ret;exact⟨rfl,ae.then HB.out b1⟩
 obtain⟨WU, -, -, -⟩:=id HL.out;obtain⟨t,Z1⟩:∃t,ts=[t]:=by
  have h1:=HN1.out;rcases ts with _ |⟨t,_ |⟨t2,ts⟩⟩
  ·exact absurd WU hz
  ·exact⟨t,rfl⟩
  ·simp only[List.length_cons] at WU;omega
 clear WU hz;subst Z1;obtain⟨rfl,y,hA,Ta⟩:=HL.out.one;obtain⟨q,off,rfl,hq,Bo⟩:=hA.one;unfold cw at Bo;have HQ:=hid (And.intro hq (And.intro Bo Ta));have E5:=hid (show Tr.iO [kB 16 (rO lo hi) t] by
  have h1:=Cr.out
  unfold Tr.iO at h1 ⊢
  exact⟨jR (by decide) (jR (by decide) (jR (by decide) (qh _) (qg I3.out)) (jR (by decide) (qh _) (qg I4.out))) h1.1,by unfold Tr.iO;trivial⟩)
 clear hA Ta hq Bo HL Cr HN HN1;have hza:(((1:Nat):Int)==0)=false:=by decide
 obtain⟨z,hz⟩:∃z,z=eN [kB 16 (rO lo hi) t] cO:=⟨_,rfl⟩;have hsz:=TB.out t;rw[← hz] at hsz;replace TB:=hid hsz;clear hsz;have hcon:∀(W:World) (x g:Nat),ae w4 W→ag W x 34 #[.int .u8 16,.int .u8 0,.int .i64 0,.string ⟨#[]⟩,.string ⟨#[]⟩,.int .i64 0,.slice (some ⟨g,0,none⟩) 2 2]→ag W g 34 #[.int .u8 16,.int .u8 0,.int .i64 0,.string ⟨#[]⟩,.string ⟨#[]⟩,.int .i64 0,.slice (some ⟨PL,0,none⟩) 2 2,.int .u8 y.op,.int .u8 y.v.k,.int .i64 y.v.n,.string y.v.s,.string y.name,.int .i64 y.width,.slice y.A y.n y.c]→Calls Tryz.prog 10 #[.slice (some ⟨x,0,none⟩) 1 1,.string ⟨#[116,105,109,101]⟩] W fun e w'=>e=.returned (.agg #[.int .i64 z.a,.int .i64 z.b])∧Below W.heap.size W w':=by intro W x g hW hx hg;have h:=jy [kB 16 (rO lo hi) t] (some ⟨x,0,none⟩) 1 1 cO _ E5.out (Cl hx (od 16 hg (Hr.out.later hW) (HQ.out.2.2.later hW))) (HE.out.later hW);rw[← hz] at h;unfold ej cC cO at h;exact h
 have qo:=hid hcon;clear hcon hz;have l13:=oB.lt;go_upto_region 15 with fail
 refine qi 9 (WQ z PL q off c y w4.heap.size) (Hp _ _ _ _ _ _ _) (by kernel_rfl) (by kernel_rfl) (by kernel_rfl) ?_ ?_
 ·simp only[List.take_succ_cons,List.take_zero];refine⟨?_,?_,?_,?_,?_,?_,?_,?_,?_,trivial⟩
  ·intro ρ w3 hc hL hr;have h0:ρ (.tmp 10)=.pointer (some ⟨LW,0,none⟩):=hr.1;have cc:=(P4.later hL).cell;have c0:=cc 0;have c1:=cc 1;have c2:=cc 2;have c3:=cc 3;have c4:=cc 4;have c5:=cc 5;have c6:=cc 6;simp only[List.getElem?_toArray,List.getElem?_cons_zero,List.getElem?_cons_succ] at c0 c1 c2 c3 c4 c5 c6;exact ai (w':=w3) (by simp[go_sem,h0,c0,c1,c2,c3,c4,c5,c6];done) ⟨ae.refl _,rfl⟩
  ·intro ρ w3 hc hL hr;have h0:ρ (.tmp 2)=.slice (some ⟨q,off,none⟩) 1 c:=hr.1;exact ai (v:=.slice (some ⟨q,off,none⟩) 1 c) (w':=w3) (by simp[go_sem,hc.const,h0];done) ⟨ae.refl _,rfl⟩
  ·intro ρ w3 hc hL hr;have h0:ρ (.tmp 76)=.slice (some ⟨q,off,none⟩) 1 c:=hr.1;exact ai (v:=.pointer (some ⟨q,off,none⟩)) (w':=w3) (by simp[go_sem,hc.const,h0];done) ⟨ae.refl _,rfl⟩
  ·intro ρ w3 hc hL hr;have h0:ρ (.tmp 77)=.pointer (some ⟨q,off,none⟩):=hr.1;have cc:=cw.keep HQ.out.2.1 (fun o=>hL.cell (p:=⟨q,o,none⟩) HQ.out.1);obtain⟨c0,c1,c2,c3,c4,c5,c6⟩:=cc;exact ai (w':=w3) (by simp[go_sem,h0,c0,c1,c2,c3,c4,c5,c6];done) ⟨ae.refl _,rfl⟩
  ·intro ρ w3 hc hL hr;have h0:ρ (.tmp 75)=.agg #[.int .u8 16,.int .u8 0,.int .i64 0,.string ⟨#[]⟩,.string ⟨#[]⟩,.int .i64 0,.slice (some ⟨PL,0,none⟩) 2 2]:=hr.1;have h1:ρ (.tmp 78)=.agg #[.int .u8 y.op,.int .u8 y.v.k,.int .i64 y.v.n,.string y.v.s,.string y.name,.int .i64 y.width,.slice y.A y.n y.c]:=hr.2.1;exact ai (v:=.slice (some ⟨w3.heap.size,0,none⟩) 2 2) (w':=w3.alloc (.cells #[.int .u8 16,.int .u8 0,.int .i64 0,.string ⟨#[]⟩,.string ⟨#[]⟩,.int .i64 0,.slice (some ⟨PL,0,none⟩) 2 2,.int .u8 y.op,.int .u8 y.v.k,.int .i64 y.v.n,.string y.v.s,.string y.name,.int .i64 y.width,.slice y.A y.n y.c] 34)) (by simp[go_sem,h0,h1];done) ⟨aa w3 _,⟨_,rfl,ag.new w3 _ _⟩⟩
  ·intro ρ w3 hc hL hr;obtain⟨g0,h0,Hs⟩:∃g:Nat,ρ (.tmp 79)=.slice (some ⟨g,0,none⟩) 2 2∧ag w3 g 34 #[.int .u8 16,.int .u8 0,.int .i64 0,.string ⟨#[]⟩,.string ⟨#[]⟩,.int .i64 0,.slice (some ⟨PL,0,none⟩) 2 2,.int .u8 y.op,.int .u8 y.v.k,.int .i64 y.v.n,.string y.v.s,.string y.name,.int .i64 y.width,.slice y.A y.n y.c]:=hr.1;exact ai (v:=.agg #[.int .u8 16,.int .u8 0,.int .i64 0,.string ⟨#[]⟩,.string ⟨#[]⟩,.int .i64 0,.slice (some ⟨g0,0,none⟩) 2 2]) (w':=w3) (by simp[go_sem,hc.const,h0];done) ⟨ae.refl _,⟨g0,rfl,Hs⟩⟩
  ·intro ρ w3 hc hL hr;obtain⟨g0,h0,Hs⟩:∃g:Nat,ρ (.tmp 80)=.agg #[.int .u8 16,.int .u8 0,.int .i64 0,.string ⟨#[]⟩,.string ⟨#[]⟩,.int .i64 0,.slice (some ⟨g,0,none⟩) 2 2]∧ag w3 g 34 #[.int .u8 16,.int .u8 0,.int .i64 0,.string ⟨#[]⟩,.string ⟨#[]⟩,.int .i64 0,.slice (some ⟨PL,0,none⟩) 2 2,.int .u8 y.op,.int .u8 y.v.k,.int .i64 y.v.n,.string y.v.s,.string y.name,.int .i64 y.width,.slice y.A y.n y.c]:=hr.1;exact ai (v:=.slice (some ⟨w3.heap.size,0,none⟩) 1 1) (w':=w3.alloc (.cells #[.int .u8 16,.int .u8 0,.int .i64 0,.string ⟨#[]⟩,.string ⟨#[]⟩,.int .i64 0,.slice (some ⟨g0,0,none⟩) 2 2] 34)) (by simp[go_sem,h0];done) ⟨aa w3 _,⟨_,g0,rfl,ag.new w3 _ _,Hs.later (aa w3 _)⟩⟩
  ·intro ρ w3 hc hL hr;obtain⟨x0,g0,h0,Hs,Z2⟩:∃x g:Nat,ρ (.tmp 81)=.slice (some ⟨x,0,none⟩) 1 1∧ag w3 x 34 #[.int .u8 16,.int .u8 0,.int .i64 0,.string ⟨#[]⟩,.string ⟨#[]⟩,.int .i64 0,.slice (some ⟨g,0,none⟩) 2 2]∧ag w3 g 34 #[.int .u8 16,.int .u8 0,.int .i64 0,.string ⟨#[]⟩,.string ⟨#[]⟩,.int .i64 0,.slice (some ⟨PL,0,none⟩) 2 2,.int .u8 y.op,.int .u8 y.v.k,.int .i64 y.v.n,.string y.v.s,.string y.name,.int .i64 y.width,.slice y.A y.n y.c]:=hr.1;have e1:=hc.func 10;have e2:=hc.const (.string ⟨#[116,105,109,101]⟩);refine fZ (f:=10) (args:= #[.slice (some ⟨x0,0,none⟩) 1 1,.string ⟨#[116,105,109,101]⟩]) (w':=w3) (by simp[go_sem,e1,e2,h0];done) ?_;refine(qo.out w3 x0 g0 hL Hs Z2).mono ?_;rintro e w4 ⟨rfl,b4⟩;exact⟨_,rfl,b4,rfl⟩
  ·intro ρ w3 hc hL hr;exact ai (v:=.pointer (some ⟨w3.heap.size,0,none⟩)) (w':=w3.alloc (.cells #[.int .i64 0,.int .i64 0] 30)) (by first | rfl |(simp[go_sem];done)) ⟨aa w3 _,⟨_,rfl,ag.new w3 _ _,hL.size⟩⟩
 intro w5 hL;simp only[List.take_succ_cons,List.take_zero,List.drop_succ_cons,List.drop_zero];intro a0 q0 a1 q1 a2 q2 a3 q3 a4 q4 a5 q5 a6 q6 a7 q7 a8 q8;replace q0: .agg #[.int .u8 16,.int .u8 0,.int .i64 0,.string ⟨#[]⟩,.string ⟨#[]⟩,.int .i64 0,.slice (some ⟨PL,0,none⟩) 2 2]=a0:=Eq.symm q0;subst q0;replace q1: .slice (some ⟨q,off,none⟩) 1 c=a1:=Eq.symm q1;subst q1;replace q2: .pointer (some ⟨q,off,none⟩)=a2:=Eq.symm q2;subst q2;replace q3: .agg #[.int .u8 y.op,.int .u8 y.v.k,.int .i64 y.v.n,.string y.v.s,.string y.name,.int .i64 y.width,.slice y.A y.n y.c]=a3:=Eq.symm q3;subst q3;obtain⟨g_4,rfl,Z3⟩:=q4;obtain⟨g_5,rfl,WT⟩:=q5;obtain⟨x_6,g_6,rfl,Z4,Z5⟩:=q6;replace q7: .agg #[.int .i64 z.a,.int .i64 z.b]=a7:=Eq.symm q7;subst q7;obtain⟨I8,rfl,WV,E6⟩:=q8;simp only[cN,Act.put,List.setIfInBounds_toArray,List.set_cons_succ,List.set_cons_zero];have G0:(Tryz.prog.info? 30).map (·.size)=some 2:=by kernel_rfl
 refine wpList_store_row rfl 30 (.tmp 15) (.tmp 82) rfl I8 #[.int .i64 z.a,.int .i64 z.b] rfl rfl 30 #[.int .i64 0,.int .i64 0] WV G0 rfl (by kernel_rfl) ?_;have I9:=jv WV #[.int .i64 z.a,.int .i64 z.b];have b1:=eU hL E6 #[.int .i64 z.a,.int .i64 z.b];generalize World.setRow _ _ _=w6 at*;refine wpList_nil ?_;simp only[Act.put,List.setIfInBounds_toArray,List.set_cons_succ,List.set_cons_zero];clear Hr Jv HSX HSY E5 I3 I4 HQ qo P4 Q4 I7 WV E6 hL Z3 WT Z4 Z5;replace Fl:=Fl.later b1;replace oB:=oB.later b1;replace HE:=hid (HE.out.later b1);replace HB:=hid (ae.then HB.out b1);clear b1 l13;obtain⟨al,uK⟩:∃al:Bool,(al=true→z=aY)∧(al=false→z≠aY∧bT z s=z):=by
  by_cases h:z=aY
  ·exact⟨true,fun _=>h,fun h=>(by cases h)⟩
  ·exact⟨false,fun h=>(by cases h),fun _=>⟨h,TB.out.resolve_left h⟩⟩
 have yS:=hid uK;clear uK TB;go_upto_region 16 with fail
 refine qi 14 (WR s z al) (Hq _ _ _) (by kernel_rfl) (by kernel_rfl) (by kernel_rfl) ?_ ?_
 ·simp only[List.take_succ_cons,List.take_zero];refine⟨?_,?_,?_,?_,?_,?_,?_,?_,?_,?_,?_,?_,?_,?_,trivial⟩
  ·intro ρ w3 hc hL hr;have h0:ρ (.tmp 15)=.pointer (some ⟨I8,0,none⟩):=hr.1;have cc:=ar (I9.later hL);exact ai (w':=w3) (by simp[go_sem,h0,cc.1,cc.2];done) ⟨ae.refl _,rfl⟩
  ·intro ρ w3 hc hL hr;have h0:ρ (.tmp 12)=.pointer (some ⟨g12,0,none⟩):=hr.1;have cc:=ar (Fl.later hL);exact ai (w':=w3) (by simp[go_sem,h0,cc.1,cc.2];done) ⟨ae.refl _,rfl⟩
  ·intro ρ w3 hc hL hr;cases al
   ·skip
    have h0:ρ (.tmp 83)=.agg #[.int .i64 z.a,.int .i64 z.b]:=hr.1;have h1:ρ (.tmp 84)=.agg #[.int .i64 (-4611687117939015680),.int .i64 4611687117939015679]:=hr.2.1;have e1:=(yS.out.2 rfl).1;have e2:=PK e1;exact ai (v:=.bool false) (w':=w3) (by simp[go_sem,h0,h1];exact e2) ⟨ae.refl _,rfl⟩
   ·skip
    have h0:ρ (.tmp 83)=.agg #[.int .i64 z.a,.int .i64 z.b]:=hr.1;have h1:ρ (.tmp 84)=.agg #[.int .i64 (-4611687117939015680),.int .i64 4611687117939015679]:=hr.2.1;have e1:=yS.out.1 rfl;subst e1;exact ai (v:=.bool true) (w':=w3) (by simp[go_sem,h0,h1,aY,dz,bR];done) ⟨ae.refl _,rfl⟩
  ·intro ρ w3 hc hL hr;cases al
   ·skip
    have h0:ρ (.tmp 85)=.bool false:=hr.1;exact ai (v:=.bool false) (w':=w3) (by simp[go_sem,hc.const,h0];done) ⟨ae.refl _,rfl⟩
   ·skip
    have h0:ρ (.tmp 85)=.bool true:=hr.1;exact ai (v:=.bool true) (w':=w3) (by simp[go_sem,hc.const,h0];done) ⟨ae.refl _,rfl⟩
  ·intro ρ w3 hc hL hr;cases al
   ·skip
    intro hg;have hg:ρ (.tmp 86)=.bool false:=hg;refine⟨fun _=>?_,fun hn=>absurd hg hn⟩;have h0:ρ (.tmp 15)=.pointer (some ⟨I8,0,none⟩):=hr.1;have cc:=ar (I9.later hL);exact ai (w':=w3) (by simp[go_sem,h0,cc.1,cc.2];done) ⟨ae.refl _,rfl⟩
   ·skip
    intro hg;have hg:ρ (.tmp 86)=.bool true:=hg;exact⟨fun hn=>(by rw[hg] at hn;cases hn),fun _=>rfl⟩
  ·intro ρ w3 hc hL hr;cases al
   ·skip
    intro hg;have hg:ρ (.tmp 86)=.bool false:=hg;refine⟨fun _=>?_,fun hn=>absurd hg hn⟩;have h0:ρ (.tmp 13)=.pointer (some ⟨QX,0,none⟩):=hr.1;have cc:=ar (oB.later hL);exact ai (w':=w3) (by simp[go_sem,h0,cc.1,cc.2];done) ⟨ae.refl _,rfl⟩
   ·skip
    intro hg;have hg:ρ (.tmp 86)=.bool true:=hg;exact⟨fun hn=>(by rw[hg] at hn;cases hn),fun _=>rfl⟩
  ·intro ρ w3 hc hL hr;cases al
   ·skip
    intro hg;have hg:ρ (.tmp 86)=.bool false:=hg;refine⟨fun _=>?_,fun hn=>absurd hg hn⟩;have h0:ρ (.tmp 87)=.agg #[.int .i64 z.a,.int .i64 z.b]:=hr.1;have h1:ρ (.tmp 88)=.agg #[.int .i64 s.a,.int .i64 s.b]:=hr.2.1;have e1:=hc.func 12;have hw:=jI z s w3;rw[(yS.out.2 rfl).2] at hw;unfold ej cC at hw;refine fZ (f:=12) (args:= #[.agg #[.int .i64 z.a,.int .i64 z.b],.agg #[.int .i64 s.a,.int .i64 s.b]]) (w':=w3) (by simp[go_sem,e1,h0,h1];done) ?_;refine hw.mono ?_;rintro e w4 ⟨rfl,b4⟩;exact⟨_,rfl,b4,rfl⟩
   ·skip
    intro hg;have hg:ρ (.tmp 86)=.bool true:=hg;exact⟨fun hn=>(by rw[hg] at hn;cases hn),fun _=>rfl⟩
  ·intro ρ w3 hc hL hr;cases al
   ·skip
    intro hg;have hg:ρ (.tmp 86)=.bool false:=hg;refine⟨fun _=>?_,fun hn=>absurd hg hn⟩;have h0:ρ (.tmp 15)=.pointer (some ⟨I8,0,none⟩):=hr.1;have cc:=ar (I9.later hL);exact ai (w':=w3) (by simp[go_sem,h0,cc.1,cc.2];done) ⟨ae.refl _,rfl⟩
   ·skip
    intro hg;have hg:ρ (.tmp 86)=.bool true:=hg;exact⟨fun hn=>(by rw[hg] at hn;cases hn),fun _=>rfl⟩
  ·intro ρ w3 hc hL hr;cases al
   ·skip
    intro hg;have hg:ρ (.tmp 86)=.bool false:=hg;refine⟨fun _=>?_,fun hn=>absurd hg hn⟩;have h0:ρ (.tmp 89)=.agg #[.int .i64 z.a,.int .i64 z.b]:=hr.1;have h1:ρ (.tmp 90)=.agg #[.int .i64 z.a,.int .i64 z.b]:=hr.2.1;exact ai (v:=.bool true) (w':=w3) (by simp[go_sem,hc.const,h0,h1];done) ⟨ae.refl _,rfl⟩
   ·skip
    intro hg;have hg:ρ (.tmp 86)=.bool true:=hg;exact⟨fun hn=>(by rw[hg] at hn;cases hn),fun _=>rfl⟩
  ·intro ρ w3 hc hL hr;cases al
   ·skip
    have h0:ρ (.tmp 86)=.bool false:=hr.1;have h1:ρ (.tmp 91)=.bool true:=hr.2.1;exact ai (v:=.bool true) (w':=w3) (by simp[go_sem,hc.const,h0,h1];done) ⟨ae.refl _,rfl⟩
   ·skip
    have h0:ρ (.tmp 86)=.bool true:=hr.1;have h1:ρ (.tmp 91)=undef:=hr.2.1;exact ai (v:=.bool true) (w':=w3) (by simp[go_sem,hc.const,h0,h1];done) ⟨ae.refl _,rfl⟩
  ·intro ρ w3 hc hL hr;have h0:ρ (.tmp 92)=.bool true:=hr.1;exact ai (v:=.bool true) (w':=w3) (by simp[go_sem,hc.const,h0];done) ⟨ae.refl _,rfl⟩
  ·intro ρ w3 hc hL hr;intro hg;have hg:ρ (.tmp 93)=.bool true:=hg;refine⟨fun _=>?_,fun hn=>absurd hg hn⟩;have e1:=hc.func 7;refine fZ (f:=7) (args:= #[]) (w':=w3) (by simp[go_sem,e1];done) ?_;refine(ct _ (HE.out.later hL)).mono ?_;rintro e w4 ⟨rfl,b4⟩;exact⟨_,rfl,b4,rfl⟩
  ·intro ρ w3 hc hL hr;have h0:ρ (.tmp 93)=.bool true:=hr.1;have h1:ρ (.tmp 94)=.bool true:=hr.2.1;exact ai (v:=.bool true) (w':=w3) (by simp[go_sem,hc.const,h0,h1];done) ⟨ae.refl _,rfl⟩
  ·intro ρ w3 hc hL hr;have h0:ρ (.tmp 95)=.bool true:=hr.1;exact ai (v:=.bool true) (w':=w3) (by simp[go_sem,hc.const,h0];done) ⟨ae.refl _,rfl⟩
 intro w7 hL;simp only[List.take_succ_cons,List.take_zero,List.drop_succ_cons,List.drop_zero];intro a0 q0 a1 q1 a2 q2 a3 q3 a4 q4 a5 q5 a6 q6 a7 q7 a8 q8 a9 q9 Z6 ZV a11 ZW a12 ZX Z7 Wl;clear q0;clear q1;clear q2;clear q3;clear q4;clear q5;clear q6;clear q7;clear q8;clear q9;clear ZV;clear ZW;clear ZX;replace Wl: .bool true=Z7:=Eq.symm Wl;subst Wl;simp only[cN,Act.put,List.setIfInBounds_toArray,List.set_cons_succ,List.set_cons_zero];have b1:=hL;clear hL Fl oB I9 yS HE;go_wp2_with fail;go_ret;exact⟨rfl,ae.then HB.out b1⟩
theorem Cm {H:Type}(enc:TypeId×Value→H)(W:World)(base:Nat)(v0 v1 v2:Value)(d0 d1 d2:DataW H)(p0 p1 p2:List MemPlace)
  (Z8:Value.okWide Tryz.prog W .any base 2 v0) (YU:Value.okWide Tryz.prog W .any base 2 v1) (Xh:Value.okWide Tryz.prog W .any base 22 v2)
  (k0:DataW.Trod enc Tryz.prog W 0 (fun _=>true) true 2 v0 d0 p0) (k1:DataW.Trod enc Tryz.prog W 0 (fun _=>true) true 2 v1 d1 p1) (k2:DataW.Trod enc Tryz.prog W 0 (fun _=>true) true 22 v2 d2 p2)
  (l0:eu 2 d0) (l1:eu 2 d1) (l2:eu 22 d2) (hE:fQ W):
  Calls Tryz.prog 4 #[v0,v1,v2] W fun e w'=>e=.returned (.bool true)∧Below W.heap.size W w':=by
 obtain⟨ts,A,n,c,rfl,hl,aZ,hn⟩:=xz Xh k2 l2;obtain⟨i,rfl,_,_,ki⟩:=open_int Tryz.underlying2 Z8 k0;obtain⟨j,rfl,_,_,kj⟩:=open_int Tryz.underlying2 YU k1;exact uE i j (Bh ki) (Bh kj) ts A n c W aZ hl hn hE
end Go.Proofs.YtfmbcoeallmnnaaGreatDoor
