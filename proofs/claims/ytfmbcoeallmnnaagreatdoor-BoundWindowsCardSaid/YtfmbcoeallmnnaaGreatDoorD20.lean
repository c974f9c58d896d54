/- Parts of the proof. -/
import Derived.LaidMore
import Derived.Stop.Joined
import Derived.HandedShaped
import Derived.Lay
import Derived.Lib.LaidTab
import Derived.Test.YtfmbcoeallmnnaaGreatDoorD18
import Derived.Test.YtfmbcoeallmnnaaGreatDoorD19
namespace Go.Proofs.YtfmbcoeallmnnaaGreatDoor
open Go.Lib (hid)
open Go.ChangeShapes Go.WideShapes Go.ChangeAt Go.RowKit
set_option linter.unusedVariables false
set_option linter.unusedSimpArgs false
theorem xu {op width:Int} {v:Val} {n:Nat}(h:wV op v width n=true):(10≤op→op≤17→n=2)∧(op=1→good v=true):=by
 have h2:=Iy op v ByteArray.empty width n;rw[h] at h2;have h3:bc ⟨op,v,ByteArray.empty,width,none,n,0⟩≠21:=by simpa using h2
 have hz:∀k:Int,(10≤op∧op≤17)∨op=1→bc ⟨op,v,ByteArray.empty,width,none,n,0⟩=0:=by
  intro _ ho;have ha:gj op= -1:=by unfold gj;rw[if_neg (by omega),if_neg (by omega),if_neg (by omega)]
  unfold bc at h3 ⊢;split
  ·rfl
  ·rename_i h4;rw[if_neg h4] at h3;split
   ·rfl
   ·rename_i h5;rw[if_neg h5] at h3;dsimp only at h3;rw[ha,if_neg (by omega)] at h3;exact absurd rfl h3
 exact⟨fun h1 h2=>xo (hz 0 (.inl ⟨h1,h2⟩)) h1 h2,fun h1=>sM (hz 0 (.inr h1)) h1⟩
theorem at_root {w:World} {S:Nat→Prop}:∀ {t:Tr} {y:Ex},t.at_ w S y→y.op=t.op∧y.v=t.v∧y.name=t.name
 | .mk op v name width args,y,h=>by unfold Tr.at_ at h;exact⟨h.1,h.2.1,h.2.2.1⟩
theorem IA:∀ {t:Tr},t.ok→t.v.Ok
 | .mk op v name width args,h=>by unfold Tr.ok at h;exact h.1
mutual
theorem Tr.tell {α:Type}(f:Tr→α)(P:Tr→Prop)(C:World→Ex→α→Prop)(hP:∀op v name width ts,P (.mk op v name width ts)→∀t∈ts,P t)
  (step:∀(op:Int) (v:Val) (name:ByteArray) (width:Int) (ts:List Tr) (A:Option Addr) (c:Nat) (args:List (Ex×α)) (w:World),(Tr.mk op v name width ts).ok→P (.mk op v name width ts)→args.length=ts.length→args.map (·.2)=ts.map f→RE w w.heap.size A (args.map (·.1))→Tr.bJ w (Old w) ts (args.map (·.1))→(∀a∈args,∀W,Below w.heap.size w W→C W a.1 a.2)→C w ⟨op,v,name,width,A,args.length,c⟩ (f (.mk op v name width ts))):
  ∀(t:Tr) (y:Ex) (w:World),t.ok→P t→t.at_ w (Old w) y→∀W,Below w.heap.size w W→C W y (f t)
 | .mk op v name width ts,y,w,aZ,hp,hat,W,hW=>by
   have kI:=hat.later hW;unfold Tr.at_ at kI;obtain⟨h1,h2,h3,h4,h5,ys,h6,h7⟩:=kI;have Du:=aZ;unfold Tr.ok at Du;obtain⟨l,dN,hl2,yX⟩:=Tr.tells f P C hP step ts ys W Du.2.2.2.2.2 (hP op v name width ts hp) h7;obtain⟨nD,yv,fI,dO,yA,yn,yc⟩:=y;dsimp only at h1 h2 h3 h4 h5 h6;subst h1 h2 h3 h4 h5;have hlen:l.length=ts.length:=by
    have:(l.map (·.1)).length=ys.length:=by rw[dN]
    rw[List.length_map,h7.length] at this;exact this
   have k:=step nD yv fI dO ts yA yc l W aZ hp hlen hl2 (by rw[dN];exact h6.old) (by rw[dN];exact h7) yX;rw[hlen] at k;exact k
theorem Tr.tells {α:Type}(f:Tr→α)(P:Tr→Prop)(C:World→Ex→α→Prop)(hP:∀op v name width ts,P (.mk op v name width ts)→∀t∈ts,P t)
  (step:∀(op:Int) (v:Val) (name:ByteArray) (width:Int) (ts:List Tr) (A:Option Addr) (c:Nat) (args:List (Ex×α)) (w:World),(Tr.mk op v name width ts).ok→P (.mk op v name width ts)→args.length=ts.length→args.map (·.2)=ts.map f→RE w w.heap.size A (args.map (·.1))→Tr.bJ w (Old w) ts (args.map (·.1))→(∀a∈args,∀W,Below w.heap.size w W→C W a.1 a.2)→C w ⟨op,v,name,width,A,args.length,c⟩ (f (.mk op v name width ts))):
  ∀(ts:List Tr) (ys:List Ex) (w:World),Tr.iO ts→(∀t∈ts,P t)→Tr.bJ w (Old w) ts ys→∃l:List (Ex×α),l.map (·.1)=ys∧l.map (·.2)=ts.map f∧∀a∈l,∀W,Below w.heap.size w W→C W a.1 a.2
 | [],ys,w,_,_,hat=>by unfold Tr.bJ at hat;subst hat;exact⟨[],rfl,rfl,by simp⟩
 | t::ts,ys,w,aZ,hp,hat=>by
   unfold Tr.bJ at hat;unfold Tr.iO at aZ;obtain⟨y,ys',rfl,h2,h3⟩:=hat;obtain⟨l,dN,hl2,yX⟩:=Tr.tells f P C hP step ts ys' w aZ.2 (fun x hx=>hp x (by simp[hx])) h3;refine⟨(y,f t)::l,by simp[dN],by simp[hl2],fun a ha W hW=>?_⟩;rcases List.mem_cons.1 ha with rfl | ha
   ·exact Tr.tell f P C hP step t y w aZ.1 (hp t (by simp)) h2 W hW
   ·exact yX a ha W hW
end
def Xg (y:Ex):Value:=.agg #[.int .u8 y.op,.int .u8 y.v.k,.int .i64 y.v.n,.string y.v.s,.string y.name,.int .i64 y.width,.slice y.A y.n y.c]
theorem Tr.KJ (t:Tr)(y:Ex)(w:World)(aZ:t.ok)(hat:t.at_ w (Old w) y):Bj 27 w y t.depth:=by refine Tr.tell Tr.depth (fun _=>True) (fun W y r=>Calls Tryz.prog 27 #[Xg y] W fun e w'=>e=.returned (.int .i64 r)∧Below W.heap.size W w') (fun _ _ _ _ _ _ _ _=>trivial) ?_ t y w aZ trivial hat;intro op v name width ts A c args w aZ _ hlen hm hA _ hE;have k:=Dc op v name width A c args w (by unfold Tr.ok at aZ;rw[hlen];exact aZ.2.1) hA hE;unfold Tr.depth;rw[uM,← hm];exact k
theorem rq:∀ts:List Tr,Tr.wW ts=(ts.map Tr.forms).all id
 | []=>by simp[Tr.wW]
 | t::ts=>by simp[Tr.wW,rq ts]
theorem Rg {α:Type}(l:List (α×Bool)):l.all (·.2)=(l.map (·.2)).all id:=by rw[List.all_map];rfl
theorem Tr.KL (t:Tr)(y:Ex)(w:World)(aZ:t.ok)(hat:t.at_ w (Old w) y):lu 28 w y t.forms:=by refine Tr.tell Tr.forms (fun _=>True) (fun W y r=>Calls Tryz.prog 28 #[Xg y] W fun e w'=>e=.returned (.bool r)∧Below W.heap.size W w') (fun _ _ _ _ _ _ _ _=>trivial) ?_ t y w aZ trivial hat;intro op v name width ts A c args w aZ _ hlen hm hA _ hE;unfold Tr.ok at aZ;have k:=Bp op v name width A c args w aZ.2.2.1 aZ.1 aZ.2.2.2.2.1 aZ.2.2.2.1 (by rw[hlen];exact aZ.2.1) hA hE;unfold Tr.forms;rw[rq,← hm,← Rg,← hlen];exact k
theorem mY (aA:ByteArray):∀ts:List Tr,Tr.sB aA ts=ts.map (Tr.span aA)
 | []=>by simp[Tr.sB]
 | t::ts=>by simp[Tr.sB,mY aA ts]
theorem xw (aA:ByteArray):∀ts:List Tr,Tr.values aA ts=ts.map (Tr.value aA)
 | []=>by simp[Tr.values]
 | t::ts=>by simp[Tr.values,xw aA ts]
def Sub (t:Tr):Prop:=t.forms=true
theorem sP (op:Int)(v:Val)(name:ByteArray)(width:Int)(ts:List Tr)(h:Sub (.mk op v name width ts)):(∀t∈ts,Sub t)∧wV op v width ts.length=true:=by unfold Sub Tr.forms at h;rw[Bool.and_eq_true,rq,List.all_eq_true] at h;exact⟨fun t ht=>h.1 _ (List.mem_map_of_mem ht),h.2⟩
theorem Dv {α:Type} {f:Tr→α} {ts:List Tr} {args:List (Ex×α)} {w:World}(h2:ts.length=2)(hlen:args.length=ts.length)(hm:args.map (·.2)=ts.map f)(hall:Tr.bJ w (Old w) ts (args.map (·.1))):
  ∃t1 t2 a b,ts=[t1,t2]∧args=[(a,f t1),(b,f t2)]∧t1.at_ w (Old w) a∧t2.at_ w (Old w) b:=by
 match ts,h2 with
 | [t1,t2],_=>
   match args,hlen with
   | [(a,x),(b,y)],_=>simp only[List.map_cons,List.map_nil,List.cons.injEq,and_true] at hm;obtain⟨rfl,rfl⟩:=hm;unfold Tr.bJ at hall;obtain⟨y1,ys,h1,h3,h4⟩:=hall;unfold Tr.bJ at h4;obtain⟨y2,ys2,h5,h6,h7⟩:=h4;simp only[List.map_cons,List.map_nil,List.cons.injEq] at h1;obtain⟨rfl,rfl⟩:=h1;simp only[List.cons.injEq] at h5;obtain⟨rfl,_⟩:=h5;exact⟨t1,t2,a,b,rfl,rfl,h3,h6⟩
theorem xx {op:Int} {aA:ByteArray} {w:World} {S:Nat→Prop} {t1 t2:Tr} {a b:Ex}(ha:t1.at_ w S a)(hb:t2.at_ w S b):bF op aA (dK a) (dK b)=bF op aA t1 t2:=by obtain⟨h1,h2,h3⟩:=at_root ha;obtain⟨k1,k2,k3⟩:=at_root hb;simp only[bF,iP,dK,Tr.op,Tr.v,Tr.name,h1,h2,h3,k1,k2,k3];rfl
theorem Nu {op:Int} {v:Val} {aA:ByteArray} {w:World} {S:Nat→Prop} {t1 t2:Tr} {a b:Ex} {sp:List Sp}(h1:10≤op)(h2:op≤15)(ha:t1.at_ w S a)(hb:t2.at_ w S b):sy aA op v [t1,t2] sp=Ix op aA a b:=by
 have hn:kE op v=false:=by
  have:(op==1)=false:=by simp;omega
  simp[kE,aO,this]
 unfold sy Ix;rw[if_neg (by omega),if_neg (by omega),if_neg (by rw[hn];decide),if_neg (by omega)];obtain⟨a1,a2,_⟩:=at_root ha;obtain⟨b1,b2,_⟩:=at_root hb;have e1:([t1,t2].any wU)=(aO a.op a.v || aO b.op b.v):=by simp[wU,a1,a2,b1,b2]
 rw[e1];split
 ·rfl
 ·unfold qE;rw[xx ha hb];rfl
theorem Tr.Vl (aA:ByteArray)(t:Tr)(y:Ex)(w:World)(aZ:t.ok)(hf:Sub t)(hat:t.at_ w (Old w) y):∀W,Below w.heap.size w W→fQ W→Calls Tryz.prog 20 #[Xg y,.string aA] W (ej (t.span aA) W):=by
 refine Tr.tell (Tr.span aA) Sub (fun W y s=>fQ W→Calls Tryz.prog 20 #[Xg y,.string aA] W (ej s W)) (fun op v name width ts h=>(sP op v name width ts h).1) ?_ t y w aZ hf hat;intro op v name width ts A c args w aZ hs hlen hm hA hall hE E;obtain⟨_,hfn⟩:=sP op v name width ts hs;obtain⟨hf2,YT⟩:=xu hfn;unfold Tr.span;rw[mY,← hm];unfold Tr.ok at aZ;by_cases h1:10≤op∧op≤17
 ·obtain⟨t1,t2,a,b,rfl,rfl,ha,hb⟩:=Dv (hf2 h1.1 h1.2) hlen hm hall;have ca:tT 20 aA w a (t1.span aA):=fun W hW=>hE (a,_) (by simp) W hW (E.later hW)
  have cb:tT 20 aA w b (t2.span aA):=fun W hW=>hE (b,_) (by simp) W hW (E.later hW)
  have iO:=aZ.2.2.2.2.2;unfold Tr.iO at iO;have YU:=iO.1;have Xh:=iO.2;unfold Tr.iO at Xh;have va:=IA YU;have vb:=IA Xh.1;rw[←(at_root ha).2.1] at va;rw[←(at_root hb).2.1] at vb;by_cases xe:op=16
  ·subst xe;exact Ve v name width A c aA w E a b _ _ hA ca cb
  by_cases xf:op=17
  ·subst xf;exact YG v name width A c aA w E a b _ _ hA ca cb
  ·rw[Nu h1.1 (by omega) ha hb];exact of_ord op v name width A c aA w E h1.1 (by omega) a b hA va vb
 ·have Cp:(op==16)=false:=by simp;omega
  have Cq:(op==17)=false:=by simp;omega
  unfold sy;rw[if_neg (by omega),if_neg (by omega)];cases hN:aO op v
  ·cases ho:(op==1)
   ·rw[if_neg (by simp[kE,hN,ho]),if_pos (by omega)];exact YK op v name width A args.length c aA w E Cp Cq hN ho (by omega)
   cases k1:(v.k==1)
   ·rw[if_neg (by simp[kE,hN,ho,fw,k1]),if_pos (by omega)];exact YL op v name width A args.length c aA w E Cp Cq hN ho k1 (by omega)
   cases k2:(v.n==0)
   ·rw[if_neg (by simp[kE,hN,ho,fw,k1,k2]),if_pos (by omega)];exact YM op v name width A args.length c aA w E Cp Cq hN ho k1 k2 (by omega)
   have he:(ByteArray.empty.toList:List UInt8)=[]:=by rw[ByteArray.toList_eq];rfl
   cases k3:(v.s.toList== [])
   ·rw[if_neg (by simp only[kE,hN,ho,fw,k1,k2,he,k3];decide),if_pos (by omega)];exact YN op v name width A args.length c aA w E Cp Cq hN ho k1 k2 k3 (by omega)
   ·rw[if_pos (by simp only[kE,hN,ho,fw,k1,k2,he,k3];decide)];exact YJ op v name width A args.length c aA w E Cp Cq hN ho k1 k2 k3
  ·rw[if_pos (by simp[kE,hN])];exact Vf op v name width A args.length c aA w E Cp Cq hN
theorem Tr.Rh (aA:ByteArray)(t:Tr)(y:Ex)(w:World)(aZ:t.ok)(hf:Sub t)(hat:t.at_ w (Old w) y):∀W,Below w.heap.size w W→Calls Tryz.prog 17 #[Xg y,.string aA] W (fy (t.value aA) W):=by
 refine Tr.tell (Tr.value aA) Sub (fun W y s=>Calls Tryz.prog 17 #[Xg y,.string aA] W (fy s W)) (fun op v name width ts h=>(sP op v name width ts h).1) ?_ t y w aZ hf hat;intro op v name width ts A c args w aZ hs hlen hm hA hall hE;obtain⟨_,hfn⟩:=sP op v name width ts hs;obtain⟨hf2,YT⟩:=xu hfn;unfold Tr.value;rw[xw,← hm];unfold Tr.ok at aZ;by_cases h1:op=16∨op=17∨op=10
 ·obtain⟨t1,t2,a,b,rfl,rfl,ha,hb⟩:=Dv (hf2 (by omega) (by omega)) hlen hm hall;have ca:dQ 17 aA w a (t1.value aA):=fun W hW=>hE (a,_) (by simp) W hW
  have cb:dQ 17 aA w b (t2.value aA):=fun W hW=>hE (b,_) (by simp) W hW
  rcases h1 with rfl | rfl | rfl
  ·exact Nk v name width A c aA w a b _ _ hA ca cb
  ·exact QY v name width A c aA w a b _ _ hA ca cb
  ·have k:=QZ v name width A c aA w a b hA;unfold N6 at k;rw[xx ha hb] at k;exact k
 ·have Cp:(op==16)=false:=by simp;omega
  have Cq:(op==17)=false:=by simp;omega
  have t10:(op==10)=false:=by simp;omega
  unfold UO;rw[if_neg (by omega),if_neg (by omega),if_neg (by omega)];exact Kt op v name width A args.length c aA w Cp Cq t10
theorem RE.one {w:World} {B:Nat} {A:Option Addr} {a:Ex}(h:RE w B A [a]):∃q off,A=some ⟨q,off,none⟩∧q < B∧cw w q off a:=by
 rcases h with h |⟨q,off,h1,h2,h3⟩
 ·cases h
 ·exact⟨q,off,h1,h2,h3 0 a rfl⟩
structure jo (w:World) (ts:List Tr) (A:Option Addr) (n:Nat):Prop where
 n:n=ts.length
 lies:∃ys,PV w (Old w) A ys∧Tr.bJ w (Old w) ts ys
theorem jo.later {w w':World} {ts:List Tr} {A:Option Addr} {n:Nat}(h:jo w ts A n)(hb:Below w.heap.size w w'):jo w' ts A n:=by obtain⟨h1,ys,h2,h3⟩:=h;exact⟨h1,ys,h2.keep fun b hS=>⟨fun o=>hb.cell (p:=⟨b,o,none⟩) hS,Nat.lt_of_lt_of_le hS hb.size⟩,h3.later hb⟩
theorem jo.one {w:World} {t:Tr} {A:Option Addr} {n:Nat}(h:jo w [t] A n):n=1∧∃y,RE w w.heap.size A [y]∧t.at_ w (Old w) y:=by obtain⟨h1,ys,h2,h3⟩:=h;unfold Tr.bJ at h3;obtain⟨y,ys',rfl,h4,h5⟩:=h3;unfold Tr.bJ at h5;subst h5;exact⟨h1,y,h2.old,h4⟩
set_option maxHeartbeats 1000000
set_option maxRecDepth 100000
theorem Nv (A:Option Addr)(n c:Nat)(w:World)(hn:((n:Int)==1)=false):Calls Tryz.prog 16 #[.slice A n c] w fun e w'=>e=.returned (.bool false)∧Below w.heap.size w w':=by have hb:=Below.refl w.heap.size w;go_enter Tryz.func16,Tryz.ntmps16;go_wp2_with fail;go_ret;exact⟨rfl,hb⟩
theorem Vm (A:Option Addr)(c:Nat)(w:World)(y:Ex)(d:Int)(f s:Bool)(hA:RE w w.heap.size A [y])(hd:Bj 27 w y d)(hf:lu 28 w y f)(hs:lu 29 w y s):
  Calls Tryz.prog 16 #[.slice A 1 c] w fun e w'=>e=.returned (.bool (decide (d≤32)&&(f && s)))∧Below w.heap.size w w':=by
 obtain⟨q,off,rfl,hq,hx⟩:=hA.one;have HX:=hid hx;clear hA;have hx0:=hx;unfold cw at hx;go_enter Tryz.func16,Tryz.ntmps16;go_wp2_with fail;refine(hd _ (Below.refl _ _)).mono ?_;rintro e w1 ⟨rfl,b1⟩;have hB:=b1;have hx1:=HX.out.keep fun o=>b1.cell (p:=⟨q,o,none⟩) hq
 clear hx b1 hx0;unfold cw at hx1;cases h1:decide (d≤32)
 ·go_wp2_with fail;go_ret;exact⟨by rw[h1];rfl,hB⟩
 go_wp2_with fail;refine(hf _ hB).mono ?_;rintro e w2 ⟨rfl,b2⟩;replace hB:=ae.then hB b2
 have hx2:=HX.out.keep fun o=>hB.cell (p:=⟨q,o,none⟩) hq
 clear hx1 b2;unfold cw at hx2;cases f
 ·go_wp2_with fail;go_ret;exact⟨by rw[h1];rfl,hB⟩
 go_wp2_with fail;refine(hs _ hB).mono ?_;rintro e w3 ⟨rfl,b2⟩;replace hB:=ae.then hB b2
 clear hx2 b2;go_wp2_with fail;go_ret;exact⟨by rw[h1];rfl,hB⟩
theorem xy (ts:List Tr)(A:Option Addr)(n c:Nat)(w:World)(aZ:Tr.iO ts)(h:jo w ts A n):Calls Tryz.prog 16 #[.slice A n c] w fun e w'=>e=.returned (.bool (mM ts))∧Below w.heap.size w w':=by
 match ts,h,aZ with
 | [],h,aZ=>exact Nv A n c w (by have:=h.n;simp at this;simp;omega)
 | t::u::r,h,aZ=>exact Nv A n c w (by have:=h.n;simp at this;simp;omega)
 | [t],h,aZ=>obtain⟨rfl,y,h2,h3⟩:=h.one;unfold Tr.iO at aZ;exact Vm A c w y _ _ _ h2 (Tr.KJ t y w aZ.1 h3) (Tr.KL t y w aZ.1 h3) (Tr.Im t y w aZ.1 h3)
theorem tX {ts:List Tr}(h:mM ts=true):∃t,ts=[t]∧Sub t:=by
 match ts,h with
 | [t],h=>unfold mM at h;rw[Bool.and_eq_true,Bool.and_eq_true] at h;exact⟨t,rfl,h.2.1⟩
theorem jy (ts:List Tr)(A:Option Addr)(n c:Nat)(aA:ByteArray)(w:World)(aZ:Tr.iO ts)(h:jo w ts A n)(hE:fQ w):Calls Tryz.prog 10 #[.slice A n c,.string aA] w (ej (eN ts aA) w):=by
 have HL:=hid h;have Cr:=hid aZ;clear h aZ;have HZ:=ag.new w 30 #[.int .i64 0,.int .i64 0];have hB:=aa w (.cells #[.int .i64 0,.int .i64 0] 30);have hz:w.heap.size≤w.heap.size:=Nat.le_refl _;go_enter Tryz.func10,Tryz.ntmps10;go_upto_region 1 with fail
 generalize w.alloc _=W at*;obtain⟨gz,kJ⟩:∃gz,gz=w.heap.size:=⟨_,rfl⟩;rw[← kJ] at HZ ⊢;replace hz:w.heap.size≤gz:=by omega
 clear kJ;replace HL:=hid (HL.out.later hB);go_wp2_with fail;refine(xy ts A n c W Cr.out HL.out).mono ?_;rintro e w1 ⟨rfl,b1⟩;replace HL:=hid (HL.out.later b1);replace hB:=ae.then hB b1
 replace HZ:=HZ.later b1;clear b1;cases hg:mM ts
 ·have HS:=hid (show eN ts aA=aY by unfold eN;rw[if_neg (by rw[hg];decide)]);clear hg;have E:=hE.later hB;have e0:=E.c0;have e1:=E.c1;have bK:=ar HZ;have dn:=ag.frozen HZ;clear HZ;go_wp2_with fail;exact bodyPost_ret (v:=cC aY) (by simp[results,Tryz.results10,go_sem,bK,cC,br,aY,dz,bR]) rfl ⟨by rw[HS.out],(hB.setCell hz _).setCell hz _⟩
 ·obtain⟨t,rfl,vZ⟩:=tX hg;have HS:=hid (show eN [t] aA=t.span aA by unfold eN;rw[if_pos hg];rfl);obtain⟨rfl,y,h2,h3⟩:=HL.out.one;have vw:=Cr.out;unfold Tr.iO at vw;have hcon:=Tr.Vl aA t y w1 vw.1 vZ h3 w1 (Below.refl _ _) (hE.later hB);obtain⟨q,off,rfl,hq,hx⟩:=h2.one;have qo:=hid hcon;clear hcon h2 h3 vZ vw Cr HL;unfold cw at hx;go_wp2_with fail;refine qo.out.mono ?_;rintro e w2 ⟨rfl,b1⟩;replace hB:=ae.then hB b1
  replace HZ:=HZ.later b1;clear hg hx b1;generalize t.span aA=z at*;unfold cC;have bK:=ar HZ;have dn:=ag.frozen HZ;clear HZ;go_wp2_with fail;exact bodyPost_ret (v:=cC z) (by simp[results,Tryz.results10,go_sem,bK,cC,br,aY,dz,bR]) rfl ⟨by rw[HS.out],(hB.setCell hz _).setCell hz _⟩
theorem rr (ts:List Tr)(A:Option Addr)(n c:Nat)(aA:ByteArray)(w:World)(aZ:Tr.iO ts)(h:jo w ts A n):Calls Tryz.prog 8 #[.slice A n c,.string aA] w (fy (fF ts aA) w):=by
 have HL:=hid h;have Cr:=hid aZ;clear h aZ;have HZ:=ag.new w 26 #[.int .u8 0,.int .i64 0,.string ⟨#[]⟩];have hB:=aa w (.cells #[.int .u8 0,.int .i64 0,.string ⟨#[]⟩] 26);have hz:w.heap.size≤w.heap.size:=Nat.le_refl _;go_enter Tryz.func8,Tryz.ntmps8;go_upto_region 1 with fail
 generalize w.alloc _=W at*;obtain⟨gz,kJ⟩:∃gz,gz=w.heap.size:=⟨_,rfl⟩;rw[← kJ] at HZ ⊢;replace hz:w.heap.size≤gz:=by omega
 clear kJ;replace HL:=hid (HL.out.later hB);go_wp2_with fail;refine(xy ts A n c W Cr.out HL.out).mono ?_;rintro e w1 ⟨rfl,b1⟩;replace HL:=hid (HL.out.later b1);replace hB:=ae.then hB b1
 replace HZ:=HZ.later b1;clear b1;cases hg:mM ts
 ·have HS:=hid (show fF ts aA=none by unfold fF;rw[if_neg (by rw[hg];decide)]);clear hg;have r0:=HZ.cell 0;have r1:=HZ.cell 1;have r2:=HZ.cell 2;have dn:=ag.frozen HZ;have lz:=HZ.lt;simp only[List.getElem?_toArray,List.getElem?_cons_zero,List.getElem?_cons_succ] at r0 r1 r2;clear HZ;go_wp2_with fail;exact bodyPost_ret (v:=.tuple #[.agg #[.int .u8 (0),.int .i64 (0),.string (⟨#[]⟩)],.bool false]) (by simp[results,Tryz.results8,go_sem,r0,r1,r2,ah];done) rfl ⟨by rw[HS.out];rfl,((hB.setCell hz _).setCell hz _).setCell hz _⟩
 ·obtain⟨t,rfl,vZ⟩:=tX hg;have HS:=hid (show fF [t] aA=t.value aA by unfold fF;rw[if_pos hg];rfl);obtain⟨rfl,y,h2,h3⟩:=HL.out.one;have vw:=Cr.out;unfold Tr.iO at vw;have hcon:=Tr.Rh aA t y w1 vw.1 vZ h3 w1 (Below.refl _ _);unfold fy at hcon;obtain⟨⟨zk,zn,zs⟩,Vi⟩:∃z,z=lp (t.value aA):=⟨_,rfl⟩;obtain⟨zb,hzb⟩:∃z,z=(t.value aA).isSome:=⟨_,rfl⟩;rw[← Vi,← hzb] at hcon;have HV:=hid Vi;have Xf:=hid hzb;obtain⟨q,off,rfl,hq,hx⟩:=h2.one;have qo:=hid hcon;clear hcon h2 h3 vZ vw Cr HL Vi hzb;unfold cw at hx;go_wp2_with fail;refine qo.out.mono ?_;rintro e w2 ⟨rfl,b1⟩;replace hB:=ae.then hB b1
  replace HZ:=HZ.later b1;clear hg hx b1 qo;unfold gO;dsimp only;have r0:=HZ.cell 0;have r1:=HZ.cell 1;have r2:=HZ.cell 2;have dn:=ag.frozen HZ;have lz:=HZ.lt;simp only[List.getElem?_toArray,List.getElem?_cons_zero,List.getElem?_cons_succ] at r0 r1 r2;clear HZ;go_wp2_with fail;exact bodyPost_ret (v:=.tuple #[.agg #[.int .u8 (zk),.int .i64 (zn),.string (zs)],.bool zb]) (by simp[results,Tryz.results8,go_sem,r0,r1,r2,ah];done) rfl ⟨by rw[HS.out,Xf.out,← HV.out];rfl,((hB.setCell hz _).setCell hz _).setCell hz _⟩
theorem Ab {H:Type} {enc:TypeId×Value→H} {C:Checked} {os:Os} {f:FuncId} {fn:Func} {s:ChangeSpec} {conds:List PathCond} {apart fresh handsOn again:Bool} {X:World→Array Value→Prop}
  (hX:∀(w w':World) (args:Array Value),w.heap=w'.heap→X w args→X w' args)
  (own:ownKnob C.prog.godebug=none) (started:os.Started) (Vn:C.prog.inits.idxOf? f=none) (hfn:C.prog.funcs[f]?=some fn)
  (witness:∃(w:World) (tape:Tape) (i:Input),w.os=os∧(w.forCall tape i).Shaped C.prog∧i.vars=[]∧Input.okWide C.prog (w.forCall tape i) .any w.heap.size f i∧
    ((s.pre enc C.prog fn conds apart (w.forCall tape i).memory i.args∧X (w.forCall tape i).memory i.args)∧sizedMet enc C.prog fn (OpenSpec.ofChange s) apart (w.forCall tape i).memory i.args)∧({}:Assume).holds C.prog (lone (Frame.enter C.prog f i.args .normal) [] (w.forCall tape i)))
  (contract:∀(W:World) (base:Nat) (args:Array Value) (ds gs:List (DataW H)) (before:List MemPlace),
    (∀(j:Nat) t v,fn.params[j]?=some t→args[j]?=some v→Value.okWide C.prog W .any base t v)→
    DataW.Whole enc C.prog fn.params.toList s.vars apart W args.toList ds gs before→
    (DataW.weightsEach C.prog (fn.params.toList++s.plain.varTypes C.prog) (ds++gs)).all (· ≤reachBytes)=true→X W args→W.ShapedOpen C.prog→
    Calls C.prog f args W fun e W'=>∃v,e=.returned v∧s.post enc C.prog fn apart fresh handsOn again W args v W'):
  ReturnsInHanded {} C os f .any (fun w args=>(s.pre enc C.prog fn conds apart w args∧X w args)∧sizedMet enc C.prog fn (OpenSpec.ofChange s) apart w args) (s.post enc C.prog fn apart fresh handsOn again):=by
 refine returnsInHanded_of_calls own started Vn witness ?_;intro w tape i _ Ri _ aZ FH N8;obtain⟨_,_,_,fn',N9,_,_,_,_,hval⟩:=aZ;have e:fn'=fn:=Option.some.inj (N9.symm.trans hfn);subst e;obtain⟨⟨⟨ds,gs,before,hw,hc⟩,hx⟩,hz⟩:=FH;have hw':=DataW.Whole.of_heap (w':=w.forCall tape i) (by rfl) hw;refine(contract (w.forCall tape i) w.heap.size i.args ds gs before hval hw' (hz.weights hw) (hX _ _ _ (by rfl) hx) Ri).mono fun e W' ⟨v,he,hp⟩=>?_
 subst he;exact ChangeSpec.post_blind hp
section
variable {H:Type} {enc:TypeId×Value→H} {W:World} {base:Nat} {v:Value} {d:DataW H} {p:List MemPlace}
theorem xz (ok:Value.okWide Tryz.prog W .any base 22 v)(k:DataW.Trod enc Tryz.prog W 0 (fun _=>true) true 22 v d p)(hw:eu 22 d):
  ∃ts A n c,v=.slice A n c∧jo W ts A n∧Tr.iO ts∧ts.length≤1599289640356:=by
 obtain⟨a,len,cap,rfl⟩:=okWide_slice Tryz.underlying22 ok;obtain⟨fuel,hf⟩:=k;obtain⟨A,l,c,q,hP,hby,dT⟩:=nG (fun p:Ex×Tr=>wR p.1) (fun p=>p.2.at_ W (Old W) p.1∧p.2.ok) 7 Tryz.underlying22 qZ (by omega) (fun _=>rfl) (fun m hm cs x h1 h2=>JW m cs x h1 h2) hf hw;rw[wQ] at hby;have Yx:l.length≤1599289640356:=by unfold reachBytes at hby;omega
 simp[Value.cells] at q;obtain⟨rfl,rfl,rfl⟩:=q;refine⟨l.map (·.2),_,_,_,rfl,⟨by simp,l.map (·.1),?_,oQ l fun p hp=>(hP p hp).1⟩,oT l fun p hp=>(hP p hp).2,by simpa using Yx⟩;rcases dT with dT |⟨b,off,rfl,hb,dT⟩
 ·exact .inl (by simp[dT])
 ·refine .inr ⟨b,off,rfl,hb,fun i y hy=>?_⟩;obtain⟨p,hp,rfl⟩:∃p,l[i]?=some p∧p.1=y:=by simpa [List.getElem?_map] using hy
  have k:=fun j u hu=>dT i p j u hp hu
  exact⟨k 0 _ rfl,k 1 _ rfl,k 2 _ rfl,k 3 _ rfl,k 4 _ rfl,k 5 _ rfl,k 6 _ rfl⟩
end
def sQ:List (String×DataW Unit):=Rows.boundTellsRow.laid
noncomputable def Dw (os:Os):World:=World.laidAll Tryz.prog os sQ
theorem IB (os:Os):(Dw os).os=os:=World.laidAll_os _ _ _
theorem Dx (os:Os)(args:Array Value):laidMetH Tryz.prog sQ ((Dw os).forCall (fun _ _=>0) ⟨#[],args,[]⟩).memory:=by rw[MakeChecks.laidMetH_plain _ _ _ (by kernel_rfl)];exact laidMet_laidAll _ (by kernel_rfl) (by kernel_rfl)
theorem uR (os:Os)(args:Array Value):((Dw os).forCall (fun _ _=>0) ⟨#[],args,[]⟩).Shaped Tryz.prog:=World.shaped_of_ZipB (by kernel_rfl) (by kernel_rfl)
theorem Gf:Tryz.prog.cellsOf 30=2:=by kernel_rfl
theorem Nw {W:World}(h:laidMetH Tryz.prog sQ W):fQ W:=by
 rw[MakeChecks.laidMetH_plain _ _ _ (by kernel_rfl)] at h;obtain⟨ps,⟨g',t',cs,fuel,p,q,Fs,Ux,YV,hd,_,_⟩,_⟩:=h;obtain rfl:=Option.some.inj ((show Tryz.prog.globalNamed "tideline/bound.whole" =some 0 by kernel_rfl).symm.trans Fs);obtain rfl:=Option.some.inj ((show(Tryz.prog.globals[0]?).map (·.type)=some 30 by kernel_rfl).symm.trans Ux);obtain⟨xs,n,hn,hx,hl,hlen,hf⟩:=DataW.trod_struct Tryz.underlying30 hd;rw[Gf] at hl;have hx1:=congrArg Prod.fst hx;obtain⟨cs⟩:=cs
 match cs,hl with
 | [c0,c1],_=>
   have get:∀i,i < 2→∃y,xs[i]?=some y:=fun i hi=>⟨xs[i]'(by simp at hlen;omega),List.getElem?_eq_getElem _⟩
   obtain⟨y0,e0⟩:=get 0 (by omega);obtain⟨y1,e1⟩:=get 1 (by omega);have t0:DataW.trod _ Tryz.prog W 0 _ _ n 2 (([c0,c1].drop 0).take (Tryz.prog.cellsOf 2))=some y0:=(hf 0 _ rfl).trans e0;have t1:DataW.trod _ Tryz.prog W 0 _ _ n 2 (([c0,c1].drop 1).take (Tryz.prog.cellsOf 2))=some y1:=(hf 1 _ rfl).trans e1;rw[tP] at t0 t1;simp only[List.drop_succ_cons,List.drop_zero,List.take_succ_cons,List.take_zero] at t0 t1;obtain⟨n0,q0,z0,_⟩:=DataW.trod_int Tryz.underlying2 t0;obtain⟨n1,q1,z1,_⟩:=DataW.trod_int Tryz.underlying2 t1;have hm:xs.map (·.1)=[(.lit (.int .i64 (-4611687117939015680)):DataW Unit),.lit (.int .i64 4611687117939015679)]:=(DataW.agg.inj hx1).symm;have a0:=congrArg (·[0]?) hm;have a1:=congrArg (·[1]?) hm;simp[e0,e1,z0,z1] at a0 a1;subst a0 a1;simp at q0 q1;subst q0 q1;have k0:=World.var?_cell (show Tryz.prog.globalNamed "tideline/bound.whole" =some 0 by kernel_rfl) YV 0;have k1:=World.var?_cell (show Tryz.prog.globalNamed "tideline/bound.whole" =some 0 by kernel_rfl) YV 1;exact⟨(jH k0).1,k0,k1⟩
end Go.Proofs.YtfmbcoeallmnnaaGreatDoor
