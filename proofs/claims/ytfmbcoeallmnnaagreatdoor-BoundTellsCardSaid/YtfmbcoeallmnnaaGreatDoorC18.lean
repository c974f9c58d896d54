/- Parts of the proof. -/
import Derived.Test.YtfmbcoeallmnnaaGreatDoorC17
namespace Go.Proofs.YtfmbcoeallmnnaaGreatDoor
open Go.Lib (hid)
open Go.ChangeShapes Go.WideShapes Go.ChangeAt Go.RowKit
set_option linter.unusedVariables false
set_option linter.unusedSimpArgs false
def zr:Nat→Value
 | 1=> .int .u8 0
 | 2=> .int .i64 0
 | 3=> .string ⟨#[]⟩
 | 4=> .string ⟨#[]⟩
 | 5=> .int .i64 0
 | _=> .slice none 0 0
def dS (i q:Nat):Value:=if q % 7=0 then .int .u8 (if q / 7 < i then 1 else 0)else zr (q % 7)
def Gs (cs:Array Value)(n i:Nat):Prop:=cs.size=n*7∧∀q,q < n*7→cs[q]?=some (dS i q)
theorem Gt (n:Nat):Gs (madeCells #[.int .u8 0,.int .u8 0,.int .i64 0,.string ⟨#[]⟩,.string ⟨#[]⟩,.int .i64 0,.slice none 0 0] (n*7)) n 0:=by
 refine⟨size_madeCells _ _,fun q hq=>?_⟩;have h7:q % 7 < 7:=Nat.mod_lt _ (by omega);simp only[madeCells,Array.getElem?_map,Array.getElem?_range,hq,↓reduceIte,Option.map_some,dS];congr 1;have hc:q % 7=0∨q % 7=1∨q % 7=2∨q % 7=3∨q % 7=4∨q % 7=5∨q % 7=6:=by omega
 rcases hc with h | h | h | h | h | h | h;all_goals simp[h,zr]
theorem Gu {cs:Array Value} {n i:Nat}(hi:i < n)(h:Gs cs n i):
  Gs (((((((cs.setIfInBounds (i*7) (.int .u8 1)).setIfInBounds (i*7+1) (.int .u8 0)).setIfInBounds (i*7+2) (.int .i64 0)).setIfInBounds (i*7+3) (.string ⟨#[]⟩)).setIfInBounds (i*7+4) (.string ⟨#[]⟩)).setIfInBounds (i*7+5) (.int .i64 0)).setIfInBounds (i*7+6) (.slice none 0 0)) n (i+1):=by
 obtain⟨hs,hc⟩:=h;refine⟨by simp[hs],fun q hq=>?_⟩;simp only[Array.getElem?_setIfInBounds,Array.size_setIfInBounds,hs];have uf:i*7+6 < n*7:=by omega
 by_cases e6:i*7+6=q
 ·subst e6;rw[if_pos rfl,if_pos uf];simp[dS,zr,show(i*7+6)% 7=6 by omega]
 rw[if_neg e6];by_cases e5:i*7+5=q
 ·subst e5;rw[if_pos rfl,if_pos (by omega)];simp[dS,zr,show(i*7+5)% 7=5 by omega]
 rw[if_neg e5];by_cases e4:i*7+4=q
 ·subst e4;rw[if_pos rfl,if_pos (by omega)];simp[dS,zr,show(i*7+4)% 7=4 by omega]
 rw[if_neg e4];by_cases e3:i*7+3=q
 ·subst e3;rw[if_pos rfl,if_pos (by omega)];simp[dS,zr,show(i*7+3)% 7=3 by omega]
 rw[if_neg e3];by_cases e2:i*7+2=q
 ·subst e2;rw[if_pos rfl,if_pos (by omega)];simp[dS,zr,show(i*7+2)% 7=2 by omega]
 rw[if_neg e2];by_cases e1:i*7+1=q
 ·subst e1;rw[if_pos rfl,if_pos (by omega)];simp[dS,zr,show(i*7+1)% 7=1 by omega]
 rw[if_neg e1];by_cases e0:i*7=q
 ·subst e0;rw[if_pos rfl,if_pos (by omega)];simp[dS,show(i*7)% 7=0 by omega,show(i*7)/ 7=i by omega]
 rw[if_neg e0,hc q hq];unfold dS;by_cases h0:q % 7=0
 ·rw[if_pos h0,if_pos h0];by_cases h1:q / 7 < i
  ·rw[if_pos h1,if_pos (by omega)]
  ·rw[if_neg h1,if_neg (by omega)]
 ·rw[if_neg h0,if_neg h0]
def nz:Tr:=.mk 1 aL ByteArray.empty 0 []
def JC:Ex:=⟨1,aL,ByteArray.empty,0,none,0,0⟩
theorem AE (w:World)(S:Nat→Prop):∀n,Tr.bL w S (List.replicate n nz) (List.replicate n JC)
 | 0=>by unfold Tr.bL;rfl
 | n+1=>by rw[List.replicate_succ,List.replicate_succ];unfold Tr.bL;refine⟨JC,_,rfl,?_,AE w S n⟩;unfold nz Tr.at_;exact⟨rfl,rfl,rfl,rfl,rfl,[],.inl rfl,by unfold Tr.bL;rfl⟩
theorem AG:∀n,Tr.iW (List.replicate n nz)
 | 0=>by unfold Tr.iW;trivial
 | n+1=>by rw[List.replicate_succ];unfold Tr.iW;refine⟨?_,AG n⟩;unfold nz Tr.ok;exact⟨⟨by decide,by decide⟩,by simp,⟨by decide,by decide⟩,⟨by decide,by decide⟩,⟨by decide,by decide⟩,by unfold Tr.iW;trivial⟩
theorem xD (cols:List uk):∀n,ic (Tr.types cols (List.replicate n nz))=0
 | 0=>rfl
 | n+1=>by
   rw[List.replicate_succ];unfold Tr.types ic;have e:(nz.type cols).2=0:=by
    unfold nz Tr.type Tr.types mf;have h1:ic []=0:=rfl;have h2:bJ ⟨1,aL,ByteArray.empty,0,none,0,0⟩=0:=by kernel_rfl
    simp[h1,h2]
   rw[if_neg (by rw[e];simp)];exact xD cols n
theorem EE (op:Int)(v:Val)(name:ByteArray)(width:Int)(n:Nat):(bJ ⟨op,v,name,width,none,n,0⟩ != 21)=tq op v width n:=by
 unfold tq kG bJ;dsimp only;by_cases h1:op=1
 ·subst h1;have e1:gL 1=false:=by decide
  have e2:fD 1= -1:=by decide
  have e3:cE 1=0:=by decide
  rw[e1,e2,e3];by_cases hn:n=0
  ·subst hn;by_cases hg:good v=true <;> simp[hg]
  ·have:¬(n:Int)= -1:=by omega
   simp[hn,this]
 by_cases h2:op=2
 ·subst h2;have e1:gL 2=false:=by decide
  have e2:fD 2= -1:=by decide
  have e3:cE 2=0:=by decide
  rw[e1,e2,e3];by_cases hn:n=0
  ·subst hn;simp
  ·have:¬(n:Int)= -1:=by omega
   simp[hn,this]
 by_cases h3:3≤op∧op≤20
 ·have e1:gL op=true:=by simpa [gL] using h3
  have e2:fD op= -1:=by unfold fD;rw[if_neg (by omega),if_neg (by omega),if_neg (by omega)]
  have e3:cE op=lg op:=by
   unfold cE lg;by_cases q:op=3∨op=4∨18≤op
   ·rw[if_neg (by omega),if_pos (by omega),if_pos q]
   ·rw[if_neg (by omega),if_neg (by omega),if_pos (by omega),if_neg q]
  rw[e1,e2,e3];have:¬(n:Int)= -1:=by omega
  by_cases hn:(n:Int)=lg op
  ·by_cases LZ:op=20
   ·by_cases hw:1≤width∧width≤1099511627776
    ·simp[h1,h2,hn,LZ,hw]
    ·rw[if_neg (fun h=>h.elim (fun h=>h1 h.1) (fun h=>h2 h.1)),if_neg (fun h=>h.2.2.elim (fun k=>k LZ) hw),if_neg this,decide_eq_false hw];have e5:(!(op==20)|| false)=false:=by rw[LZ];rfl
     rw[e5];simp
   ·simp[h1,h2,hn,LZ]
  ·simp[h1,h2,hn,this]
 ·have e1:gL op=false:=by simpa [gL] using h3
  have LZ:op≠20:=by omega
  rw[e1];by_cases h4:21≤op∧op≤28
  ·have e3:cE op=fD op:=by
    unfold cE fD;by_cases q:op=21
    ·subst q;decide
    ·by_cases q2:22≤op∧op≤26
     ·rw[if_neg (by omega),if_pos (by omega),if_neg q,if_pos q2]
     ·rw[if_neg (by omega),if_neg (by omega),if_pos (by omega),if_neg q,if_neg q2,if_pos (by omega)]
   rw[e3];by_cases hn:(n:Int)=fD op
   ·simp[h1,h2,hn,LZ]
   ·simp[h1,h2,hn]
  ·have e2:fD op= -1:=by unfold fD;rw[if_neg (by omega),if_neg (by omega),if_neg (by omega)]
   have e3:cE op= -1:=by unfold cE;rw[if_neg (by omega),if_neg (by omega),if_neg (by omega)]
   rw[e2,e3];have:¬(n:Int)= -1:=by omega
   simp[h1,h2,this]
theorem AH (op:Int)(v:Val)(name:ByteArray)(width:Int)(n:Nat):(((Tr.mk op v name width (List.replicate n nz)).type [⟨name,0⟩]).2 != 21)=tq op v width n:=by
 rw[← EE op v name width n];unfold Tr.type mf;rw[if_neg (by rw[xD];simp),List.length_replicate];by_cases h:bJ ⟨op,v,name,width,none,n,0⟩=0
 ·rw[if_neg (by simp[h])];dsimp only;have e:∀r:Int×Int,r.2=0∨r.2=40→(r.2 != 21)=true:=by intro r hr;rcases hr with hr | hr <;> rw[hr] <;> rfl
  have J2:(bJ ⟨op,v,name,width,none,n,0⟩ != 21)=true:=by rw[h];rfl
  rw[J2];apply e;split
  ·exact .inl rfl
  ·split
   ·unfold jX;have:eG name [⟨name,0⟩]=0:=by unfold eG;simp
    rw[if_pos (by rw[this];simp)];exact .inl rfl
   ·split
    ·exact .inr rfl
    ·exact .inl rfl
 ·rw[if_pos h]
theorem QB:(Tryz.prog.info? 34).map (fun i=>(i.zero,i.size,i.bytes))=some (some (.agg #[.int .u8 0,.int .u8 0,.int .i64 0,.string ⟨#[]⟩,.string ⟨#[]⟩,.int .i64 0,.slice none 0 0]),7,88):=by kernel_rfl
theorem CX (n:Nat)(hn:n≤1599289640356)(w:World):(Instr.makeSlice 22 (.int .i64 (n:Int)) (.int .i64 (n:Int))).run Tryz.prog w=.ok (.slice (some ⟨w.heap.size,0,none⟩) n n) (w.alloc (.cells (madeCells #[.int .u8 0,.int .u8 0,.int .i64 0,.string ⟨#[]⟩,.string ⟨#[]⟩,.int .i64 0,.slice none 0 0] (n*7)) 34)):=by obtain⟨i,hi,hzz⟩:=Option.map_eq_some_iff.1 QB;simp only[Prod.mk.injEq] at hzz;obtain⟨hz,hs,hb⟩:=hzz;have hr:=run_make (P:=Tryz.prog) w 22 34 i _ Tryz.underlying22 hi hz .i64 .i64 n n (by omega) (Int.le_refl _) (by rw[hb];omega) (by omega);simp only[Int.toNat_natCast,hs] at hr;exact hr
theorem vg {w:World} {G:Nat} {cs:Array Value} {n i:Nat}(hG:ah w G 34 cs)(h:Gs cs n i) {j:Nat}(hj:j < n):∀r,r < 7→w.cell? ⟨G,j*7+r,none⟩=some (dS i (j*7+r)):=by intro r hr;rw[hG.cell,h.2 _ (by omega)]
theorem Gv {w:World} {G:Nat} {cs:Array Value} {n:Nat}(hG:ah w G 34 cs)(h:Gs cs n n):LV w (Old w) (some ⟨G,0,none⟩) (List.replicate n JC):=by
 refine .inr ⟨G,0,rfl,hG.lt,fun j x hx=>?_⟩;have hj:j < n:=by have:=(List.getElem?_eq_some_iff.1 hx).1;simpa using this
 rw[List.getElem?_replicate,if_pos hj] at hx;injection hx with hx;subst hx;have k:=vg hG h hj;have k0:=k 0 (by omega);have k1:=k 1 (by omega);have k2:=k 2 (by omega);have k3:=k 3 (by omega);have k4:=k 4 (by omega);have k5:=k 5 (by omega);have k6:=k 6 (by omega);have e0:dS n (j*7+0)=.int .u8 1:=by unfold dS;rw[if_pos (by omega),if_pos (by omega)]
 have e1:dS n (j*7+1)=.int .u8 0:=by unfold dS;rw[if_neg (by omega),show(j*7+1)% 7=1 by omega];rfl
 have e2:dS n (j*7+2)=.int .i64 0:=by unfold dS;rw[if_neg (by omega),show(j*7+2)% 7=2 by omega];rfl
 have e3:dS n (j*7+3)=.string ⟨#[]⟩:=by unfold dS;rw[if_neg (by omega),show(j*7+3)% 7=3 by omega];rfl
 have e4:dS n (j*7+4)=.string ⟨#[]⟩:=by unfold dS;rw[if_neg (by omega),show(j*7+4)% 7=4 by omega];rfl
 have e5:dS n (j*7+5)=.int .i64 0:=by unfold dS;rw[if_neg (by omega),show(j*7+5)% 7=5 by omega];rfl
 have e6:dS n (j*7+6)=.slice none 0 0:=by unfold dS;rw[if_neg (by omega),show(j*7+6)% 7=6 by omega];rfl
 rw[e0] at k0;rw[e1] at k1;rw[e2] at k2;rw[e3] at k3;rw[e4] at k4;rw[e5] at k5;rw[e6] at k6;rw[Nat.zero_add];unfold bp;exact⟨k0,k1,k2,k3,k4,k5,k6⟩
theorem wU {p B:Nat} {a b:World}(h:a.grownBy b (some p))(hB:B≤a.heap.size)(hp:B≤p):Below B a b:=
 ⟨h.os,h.tape,h.output,h.size,fun k hk=>h.block k (by omega) (by intro e;injection e with e;omega)⟩
theorem qY {p:Nat} {w w':World}(h:Below w.heap.size w w'):w.grownBy w' (some p):=⟨h.os,h.tape,h.output,h.size,fun k hk _=>h.block k hk⟩
theorem cQ {g:Nat} {w w':World}(h:w.grownBy w' (some g))(i:Nat)(v:Value):w.grownBy (w'.setCell ⟨g,i,none⟩ v) (some g):=
 ⟨h.os,h.tape,h.output,by simpa [World.setCell] using h.size,fun k hk hne=>(Below.heap_setCell w' ⟨g,i,none⟩ v k (fun e=>hne (by rw[e]))).trans (h.block k hk hne)⟩
set_option maxHeartbeats 2000000
set_option maxRecDepth 100000
theorem yN (op:Int)(v:Val)(name:ByteArray)(width:Int)(A:Option Addr)(c:Nat)(args:List (Ex×Bool))(w:World)(hop:0≤op∧op≤255)(hv:v.Ok)(Ow:0≤v.k∧v.k≤255)(hwd: -9223372036854775808≤width∧width≤9223372036854775807)(hl:args.length≤1599289640356)(hA:RE w w.heap.size A (args.map (·.1)))(hE:∀a∈args,ie 28 w a.1 a.2):Calls Tryz.prog 28 #[.agg #[.int .u8 op,.int .u8 v.k,.int .i64 v.n,.string v.s,.string name,.int .i64 width,.slice A args.length c]] w fun e w'=>e=.returned (.bool (args.all (·.2)&& tq op v width args.length))∧Below w.heap.size w w':=by
 have vh:=hid (show(Tr.mk op v name width (List.replicate args.length nz)).ok by
  unfold Tr.ok
  exact⟨hv,by simpa using hl,hop,hwd,Ow,AG _⟩)
 have J3:=hid (AH op v name width args.length);have HX:=ah.new w 34 #[.int .u8 op,.int .u8 v.k,.int .i64 v.n,.string v.s,.string name,.int .i64 width,.slice A args.length c];have hb0:=aa w (.cells #[.int .u8 op,.int .u8 v.k,.int .i64 v.n,.string v.s,.string name,.int .i64 width,.slice A args.length c] 34);have Zo:∀a∈args.map (fun a=>(a.1,!a.2)),ie 52 w a.1 a.2:=by intro a ha;obtain⟨z,hz,rfl⟩:=List.mem_map.1 ha;exact CT z.1 z.2 w (hE z hz)
 have MP:RE w w.heap.size A ((args.map (fun a=>(a.1,!a.2))).map (·.1)):=by rw[List.map_map];exact hA
 have TW:fE (args.map (fun a=>(a.1,!a.2)))= !args.all (·.2):=by
  unfold fE;rw[List.any_map];induction args with
  | nil=>rfl
  | cons a l _=>simp[List.not_all_eq_any_not,Function.comp_def]
 have kD:(args.map (fun a=>(a.1,!a.2))).length=args.length:=by simp
 have JD:=hid Zo;have Gw:=hid MP;have TX:=hid TW;clear hE hA Zo MP TW hv Ow hwd;go_enter Tryz.func28,Tryz.ntmps28;go_upto_region 1 with fail
 generalize w.alloc _=W at*;have HB:=hid hb0;clear hb0;have x6:=HX.cell 6;simp only[List.getElem?_toArray,List.getElem?_cons_zero,List.getElem?_cons_succ] at x6;have hcon:=CV A c (args.map (fun a=>(a.1,!a.2))) W (by rw[kD];exact hl) ((Gw.out.below HB.out).more HB.out.size) (fun a ha W' Xn=>JD.out a ha W' (ae.then HB.out Xn));rw[kD,TX.out] at hcon;have tS:=hid hcon;clear hcon kD JD Gw TX;go_wp2_with fail;refine tS.out.mono ?_;rintro e w1 ⟨rfl,b1⟩;clear x6 tS;cases hall:args.all (·.2)
 ·have HR:=hid hall;clear hall;have h1:(!false)=true:=rfl;go_wp2_with fail;go_ret;exact⟨by rw[HR.out];rfl,ae.then HB.out b1⟩
 have HR:=hid hall;clear hall;generalize hn:args.length=n at*;have HN:=hid hn;clear hn;replace HX:=HX.later b1;replace HB:=hid (ae.then HB.out b1);clear b1;have x0:=HX.cell 0;have x1:=HX.cell 1;have x2:=HX.cell 2;have x3:=HX.cell 3;have x4:=HX.cell 4;have x5:=HX.cell 5;have x6:=HX.cell 6;simp only[List.getElem?_toArray,List.getElem?_cons_zero,List.getElem?_cons_succ] at x0 x1 x2 x3 x4 x5 x6;go_upto_region 4 with fail
 have HO:=ah.new w1 34 #[.int .u8 op,.int .u8 v.k,.int .i64 v.n,.string v.s,.string name,.int .i64 width,.slice A n c];have bO:=aa w1 (.cells #[.int .u8 op,.int .u8 v.k,.int .i64 v.n,.string v.s,.string name,.int .i64 width,.slice A n c] 34);have eJ:w.heap.size≤w1.heap.size:=HB.out.size;have J4:w.heap.size≠w1.heap.size:=by have:=HX.lt;omega
 replace HX:=HX.later bO;replace HB:=hid (ae.then HB.out bO);clear bO x0 x1 x2 x3 x4 x5 x6;generalize w1.heap.size=go at*;generalize w1.alloc _=W2 at*;have x6:=HX.cell 6;simp only[List.getElem?_toArray,List.getElem?_cons_zero,List.getElem?_cons_succ] at x6;have J5:=CX n hl;have HG:=ah.new W2 34 (madeCells #[.int .u8 0,.int .u8 0,.int .i64 0,.string ⟨#[]⟩,.string ⟨#[]⟩,.int .i64 0,.slice none 0 0] (n*7));have HM:=hid (Gt n);have bG:=aa W2 (.cells (madeCells #[.int .u8 0,.int .u8 0,.int .i64 0,.string ⟨#[]⟩,.string ⟨#[]⟩,.int .i64 0,.slice none 0 0] (n*7)) 34);generalize madeCells _ (n*7)=mc at*;have Zp:go≠W2.heap.size:=by have:=HO.lt;omega
 have J6:w.heap.size≠W2.heap.size:=by have:=HX.lt;omega
 have J7:w.heap.size≤W2.heap.size:=by have:=HX.lt;omega
 replace HX:=(HX.later bG).far (p:=⟨go,6,none⟩) J4 (.slice (some ⟨W2.heap.size,0,none⟩) n n);replace HG:=HG.far (p:=⟨go,6,none⟩) (fun e=>Zp e.symm) (.slice (some ⟨W2.heap.size,0,none⟩) n n);have Zq:=(HO.later bG).cell 6;have J8:=(HO.later bG).frozen;simp only[List.getElem?_toArray,List.getElem?_cons_zero,List.getElem?_cons_succ] at Zq;have Ma:=(HO.later bG).cn 6 (.slice (some ⟨W2.heap.size,0,none⟩) n n);simp only[List.setIfInBounds_toArray,List.set_cons_succ,List.set_cons_zero] at Ma;replace HB:=hid ((ae.then HB.out bG).setCell (p:=⟨go,6,none⟩) eJ (.slice (some ⟨W2.heap.size,0,none⟩) n n));clear bG HO;go_upto_region 5 with fail
 clear Zq J8 x6 J5;generalize W2.heap.size=G at*;generalize World.setCell _ _ _=W3 at*;have o6:=Ma.cell 6;simp only[List.getElem?_toArray,List.getElem?_cons_zero,List.getElem?_cons_succ] at o6;go_wp2_with fail;clear o6;go_loopw [19] (fun iv wr=>∃(i:Nat) (cs:Array Value),i≤n∧iv=.int .i64 i∧Gs cs n i∧ah wr G 34 cs∧W3.grownBy wr (some G)) (fun iv _=>n - (intOf iv).toNat);case atStart=>exact⟨0,mc,Nat.zero_le _,rfl,HM.out,HG,qY (Below.refl _ _)⟩
 case round=>
  obtain⟨i,cs,hi,rfl,hm,hG,hgr⟩:=hrel;have hO:=Ma.grown hgr (fun e=>by injection e with e;exact Zp e);have o6:=hO.cell 6;simp only[List.getElem?_toArray,List.getElem?_cons_zero,List.getElem?_cons_succ] at o6;have J9:=hid hm;by_cases hlt:i < n
  ·have k:=vg hG hm hlt;have k0:=k 0 (by omega);have k1:=k 1 (by omega);have k2:=k 2 (by omega);have k3:=k 3 (by omega);have k4:=k 4 (by omega);have k5:=k 5 (by omega);have k6:=k 6 (by omega);rw[Nat.add_zero] at k0;generalize dS i _=m0 at k0;generalize dS i _=m1 at k1;generalize dS i _=m2 at k2;generalize dS i _=m3 at k3;generalize dS i _=m4 at k4;generalize dS i _=m5 at k5;generalize dS i _=m6 at k6;have fz:=hG.frozen;have K0:=hid hG;have TY:=hid hgr;clear k hm hG hgr hO;go_wp2_with fail;go_roundw;case rel=>refine⟨i+1,_,hlt,by go_num,Gu hlt J9.out,((((((K0.out.cn (i*7) _).cn (i*7+1) _).cn (i*7+2) _).cn (i*7+3) _).cn (i*7+4) _).cn (i*7+5) _).cn (i*7+6) _,?_⟩;exact cQ (cQ (cQ (cQ (cQ (cQ (cQ TY.out _ _) _ _) _ _) _ _) _ _) _ _) _ _
   case measure=>simp[intOf];omega
  ·obtain rfl:i=n:=by omega
   have hx:=HX.grown hgr (fun e=>by injection e with e;exact J6 e);have o0:=hO.cell 0;have o1:=hO.cell 1;have o2:=hO.cell 2;have o3:=hO.cell 3;have o4:=hO.cell 4;have o5:=hO.cell 5;have x4:=hx.cell 4;simp only[List.getElem?_toArray,List.getElem?_cons_zero,List.getElem?_cons_succ] at o0 o1 o2 o3 o4 o5 x4;have hat:(Tr.mk op v name width (List.replicate i nz)).at_ wr (Old wr) ⟨op,v,name,width,some ⟨G,0,none⟩,i,i⟩:=by unfold Tr.at_;exact⟨rfl,rfl,rfl,rfl,by simp,_,Gv hG hm,AE _ _ _⟩
   have bC:=aa wr (.cells #[.string name,.int .u8 0] 43);have HC:=ah.new wr 43 #[.string name,.int .u8 0];have hC:RC (wr.alloc (.cells #[.string name,.int .u8 0] 43)) (wr.alloc (.cells #[.string name,.int .u8 0] 43)).heap.size (some ⟨wr.heap.size,0,none⟩) [⟨name,0⟩]:=by
    refine .inr ⟨_,0,rfl,HC.lt,fun j x hx=>?_⟩;have hj:=(List.getElem?_eq_some_iff.1 hx).1;have:j=0:=by simpa using hj
    subst this;simp at hx;subst hx;exact⟨HC.cell 0,HC.cell 1⟩
   have Zr:=Tr.Ev (cols:=[⟨name,0⟩]) (CA:=some ⟨wr.heap.size,0,none⟩) (cc:=1) (by simp) _ _ _ vh.out (hat.later bC) hC _ (Below.refl _ _);have Zs:=hid Zr;have iZ:Below w.heap.size w wr:=HB.out.trans (wU hgr (by have:=HB.out.size;exact this) J7);have K3:=hid (ae.then iZ bC);clear Zr hat hC HC bC iZ hm hG hgr hO hx;go_wp2_with fail;refine Zs.out.mono ?_;rintro e w5 ⟨rfl,b5⟩;have HE:=hid J3.out;clear Zs;generalize ((Tr.mk op v name width (List.replicate i nz)).type [⟨name,0⟩]).1=t1 at*;generalize ((Tr.mk op v name width (List.replicate i nz)).type [⟨name,0⟩]).2=t2 at*;go_wp2_with fail;go_ret;exact⟨by rw[HR.out,HN.out,← HE.out];rfl,ae.then K3.out b5⟩
theorem JE {s:ByteArray}(h:pS s=true):s=ByteArray.empty:=by
 have h1:s.toList=[]:=by simpa [pS] using h
 rw[ByteArray.toList_eq] at h1;apply ByteArray.ext;apply Array.toList_inj.1;rw[h1];rfl
theorem QC {v:Val}(h:good v=true)(h0:v.k=0):v=aL:=by obtain⟨k,n,s⟩:=v;subst h0;simp only[good,ite_true,Bool.and_eq_true,beq_iff_eq] at h;obtain⟨h1,h2⟩:=h;subst h1;rw[JE h2];rfl
theorem CY {v:Val}(h:good v=true)(h0:v.k=1):v=kY false∨v=kY true:=by
 obtain⟨k,n,s⟩:=v;subst h0;simp only[good,(by decide:¬(1:Int)=0),ite_false,ite_true,Bool.and_eq_true,Bool.or_eq_true,beq_iff_eq] at h;obtain⟨h1,h2⟩:=h;rw[JE h1];rcases h2 with rfl | rfl
 ·exact .inl rfl
 ·exact .inr rfl
theorem JF {x:Ex}(h:bJ x=0)(h1:x.op=1):good x.v=true:=by
 unfold bJ at h;split at h
 ·rename_i h2;rcases h2 with h2 | h2
  ·exact h2.2.2
  ·exact absurd h2.1 (by omega)
 ·split at h
  ·rename_i h2;rw[h1] at h2;exact absurd h2.1 (by decide)
  ·split at h <;> exact absurd h (by decide)
theorem JG {x:Ex}(h:bJ x=0)(h1:10≤x.op)(h2:x.op≤17):x.n=2:=by
 unfold bJ at h;split at h
 ·rename_i h3;rcases h3 with h3 | h3
  ·have:=h3.1;omega
  ·have:=h3.1;omega
 ·split at h
  ·rename_i h3;have h4:=h3.2.1;unfold lg at h4;rw[if_neg (by omega)] at h4;omega
  ·split at h <;> exact absurd h (by decide)
theorem mP {op width:Int} {v:Val} {n:Nat}(h:tq op v width n=true):(10≤op→op≤17→n=2)∧(op=1→good v=true):=by
 have h2:=EE op v ByteArray.empty width n;rw[h] at h2;have h3:bJ ⟨op,v,ByteArray.empty,width,none,n,0⟩≠21:=by simpa using h2
 have hz:∀k:Int,(10≤op∧op≤17)∨op=1→bJ ⟨op,v,ByteArray.empty,width,none,n,0⟩=0:=by
  intro _ ho;have ha:fD op= -1:=by unfold fD;rw[if_neg (by omega),if_neg (by omega),if_neg (by omega)]
  unfold bJ at h3 ⊢;split
  ·rfl
  ·rename_i h4;rw[if_neg h4] at h3;split
   ·rfl
   ·rename_i h5;rw[if_neg h5] at h3;dsimp only at h3;rw[ha,if_neg (by omega)] at h3;exact absurd rfl h3
 exact⟨fun h1 h2=>JG (hz 0 (.inl ⟨h1,h2⟩)) h1 h2,fun h1=>JF (hz 0 (.inr h1)) h1⟩
theorem at_root {w:World} {S:Nat→Prop}:∀ {t:Tr} {y:Ex},t.at_ w S y→y.op=t.op∧y.v=t.v∧y.name=t.name
 | .mk op v name width args,y,h=>by unfold Tr.at_ at h;exact⟨h.1,h.2.1,h.2.2.1⟩
theorem uo:∀ {t:Tr},t.ok→t.v.Ok
 | .mk op v name width args,h=>by unfold Tr.ok at h;exact h.1
mutual
theorem Tr.tell {α:Type}(f:Tr→α)(P:Tr→Prop)(C:World→Ex→α→Prop)(hP:∀op v name width ts,P (.mk op v name width ts)→∀t∈ts,P t)
  (step:∀(op:Int) (v:Val) (name:ByteArray) (width:Int) (ts:List Tr) (A:Option Addr) (c:Nat) (args:List (Ex×α)) (w:World),(Tr.mk op v name width ts).ok→P (.mk op v name width ts)→args.length=ts.length→args.map (·.2)=ts.map f→RE w w.heap.size A (args.map (·.1))→Tr.bL w (Old w) ts (args.map (·.1))→(∀a∈args,∀W,Below w.heap.size w W→C W a.1 a.2)→C w ⟨op,v,name,width,A,args.length,c⟩ (f (.mk op v name width ts))):
  ∀(t:Tr) (y:Ex) (w:World),t.ok→P t→t.at_ w (Old w) y→∀W,Below w.heap.size w W→C W y (f t)
 | .mk op v name width ts,y,w,aS,hp,hat,W,hW=>by
   have jY:=hat.later hW;unfold Tr.at_ at jY;obtain⟨h1,h2,h3,h4,h5,ys,h6,h7⟩:=jY;have TZ:=aS;unfold Tr.ok at TZ;obtain⟨l,dG,hl2,wP⟩:=Tr.tells f P C hP step ts ys W TZ.2.2.2.2.2 (hP op v name width ts hp) h7;obtain⟨lO,yv,ft,dL,yA,yn,yc⟩:=y;dsimp only at h1 h2 h3 h4 h5 h6;subst h1 h2 h3 h4 h5;have hlen:l.length=ts.length:=by
    have:(l.map (·.1)).length=ys.length:=by rw[dG]
    rw[List.length_map,h7.length] at this;exact this
   have k:=step lO yv ft dL ts yA yc l W aS hp hlen hl2 (by rw[dG];exact h6.old) (by rw[dG];exact h7) wP;rw[hlen] at k;exact k
theorem Tr.tells {α:Type}(f:Tr→α)(P:Tr→Prop)(C:World→Ex→α→Prop)(hP:∀op v name width ts,P (.mk op v name width ts)→∀t∈ts,P t)
  (step:∀(op:Int) (v:Val) (name:ByteArray) (width:Int) (ts:List Tr) (A:Option Addr) (c:Nat) (args:List (Ex×α)) (w:World),(Tr.mk op v name width ts).ok→P (.mk op v name width ts)→args.length=ts.length→args.map (·.2)=ts.map f→RE w w.heap.size A (args.map (·.1))→Tr.bL w (Old w) ts (args.map (·.1))→(∀a∈args,∀W,Below w.heap.size w W→C W a.1 a.2)→C w ⟨op,v,name,width,A,args.length,c⟩ (f (.mk op v name width ts))):
  ∀(ts:List Tr) (ys:List Ex) (w:World),Tr.iW ts→(∀t∈ts,P t)→Tr.bL w (Old w) ts ys→∃l:List (Ex×α),l.map (·.1)=ys∧l.map (·.2)=ts.map f∧∀a∈l,∀W,Below w.heap.size w W→C W a.1 a.2
 | [],ys,w,_,_,hat=>by unfold Tr.bL at hat;subst hat;exact⟨[],rfl,rfl,by simp⟩
 | t::ts,ys,w,aS,hp,hat=>by
   unfold Tr.bL at hat;unfold Tr.iW at aS;obtain⟨y,ys',rfl,h2,h3⟩:=hat;obtain⟨l,dG,hl2,wP⟩:=Tr.tells f P C hP step ts ys' w aS.2 (fun x hx=>hp x (by simp[hx])) h3;refine⟨(y,f t)::l,by simp[dG],by simp[hl2],fun a ha W hW=>?_⟩;rcases List.mem_cons.1 ha with rfl | ha
   ·exact Tr.tell f P C hP step t y w aS.1 (hp t (by simp)) h2 W hW
   ·exact wP a ha W hW
end
def Ig (y:Ex):Value:=.agg #[.int .u8 y.op,.int .u8 y.v.k,.int .i64 y.v.n,.string y.v.s,.string y.name,.int .i64 y.width,.slice y.A y.n y.c]
theorem Tr.Gx (t:Tr)(y:Ex)(w:World)(aS:t.ok)(hat:t.at_ w (Old w) y):rS 27 w y t.depth:=by refine Tr.tell Tr.depth (fun _=>True) (fun W y r=>Calls Tryz.prog 27 #[Ig y] W fun e w'=>e=.returned (.int .i64 r)∧Below W.heap.size W w') (fun _ _ _ _ _ _ _ _=>trivial) ?_ t y w aS trivial hat;intro op v name width ts A c args w aS _ hlen hm hA _ hE;have k:=Ap op v name width A c args w (by unfold Tr.ok at aS;rw[hlen];exact aS.2.1) hA hE;unfold Tr.depth;rw[nR,← hm];exact k
theorem Tr.Gy (t:Tr)(y:Ex)(w:World)(aS:t.ok)(hat:t.at_ w (Old w) y):rS 31 w y t.depth:=by refine Tr.tell Tr.depth (fun _=>True) (fun W y r=>Calls Tryz.prog 31 #[Ig y] W fun e w'=>e=.returned (.int .i64 r)∧Below W.heap.size W w') (fun _ _ _ _ _ _ _ _=>trivial) ?_ t y w aS trivial hat;intro op v name width ts A c args w aS _ hlen hm hA _ hE;have k:=nS op v name width A c args w (by unfold Tr.ok at aS;rw[hlen];exact aS.2.1) hA hE;unfold Tr.depth;rw[nR,← hm];exact k
theorem mQ:∀ts:List Tr,Tr.uV ts=(ts.map Tr.forms).all id
 | []=>by simp[Tr.uV]
 | t::ts=>by simp[Tr.uV,mQ ts]
theorem EF {α:Type}(l:List (α×Bool)):l.all (·.2)=(l.map (·.2)).all id:=by rw[List.all_map];rfl
theorem Tr.Gz (t:Tr)(y:Ex)(w:World)(aS:t.ok)(hat:t.at_ w (Old w) y):ie 28 w y t.forms:=by refine Tr.tell Tr.forms (fun _=>True) (fun W y r=>Calls Tryz.prog 28 #[Ig y] W fun e w'=>e=.returned (.bool r)∧Below W.heap.size W w') (fun _ _ _ _ _ _ _ _=>trivial) ?_ t y w aS trivial hat;intro op v name width ts A c args w aS _ hlen hm hA _ hE;unfold Tr.ok at aS;have k:=yN op v name width A c args w aS.2.2.1 aS.1 aS.2.2.2.2.1 aS.2.2.2.1 (by rw[hlen];exact aS.2.1) hA hE;unfold Tr.forms;rw[mQ,← hm,← EF,← hlen];exact k
theorem Tr.GA (t:Tr)(y:Ex)(w:World)(aS:t.ok)(hat:t.at_ w (Old w) y):ie 32 w y t.forms:=by refine Tr.tell Tr.forms (fun _=>True) (fun W y r=>Calls Tryz.prog 32 #[Ig y] W fun e w'=>e=.returned (.bool r)∧Below W.heap.size W w') (fun _ _ _ _ _ _ _ _=>trivial) ?_ t y w aS trivial hat;intro op v name width ts A c args w aS _ hlen hm hA _ hE;unfold Tr.ok at aS;have k:=AD op v name width A c args w aS.2.2.1.1 aS.2.2.1.2 (by rw[hlen];exact aS.2.1) hA hE;unfold Tr.forms;rw[mQ,← hm,← EF,← hlen];exact k
theorem sf (aq:ByteArray):∀ts:List Tr,Tr.tj aq ts=ts.map (Tr.span aq)
 | []=>by simp[Tr.tj]
 | t::ts=>by simp[Tr.tj,sf aq ts]
theorem qh (aq:ByteArray):∀ts:List Tr,Tr.values aq ts=ts.map (Tr.value aq)
 | []=>by simp[Tr.values]
 | t::ts=>by simp[Tr.values,qh aq ts]
def Sub (t:Tr):Prop:=t.forms=true
theorem jA (op:Int)(v:Val)(name:ByteArray)(width:Int)(ts:List Tr)(h:Sub (.mk op v name width ts)):(∀t∈ts,Sub t)∧tq op v width ts.length=true:=by unfold Sub Tr.forms at h;rw[Bool.and_eq_true,mQ,List.all_eq_true] at h;exact⟨fun t ht=>h.1 _ (List.mem_map_of_mem ht),h.2⟩
theorem qZ {α:Type} {f:Tr→α} {ts:List Tr} {args:List (Ex×α)} {w:World}(h2:ts.length=2)(hlen:args.length=ts.length)(hm:args.map (·.2)=ts.map f)(hall:Tr.bL w (Old w) ts (args.map (·.1))):
  ∃t1 t2 a b,ts=[t1,t2]∧args=[(a,f t1),(b,f t2)]∧t1.at_ w (Old w) a∧t2.at_ w (Old w) b:=by
 match ts,h2 with
 | [t1,t2],_=>
   match args,hlen with
   | [(a,x),(b,y)],_=>simp only[List.map_cons,List.map_nil,List.cons.injEq,and_true] at hm;obtain⟨rfl,rfl⟩:=hm;unfold Tr.bL at hall;obtain⟨y1,ys,h1,h3,h4⟩:=hall;unfold Tr.bL at h4;obtain⟨y2,T6,h5,h6,h7⟩:=h4;simp only[List.map_cons,List.map_nil,List.cons.injEq] at h1;obtain⟨rfl,rfl⟩:=h1;simp only[List.cons.injEq] at h5;obtain⟨rfl,_⟩:=h5;exact⟨t1,t2,a,b,rfl,rfl,h3,h6⟩
theorem qi {op:Int} {aq:ByteArray} {w:World} {S:Nat→Prop} {t1 t2:Tr} {a b:Ex}(ha:t1.at_ w S a)(hb:t2.at_ w S b):bj op aq (bD a) (bD b)=bj op aq t1 t2:=by obtain⟨h1,h2,h3⟩:=at_root ha;obtain⟨k1,k2,k3⟩:=at_root hb;simp only[bj,eK,bD,Tr.op,Tr.v,Tr.name,h1,h2,h3,k1,k2,k3];rfl
theorem AJ {op:Int} {v:Val} {aq:ByteArray} {w:World} {S:Nat→Prop} {t1 t2:Tr} {a b:Ex} {sp:List Sp}(h1:10≤op)(h2:op≤15)(ha:t1.at_ w S a)(hb:t2.at_ w S b):uU aq op v [t1,t2] sp=xA op aq a b:=by
 have hn:lh op v=false:=by
  have:(op==1)=false:=by simp;omega
  simp[lh,aH,this]
 unfold uU xA;rw[if_neg (by omega),if_neg (by omega),if_neg (by rw[hn];decide),if_neg (by omega)];obtain⟨a1,a2,_⟩:=at_root ha;obtain⟨b1,b2,_⟩:=at_root hb;have e1:([t1,t2].any Jc)=(aH a.op a.v || aH b.op b.v):=by simp[Jc,a1,a2,b1,b2]
 rw[e1];split
 ·rfl
 ·unfold xt;rw[qi ha hb];rfl
theorem MQ {op:Int} {aq:ByteArray} {a b:Ex}(h1:10≤op)(h2:op≤15):eH op aq a b=xA op aq a b:=by
 have n1:aH a.op a.v=(a.op==1 && a.v.k==0):=rfl;have n2:aH b.op b.v=(b.op==1 && b.v.k==0):=rfl;unfold eH xA;rw[n1,n2];cases c1:(a.op==1 && a.v.k==0)
 ·rw[if_neg (by decide)];cases c2:(b.op==1 && b.v.k==0)
  ·rw[if_neg (by decide),if_neg (show¬(false || false)=true by decide)];have i1:eK aq (bD a)=(a.op==2 && a.name.toList==aq.toList):=rfl;have i2:eK aq (bD b)=(b.op==2 && b.name.toList==aq.toList):=rfl;rw[← i1,← i2];have hend:∀o:Int,10≤o→o≤15→yu o=(o != 11):=by
    intro o l1 l2;unfold yu;by_cases h:o=11
    ·subst h;rfl
    ·rw[show(o != 11)=true by simpa using h];exact decide_eq_true (by omega)
   have ht:10≤ez op∧ez op≤15∧((ez op != 11)=(op != 11)):=by
    unfold ez;split
    ·rename_i h;subst h;decide
    split
    ·rename_i h;subst h;decide
    split
    ·rename_i h;subst h;decide
    split
    ·rename_i h;subst h;decide
    ·exact⟨h1,h2,rfl⟩
   unfold xt;cases hb:eK aq (bD b)
   ·have hs:bj op aq (bD a) (bD b)=(op,b.v,eK aq (bD a)&& b.op==1):=by simp only[bj,hb];rfl
    rw[hs];dsimp only;rw[hend op h1 h2];cases ha:eK aq (bD a)
    ·simp
    ·cases hn:(op != 11)
     ·simp
     ·cases hl:(b.op==1)
      ·simp
      ·by_cases hk:b.v.k=2
       ·simp only[hk];rw[if_pos (by simp),if_pos (by simp)];exact Jd _ (by rw[hend op h1 h2,hn])
       ·simp[hk]
   ·have hs:bj op aq (bD a) (bD b)=(ez op,a.v,true && a.op==1):=by simp only[bj,hb,ite_true];rfl
    rw[hs];dsimp only;rw[hend _ ht.1 ht.2.1,ht.2.2];have hb1:(b.op==1)=false:=by rw[i2,Bool.and_eq_true,beq_iff_eq] at hb;simp[hb.1]
    rw[hb1];cases hn:(op != 11)
    ·simp
    ·cases hl:(a.op==1)
     ·simp
     ·by_cases hk:a.v.k=2
      ·simp only[hk];rw[if_neg (by simp),if_pos (by simp),if_pos (by simp)];exact Jd _ (by rw[hend _ ht.1 ht.2.1,ht.2.2,hn])
      ·simp[hk]
  ·simp
 ·simp
theorem EG {op k:Int}(h1:10≤op)(h2:op≤15)(h3:(op != 11)=true)(hk: -9223372036854775808≤k∧k≤9223372036854775807)(W:World):Calls Tryz.prog 40 #[.int .u8 op,.int .i64 k] W (cv (nP op k) W):=by
 have h3:op≠11:=by simpa using h3
 have h:op=10∨op=12∨op=13∨op=14∨op=15:=by omega
 rcases h with rfl | rfl | rfl | rfl | rfl
 ·exact TL k hk W
 ·exact TM k hk W
 ·exact TN k hk W
 ·exact TP k hk W
 ·exact TR k hk W
theorem qj {op:Int}(h1:10≤op)(h2:op≤15)(h3:(op != 11)=true):10≤ez op∧ez op≤15∧(ez op != 11)=true:=by
 unfold ez;split
 ·decide
 split
 ·decide
 split
 ·decide
 split
 ·decide
 ·exact⟨h1,h2,h3⟩
theorem QD {x y:Sp}(hx:x.fit)(hy:y.fit):dJ x y=Cw x y:=by
 have hz:∀s:Sp,s.fit→((s.a==0 && s.b==0)=true↔s.b≤s.a):=by intro s hs;rw[hs.empty];obtain⟨a,b⟩:=s;simp[aw]
 unfold dJ Cw;by_cases h1:x.b≤x.a
 ·rw[if_pos h1,if_pos ((hz x hx).2 h1)]
 ·rw[if_neg h1,if_neg (fun h=>h1 ((hz x hx).1 h))];by_cases h2:y.b≤y.a
  ·rw[if_pos h2,if_pos ((hz y hy).2 h2)]
  ·rw[if_neg h2,if_neg (fun h=>h2 ((hz y hy).1 h))]
theorem Tr.QE (aq:ByteArray)(t:Tr)(y:Ex)(w:World)(aS:t.ok)(hf:Sub t)(hat:t.at_ w (Old w) y):∀W,Below w.heap.size w W→gj W→Calls Tryz.prog 20 #[Ig y,.string aq] W (cv (t.span aq) W):=by
 refine Tr.tell (Tr.span aq) Sub (fun W y s=>gj W→Calls Tryz.prog 20 #[Ig y,.string aq] W (cv s W)) (fun op v name width ts h=>(jA op v name width ts h).1) ?_ t y w aS hf hat;intro op v name width ts A c args w aS hs hlen hm hA hall hE E;obtain⟨_,hfn⟩:=jA op v name width ts hs;obtain⟨hf2,OC⟩:=mP hfn;unfold Tr.span;rw[sf,← hm];unfold Tr.ok at aS;by_cases h1:10≤op∧op≤17
 ·obtain⟨t1,t2,a,b,rfl,rfl,ha,hb⟩:=qZ (hf2 h1.1 h1.2) hlen hm hall;have ca:jG 20 aq w a (t1.span aq):=fun W hW=>hE (a,_) (by simp) W hW (E.later hW)
  have cb:jG 20 aq w b (t2.span aq):=fun W hW=>hE (b,_) (by simp) W hW (E.later hW)
  have iW:=aS.2.2.2.2.2;unfold Tr.iW at iW;have Ua:=iW.1;have Ub:=iW.2;unfold Tr.iW at Ub;have va:=uo Ua;have vb:=uo Ub.1;rw[←(at_root ha).2.1] at va;rw[←(at_root hb).2.1] at vb;by_cases tA:op=16
  ·subst tA;exact Qp v name width A c aq w E a b _ _ hA ca cb
  by_cases tB:op=17
  ·subst tB;exact TC v name width A c aq w E a b _ _ hA ca cb
  ·rw[AJ h1.1 (by omega) ha hb];exact of_ord op v name width A c aq w E h1.1 (by omega) a b hA va vb
 ·have rI:(op==16)=false:=by simp;omega
  have rJ:(op==17)=false:=by simp;omega
  unfold uU;rw[if_neg (by omega),if_neg (by omega)];cases hN:aH op v
  ·cases ho:(op==1)
   ·rw[if_neg (by simp[lh,hN,ho]),if_pos (by omega)];exact TG op v name width A args.length c aq w E rI rJ hN ho (by omega)
   cases k1:(v.k==1)
   ·rw[if_neg (by simp[lh,hN,ho,jy,k1]),if_pos (by omega)];exact TH op v name width A args.length c aq w E rI rJ hN ho k1 (by omega)
   cases k2:(v.n==0)
   ·rw[if_neg (by simp[lh,hN,ho,jy,k1,k2]),if_pos (by omega)];exact TI op v name width A args.length c aq w E rI rJ hN ho k1 k2 (by omega)
   have he:(ByteArray.empty.toList:List UInt8)=[]:=by rw[ByteArray.toList_eq];rfl
   cases k3:(v.s.toList== [])
   ·rw[if_neg (by simp only[lh,hN,ho,jy,k1,k2,he,k3];decide),if_pos (by omega)];exact TJ op v name width A args.length c aq w E rI rJ hN ho k1 k2 k3 (by omega)
   ·rw[if_pos (by simp only[lh,hN,ho,jy,k1,k2,he,k3];decide)];exact TF op v name width A args.length c aq w E rI rJ hN ho k1 k2 k3
  ·rw[if_pos (by simp[lh,hN])];exact Qq op v name width A args.length c aq w E rI rJ hN
theorem Tr.QF (aq:ByteArray)(t:Tr)(y:Ex)(w:World)(aS:t.ok)(hf:Sub t)(hat:t.at_ w (Old w) y):∀W,Below w.heap.size w W→Calls Tryz.prog 22 #[Ig y,.string aq] W (cv (t.span aq) W):=by
 refine Tr.tell (Tr.span aq) Sub (fun W y s=>Calls Tryz.prog 22 #[Ig y,.string aq] W (cv s W)) (fun op v name width ts h=>(jA op v name width ts h).1) ?_ t y w aS hf hat;intro op v name width ts A c args w aS hs hlen hm hA hall hE;obtain⟨_,hfn⟩:=jA op v name width ts hs;obtain⟨hf2,OC⟩:=mP hfn;unfold Tr.span;rw[sf,← hm];unfold Tr.ok at aS;by_cases h1:10≤op∧op≤17
 ·obtain⟨t1,t2,a,b,rfl,rfl,ha,hb⟩:=qZ (hf2 h1.1 h1.2) hlen hm hall;have ca:jG 22 aq w a (t1.span aq):=fun W hW=>hE (a,_) (by simp) W hW
  have cb:jG 22 aq w b (t2.span aq):=fun W hW=>hE (b,_) (by simp) W hW
  have iW:=aS.2.2.2.2.2;unfold Tr.iW at iW;have Ua:=iW.1;have Ub:=iW.2;unfold Tr.iW at Ub;have va:=uo Ua;have vb:=uo Ub.1;rw[←(at_root ha).2.1] at va;rw[←(at_root hb).2.1] at vb;by_cases tA:op=16
  ·subst tA;exact MI v name width A c aq w a b _ _ hA ca cb
  by_cases tB:op=17
  ·subst tB;have k:=Qv v name width A c aq w a b _ _ hA ca cb;rw[QD (t1.uW aq) (t2.uW aq)] at k;exact k
  ·rw[AJ h1.1 (by omega) ha hb,← MQ h1.1 (by omega)];have rI:(op==16)=false:=by simp;omega
   have rJ:(op==17)=false:=by simp;omega
   have t1:(op==1)=false:=by simp;omega
   exact Jz op v name width A c aq w rI rJ t1 (decide_eq_false (by omega)) (decide_eq_false (by omega)) a b hA (fun hne W2=>EG h1.1 (by omega) hne vb W2)
    (fun hne W2=>EG (qj h1.1 (by omega) hne).1 (qj h1.1 (by omega) hne).2.1 (qj h1.1 (by omega) hne).2.2 va W2)
 ·have rI:(op==16)=false:=by simp;omega
  have rJ:(op==17)=false:=by simp;omega
  unfold uU;rw[if_neg (by omega),if_neg (by omega)];cases ho:(op==1)
  ·have hN:aH op v=false:=by simp[aH,ho]
   rw[if_neg (by simp[lh,hN,ho]),if_pos (by omega)];exact Qx op v name width A args.length c aq w rI rJ ho (by omega)
  have hg:=OC (by simpa using ho);cases k0:(v.k==0)
  ·have hN:aH op v=false:=by simp[aH,k0]
   cases k1:(v.k==1)
   ·rw[if_neg (by simp[lh,hN,ho,jy,k1]),if_pos (by omega)];exact Qy op v name width A args.length c aq w rI rJ ho k0 k1 (by omega)
   rcases CY hg (by simpa using k1)with rfl | rfl
   ·rw[if_pos (by simp only[lh,hN,ho];kernel_rfl)];exact Qw op _ name width A args.length c aq w rI rJ ho k0 k1 rfl
   ·rw[if_neg (by simp only[lh,hN,ho];decide),if_pos (by omega)];exact Qz op _ name width A args.length c aq w rI rJ ho k0 k1 rfl (by omega)
  ·rw[if_pos (by simp[lh,aH,ho,k0])];exact MJ op v name width A args.length c aq w rI rJ ho k0
end Go.Proofs.YtfmbcoeallmnnaaGreatDoor
