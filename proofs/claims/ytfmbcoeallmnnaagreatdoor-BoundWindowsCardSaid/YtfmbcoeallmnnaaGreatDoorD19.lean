/- Parts of the proof. -/
import Derived.Test.YtfmbcoeallmnnaaGreatDoorD17
namespace Go.Proofs.YtfmbcoeallmnnaaGreatDoor
open Go.Lib (hid)
open Go.ChangeShapes Go.WideShapes Go.ChangeAt Go.RowKit
set_option linter.unusedVariables false
set_option linter.unusedSimpArgs false
theorem aS {w:World} {g:Nat} {t:TypeId} {y:Ex}(h:ag w g t #[.int .u8 y.op,.int .u8 y.v.k,.int .i64 y.v.n,.string y.v.s,.string y.name,.int .i64 y.width,.slice y.A y.n y.c]):cw w g 0 y:=⟨h.cell 0,h.cell 1,h.cell 2,h.cell 3,h.cell 4,h.cell 5,h.cell 6⟩
def zr:Nat→Value
 | 1=> .int .u8 0
 | 2=> .int .i64 0
 | 3=> .string ⟨#[]⟩
 | 4=> .string ⟨#[]⟩
 | 5=> .int .i64 0
 | _=> .slice none 0 0
def dV (i q:Nat):Value:=if q % 7=0 then .int .u8 (if q / 7 < i then 1 else 0)else zr (q % 7)
def Ku (cs:Array Value)(n i:Nat):Prop:=cs.size=n*7∧∀q,q < n*7→cs[q]?=some (dV i q)
theorem Kv (n:Nat):Ku (madeCells #[.int .u8 0,.int .u8 0,.int .i64 0,.string ⟨#[]⟩,.string ⟨#[]⟩,.int .i64 0,.slice none 0 0] (n*7)) n 0:=by
 refine⟨size_madeCells _ _,fun q hq=>?_⟩;have h7:q % 7 < 7:=Nat.mod_lt _ (by omega);simp only[madeCells,Array.getElem?_map,Array.getElem?_range,hq,↓reduceIte,Option.map_some,dV];congr 1;have hc:q % 7=0∨q % 7=1∨q % 7=2∨q % 7=3∨q % 7=4∨q % 7=5∨q % 7=6:=by omega
 rcases hc with h | h | h | h | h | h | h;all_goals simp[h,zr]
theorem Kw {cs:Array Value} {n i:Nat}(hi:i < n)(h:Ku cs n i):
  Ku (((((((cs.setIfInBounds (i*7) (.int .u8 1)).setIfInBounds (i*7+1) (.int .u8 0)).setIfInBounds (i*7+2) (.int .i64 0)).setIfInBounds (i*7+3) (.string ⟨#[]⟩)).setIfInBounds (i*7+4) (.string ⟨#[]⟩)).setIfInBounds (i*7+5) (.int .i64 0)).setIfInBounds (i*7+6) (.slice none 0 0)) n (i+1):=by
 obtain⟨hs,hc⟩:=h;refine⟨by simp[hs],fun q hq=>?_⟩;simp only[Array.getElem?_setIfInBounds,Array.size_setIfInBounds,hs];have og:i*7+6 < n*7:=by omega
 by_cases e6:i*7+6=q
 ·subst e6;rw[if_pos rfl,if_pos og];simp[dV,zr,show(i*7+6)% 7=6 by omega]
 rw[if_neg e6];by_cases e5:i*7+5=q
 ·subst e5;rw[if_pos rfl,if_pos (by omega)];simp[dV,zr,show(i*7+5)% 7=5 by omega]
 rw[if_neg e5];by_cases e4:i*7+4=q
 ·subst e4;rw[if_pos rfl,if_pos (by omega)];simp[dV,zr,show(i*7+4)% 7=4 by omega]
 rw[if_neg e4];by_cases e3:i*7+3=q
 ·subst e3;rw[if_pos rfl,if_pos (by omega)];simp[dV,zr,show(i*7+3)% 7=3 by omega]
 rw[if_neg e3];by_cases e2:i*7+2=q
 ·subst e2;rw[if_pos rfl,if_pos (by omega)];simp[dV,zr,show(i*7+2)% 7=2 by omega]
 rw[if_neg e2];by_cases e1:i*7+1=q
 ·subst e1;rw[if_pos rfl,if_pos (by omega)];simp[dV,zr,show(i*7+1)% 7=1 by omega]
 rw[if_neg e1];by_cases e0:i*7=q
 ·subst e0;rw[if_pos rfl,if_pos (by omega)];simp[dV,show(i*7)% 7=0 by omega,show(i*7)/ 7=i by omega]
 rw[if_neg e0,hc q hq];unfold dV;by_cases h0:q % 7=0
 ·rw[if_pos h0,if_pos h0];by_cases h1:q / 7 < i
  ·rw[if_pos h1,if_pos (by omega)]
  ·rw[if_neg h1,if_neg (by omega)]
 ·rw[if_neg h0,if_neg h0]
def ou:Tr:=.mk 1 ah ByteArray.empty 0 []
def Nl:Ex:=⟨1,ah,ByteArray.empty,0,none,0,0⟩
theorem Dn (w:World)(S:Nat→Prop):∀n,Tr.bJ w S (List.replicate n ou) (List.replicate n Nl)
 | 0=>by unfold Tr.bJ;rfl
 | n+1=>by rw[List.replicate_succ,List.replicate_succ];unfold Tr.bJ;refine⟨Nl,_,rfl,?_,Dn w S n⟩;unfold ou Tr.at_;exact⟨rfl,rfl,rfl,rfl,rfl,[],.inl rfl,by unfold Tr.bJ;rfl⟩
theorem Dp:∀n,Tr.iO (List.replicate n ou)
 | 0=>by unfold Tr.iO;trivial
 | n+1=>by rw[List.replicate_succ];unfold Tr.iO;refine⟨?_,Dp n⟩;unfold ou Tr.ok;exact⟨⟨by decide,by decide⟩,by simp,⟨by decide,by decide⟩,⟨by decide,by decide⟩,⟨by decide,by decide⟩,by unfold Tr.iO;trivial⟩
theorem zV (cols:List ik):∀n,iG (Tr.types cols (List.replicate n ou))=0
 | 0=>rfl
 | n+1=>by
   rw[List.replicate_succ];unfold Tr.types iG;have e:(ou.type cols).2=0:=by
    unfold ou Tr.type Tr.types mK;have h1:iG []=0:=rfl;have h2:bc ⟨1,ah,ByteArray.empty,0,none,0,0⟩=0:=by kernel_rfl
    simp[h1,h2]
   rw[if_neg (by rw[e];simp)];exact zV cols n
theorem Iy (op:Int)(v:Val)(name:ByteArray)(width:Int)(n:Nat):(bc ⟨op,v,name,width,none,n,0⟩ != 21)=wV op v width n:=by
 unfold wV SR bc;dsimp only;by_cases h1:op=1
 ·subst h1;have e1:gp 1=false:=by decide
  have e2:gj 1= -1:=by decide
  have e3:sx 1=0:=by decide
  rw[e1,e2,e3];by_cases hn:n=0
  ·subst hn;by_cases hg:good v=true <;> simp[hg]
  ·have:¬(n:Int)= -1:=by omega
   simp[hn,this]
 by_cases h2:op=2
 ·subst h2;have e1:gp 2=false:=by decide
  have e2:gj 2= -1:=by decide
  have e3:sx 2=0:=by decide
  rw[e1,e2,e3];by_cases hn:n=0
  ·subst hn;simp
  ·have:¬(n:Int)= -1:=by omega
   simp[hn,this]
 by_cases h3:3≤op∧op≤20
 ·have e1:gp op=true:=by simpa [gp] using h3
  have e2:gj op= -1:=by unfold gj;rw[if_neg (by omega),if_neg (by omega),if_neg (by omega)]
  have e3:sx op=lh op:=by
   unfold sx lh;by_cases q:op=3∨op=4∨18≤op
   ·rw[if_neg (by omega),if_pos (by omega),if_pos q]
   ·rw[if_neg (by omega),if_neg (by omega),if_pos (by omega),if_neg q]
  rw[e1,e2,e3];have:¬(n:Int)= -1:=by omega
  by_cases hn:(n:Int)=lh op
  ·by_cases Qa:op=20
   ·by_cases hw:1≤width∧width≤1099511627776
    ·simp[h1,h2,hn,Qa,hw]
    ·rw[if_neg (fun h=>h.elim (fun h=>h1 h.1) (fun h=>h2 h.1)),if_neg (fun h=>h.2.2.elim (fun k=>k Qa) hw),if_neg this,decide_eq_false hw];have e5:(!(op==20)|| false)=false:=by rw[Qa];rfl
     rw[e5];simp
   ·simp[h1,h2,hn,Qa]
  ·simp[h1,h2,hn,this]
 ·have e1:gp op=false:=by simpa [gp] using h3
  have Qa:op≠20:=by omega
  rw[e1];by_cases h4:21≤op∧op≤28
  ·have e3:sx op=gj op:=by
    unfold sx gj;by_cases q:op=21
    ·subst q;decide
    ·by_cases q2:22≤op∧op≤26
     ·rw[if_neg (by omega),if_pos (by omega),if_neg q,if_pos q2]
     ·rw[if_neg (by omega),if_neg (by omega),if_pos (by omega),if_neg q,if_neg q2,if_pos (by omega)]
   rw[e3];by_cases hn:(n:Int)=gj op
   ·simp[h1,h2,hn,Qa]
   ·simp[h1,h2,hn]
  ·have e2:gj op= -1:=by unfold gj;rw[if_neg (by omega),if_neg (by omega),if_neg (by omega)]
   have e3:sx op= -1:=by unfold sx;rw[if_neg (by omega),if_neg (by omega),if_neg (by omega)]
   rw[e2,e3];have:¬(n:Int)= -1:=by omega
   simp[h1,h2,this]
theorem Dq (op:Int)(v:Val)(name:ByteArray)(width:Int)(n:Nat):(((Tr.mk op v name width (List.replicate n ou)).type [⟨name,0⟩]).2 != 21)=wV op v width n:=by
 rw[← Iy op v name width n];unfold Tr.type mK;rw[if_neg (by rw[zV];simp),List.length_replicate];by_cases h:bc ⟨op,v,name,width,none,n,0⟩=0
 ·rw[if_neg (by simp[h])];dsimp only;have e:∀r:Int×Int,r.2=0∨r.2=40→(r.2 != 21)=true:=by intro r hr;rcases hr with hr | hr <;> rw[hr] <;> rfl
  have e21:(bc ⟨op,v,name,width,none,n,0⟩ != 21)=true:=by rw[h];rfl
  rw[e21];apply e;split
  ·exact .inl rfl
  ·split
   ·unfold kH;have:bE name [⟨name,0⟩]=0:=by unfold bE;simp
    rw[if_pos (by rw[this];simp)];exact .inl rfl
   ·split
    ·exact .inr rfl
    ·exact .inl rfl
 ·rw[if_pos h]
theorem Vj:(Tryz.prog.info? 34).map (fun i=>(i.zero,i.size,i.bytes))=some (some (.agg #[.int .u8 0,.int .u8 0,.int .i64 0,.string ⟨#[]⟩,.string ⟨#[]⟩,.int .i64 0,.slice none 0 0]),7,88):=by kernel_rfl
theorem FZ (n:Nat)(hn:n≤1599289640356)(w:World):(Instr.makeSlice 22 (.int .i64 (n:Int)) (.int .i64 (n:Int))).run Tryz.prog w=.ok (.slice (some ⟨w.heap.size,0,none⟩) n n) (w.alloc (.cells (madeCells #[.int .u8 0,.int .u8 0,.int .i64 0,.string ⟨#[]⟩,.string ⟨#[]⟩,.int .i64 0,.slice none 0 0] (n*7)) 34)):=by obtain⟨i,hi,hzz⟩:=Option.map_eq_some_iff.1 Vj;simp only[Prod.mk.injEq] at hzz;obtain⟨hz,hs,hb⟩:=hzz;have hr:=run_make (P:=Tryz.prog) w 22 34 i _ Tryz.underlying22 hi hz .i64 .i64 n n (by omega) (Int.le_refl _) (by rw[hb];omega) (by omega);simp only[Int.toNat_natCast,hs] at hr;exact hr
theorem xh {w:World} {G:Nat} {cs:Array Value} {n i:Nat}(hG:ag w G 34 cs)(h:Ku cs n i) {j:Nat}(hj:j < n):∀r,r < 7→w.cell? ⟨G,j*7+r,none⟩=some (dV i (j*7+r)):=by intro r hr;rw[hG.cell,h.2 _ (by omega)]
theorem Ky {w:World} {G:Nat} {cs:Array Value} {n:Nat}(hG:ag w G 34 cs)(h:Ku cs n n):PV w (Old w) (some ⟨G,0,none⟩) (List.replicate n Nl):=by
 refine .inr ⟨G,0,rfl,hG.lt,fun j x hx=>?_⟩;have hj:j < n:=by have:=(List.getElem?_eq_some_iff.1 hx).1;simpa using this
 rw[List.getElem?_replicate,if_pos hj] at hx;injection hx with hx;subst hx;have k:=xh hG h hj;have k0:=k 0 (by omega);have k1:=k 1 (by omega);have k2:=k 2 (by omega);have k3:=k 3 (by omega);have k4:=k 4 (by omega);have k5:=k 5 (by omega);have k6:=k 6 (by omega);have e0:dV n (j*7+0)=.int .u8 1:=by unfold dV;rw[if_pos (by omega),if_pos (by omega)]
 have e1:dV n (j*7+1)=.int .u8 0:=by unfold dV;rw[if_neg (by omega),show(j*7+1)% 7=1 by omega];rfl
 have e2:dV n (j*7+2)=.int .i64 0:=by unfold dV;rw[if_neg (by omega),show(j*7+2)% 7=2 by omega];rfl
 have e3:dV n (j*7+3)=.string ⟨#[]⟩:=by unfold dV;rw[if_neg (by omega),show(j*7+3)% 7=3 by omega];rfl
 have e4:dV n (j*7+4)=.string ⟨#[]⟩:=by unfold dV;rw[if_neg (by omega),show(j*7+4)% 7=4 by omega];rfl
 have e5:dV n (j*7+5)=.int .i64 0:=by unfold dV;rw[if_neg (by omega),show(j*7+5)% 7=5 by omega];rfl
 have e6:dV n (j*7+6)=.slice none 0 0:=by unfold dV;rw[if_neg (by omega),show(j*7+6)% 7=6 by omega];rfl
 rw[e0] at k0;rw[e1] at k1;rw[e2] at k2;rw[e3] at k3;rw[e4] at k4;rw[e5] at k5;rw[e6] at k6;rw[Nat.zero_add];unfold cw;exact⟨k0,k1,k2,k3,k4,k5,k6⟩
theorem zg {p B:Nat} {a b:World}(h:a.grownBy b (some p))(hB:B≤a.heap.size)(hp:B≤p):Below B a b:=
 ⟨h.os,h.tape,h.output,h.size,fun k hk=>h.block k (by omega) (by intro e;injection e with e;omega)⟩
theorem sK {p:Nat} {w w':World}(h:Below w.heap.size w w'):w.grownBy w' (some p):=⟨h.os,h.tape,h.output,h.size,fun k hk _=>h.block k hk⟩
theorem dc {g:Nat} {w w':World}(h:w.grownBy w' (some g))(i:Nat)(v:Value):w.grownBy (w'.setCell ⟨g,i,none⟩ v) (some g):=
 ⟨h.os,h.tape,h.output,by simpa [World.setCell] using h.size,fun k hk hne=>(Below.heap_setCell w' ⟨g,i,none⟩ v k (fun e=>hne (by rw[e]))).trans (h.block k hk hne)⟩
set_option maxHeartbeats 2000000
set_option maxRecDepth 100000
theorem Bp (op:Int)(v:Val)(name:ByteArray)(width:Int)(A:Option Addr)(c:Nat)(args:List (Ex×Bool))(w:World)(hop:0≤op∧op≤255)(hv:v.Ok)(SS:0≤v.k∧v.k≤255)(hwd: -9223372036854775808≤width∧width≤9223372036854775807)(hl:args.length≤1599289640356)(hA:RE w w.heap.size A (args.map (·.1)))(hE:∀a∈args,lu 28 w a.1 a.2):Calls Tryz.prog 28 #[.agg #[.int .u8 op,.int .u8 v.k,.int .i64 v.n,.string v.s,.string name,.int .i64 width,.slice A args.length c]] w fun e w'=>e=.returned (.bool (args.all (·.2)&& wV op v width args.length))∧Below w.heap.size w w':=by
 have Cr:=hid (show(Tr.mk op v name width (List.replicate args.length ou)).ok by
  unfold Tr.ok
  exact⟨hv,by simpa using hl,hop,hwd,SS,Dp _⟩)
 have HFT:=hid (Dq op v name width args.length);have HX:=ag.new w 34 #[.int .u8 op,.int .u8 v.k,.int .i64 v.n,.string v.s,.string name,.int .i64 width,.slice A args.length c];have hb0:=aa w (.cells #[.int .u8 op,.int .u8 v.k,.int .i64 v.n,.string v.s,.string name,.int .i64 width,.slice A args.length c] 34);have hE2:∀a∈args.map (fun a=>(a.1,!a.2)),lu 52 w a.1 a.2:=by intro a ha;obtain⟨z,hz,rfl⟩:=List.mem_map.1 ha;exact FV z.1 z.2 w (hE z hz)
 have Ra:RE w w.heap.size A ((args.map (fun a=>(a.1,!a.2))).map (·.1)):=by rw[List.map_map];exact hA
 have YO:fS (args.map (fun a=>(a.1,!a.2)))= !args.all (·.2):=by
  unfold fS;rw[List.any_map];induction args with
  | nil=>rfl
  | cons a l _=>simp[List.not_all_eq_any_not,Function.comp_def]
 have ld:(args.map (fun a=>(a.1,!a.2))).length=args.length:=by simp
 have Nn:=hid hE2;have Kz:=hid Ra;have YP:=hid YO;clear hE hA hE2 Ra YO hv SS hwd;go_enter Tryz.func28,Tryz.ntmps28;go_upto_region 1 with fail
 generalize w.alloc _=W at*;have HB:=hid hb0;clear hb0;have x6:=HX.cell 6;simp only[List.getElem?_toArray,List.getElem?_cons_zero,List.getElem?_cons_succ] at x6;have hcon:=FX A c (args.map (fun a=>(a.1,!a.2))) W (by rw[ld];exact hl) ((Kz.out.below HB.out).more HB.out.size) (fun a ha W' YQ=>Nn.out a ha W' (ae.then HB.out YQ));rw[ld,YP.out] at hcon;have qo:=hid hcon;clear hcon ld Nn Kz YP;go_wp2_with fail;refine qo.out.mono ?_;rintro e w1 ⟨rfl,b1⟩;clear x6 qo;cases hall:args.all (·.2)
 ·have HR:=hid hall;clear hall;have h1:(!false)=true:=rfl;go_wp2_with fail;go_ret;exact⟨by rw[HR.out];rfl,ae.then HB.out b1⟩
 have HR:=hid hall;clear hall;generalize hn:args.length=n at*;have HN:=hid hn;clear hn;replace HX:=HX.later b1;replace HB:=hid (ae.then HB.out b1);clear b1;have x0:=HX.cell 0;have x1:=HX.cell 1;have x2:=HX.cell 2;have x3:=HX.cell 3;have x4:=HX.cell 4;have x5:=HX.cell 5;have x6:=HX.cell 6;simp only[List.getElem?_toArray,List.getElem?_cons_zero,List.getElem?_cons_succ] at x0 x1 x2 x3 x4 x5 x6;go_upto_region 4 with fail
 have HO:=ag.new w1 34 #[.int .u8 op,.int .u8 v.k,.int .i64 v.n,.string v.s,.string name,.int .i64 width,.slice A n c];have bO:=aa w1 (.cells #[.int .u8 op,.int .u8 v.k,.int .i64 v.n,.string v.s,.string name,.int .i64 width,.slice A n c] 34);have bo:w.heap.size≤w1.heap.size:=HB.out.size;have hxo:w.heap.size≠w1.heap.size:=by have:=HX.lt;omega
 replace HX:=HX.later bO;replace HB:=hid (ae.then HB.out bO);clear bO x0 x1 x2 x3 x4 x5 x6;generalize w1.heap.size=go at*;generalize w1.alloc _=W2 at*;have x6:=HX.cell 6;simp only[List.getElem?_toArray,List.getElem?_cons_zero,List.getElem?_cons_succ] at x6;have hmk:=FZ n hl;have HG:=ag.new W2 34 (madeCells #[.int .u8 0,.int .u8 0,.int .i64 0,.string ⟨#[]⟩,.string ⟨#[]⟩,.int .i64 0,.slice none 0 0] (n*7));have HM:=hid (Kv n);have bG:=aa W2 (.cells (madeCells #[.int .u8 0,.int .u8 0,.int .i64 0,.string ⟨#[]⟩,.string ⟨#[]⟩,.int .i64 0,.slice none 0 0] (n*7)) 34);generalize madeCells _ (n*7)=mc at*;have hoG:go≠W2.heap.size:=by have:=HO.lt;omega
 have hxG:w.heap.size≠W2.heap.size:=by have:=HX.lt;omega
 have hGw:w.heap.size≤W2.heap.size:=by have:=HX.lt;omega
 replace HX:=(HX.later bG).far (p:=⟨go,6,none⟩) hxo (.slice (some ⟨W2.heap.size,0,none⟩) n n);replace HG:=HG.far (p:=⟨go,6,none⟩) (fun e=>hoG e.symm) (.slice (some ⟨W2.heap.size,0,none⟩) n n);have HO6:=(HO.later bG).cell 6;have HOz:=(HO.later bG).frozen;simp only[List.getElem?_toArray,List.getElem?_cons_zero,List.getElem?_cons_succ] at HO6;have Qb:=(HO.later bG).cA 6 (.slice (some ⟨W2.heap.size,0,none⟩) n n);simp only[List.setIfInBounds_toArray,List.set_cons_succ,List.set_cons_zero] at Qb;replace HB:=hid ((ae.then HB.out bG).setCell (p:=⟨go,6,none⟩) bo (.slice (some ⟨W2.heap.size,0,none⟩) n n));clear bG HO;go_upto_region 5 with fail
 clear HO6 HOz x6 hmk;generalize W2.heap.size=G at*;generalize World.setCell _ _ _=W3 at*;have o6:=Qb.cell 6;simp only[List.getElem?_toArray,List.getElem?_cons_zero,List.getElem?_cons_succ] at o6;go_wp2_with fail;clear o6;go_loopw [19] (fun iv wr=>∃(i:Nat) (cs:Array Value),i≤n∧iv=.int .i64 i∧Ku cs n i∧ag wr G 34 cs∧W3.grownBy wr (some G)) (fun iv _=>n - (intOf iv).toNat);case atStart=>exact⟨0,mc,Nat.zero_le _,rfl,HM.out,HG,sK (Below.refl _ _)⟩
 case round=>
  obtain⟨i,cs,hi,rfl,hm,hG,hgr⟩:=hrel;have hO:=Qb.grown hgr (fun e=>by injection e with e;exact hoG e);have o6:=hO.cell 6;simp only[List.getElem?_toArray,List.getElem?_cons_zero,List.getElem?_cons_succ] at o6;have HMR:=hid hm;by_cases hlt:i < n
  ·have k:=xh hG hm hlt;have k0:=k 0 (by omega);have k1:=k 1 (by omega);have k2:=k 2 (by omega);have k3:=k 3 (by omega);have k4:=k 4 (by omega);have k5:=k 5 (by omega);have k6:=k 6 (by omega);rw[Nat.add_zero] at k0;generalize dV i _=m0 at k0;generalize dV i _=m1 at k1;generalize dV i _=m2 at k2;generalize dV i _=m3 at k3;generalize dV i _=m4 at k4;generalize dV i _=m5 at k5;generalize dV i _=m6 at k6;have fz:=hG.frozen;have HGG:=hid hG;have YR:=hid hgr;clear k hm hG hgr hO;go_wp2_with fail;go_roundw;case rel=>refine⟨i+1,_,hlt,by go_num,Kw hlt HMR.out,((((((HGG.out.cA (i*7) _).cA (i*7+1) _).cA (i*7+2) _).cA (i*7+3) _).cA (i*7+4) _).cA (i*7+5) _).cA (i*7+6) _,?_⟩;exact dc (dc (dc (dc (dc (dc (dc YR.out _ _) _ _) _ _) _ _) _ _) _ _) _ _
   case measure=>simp[intOf];omega
  ·obtain rfl:i=n:=by omega
   have hx:=HX.grown hgr (fun e=>by injection e with e;exact hxG e);have o0:=hO.cell 0;have o1:=hO.cell 1;have o2:=hO.cell 2;have o3:=hO.cell 3;have o4:=hO.cell 4;have o5:=hO.cell 5;have x4:=hx.cell 4;simp only[List.getElem?_toArray,List.getElem?_cons_zero,List.getElem?_cons_succ] at o0 o1 o2 o3 o4 o5 x4;have hat:(Tr.mk op v name width (List.replicate i ou)).at_ wr (Old wr) ⟨op,v,name,width,some ⟨G,0,none⟩,i,i⟩:=by unfold Tr.at_;exact⟨rfl,rfl,rfl,rfl,by simp,_,Ky hG hm,Dn _ _ _⟩
   have bC:=aa wr (.cells #[.string name,.int .u8 0] 43);have HC:=ag.new wr 43 #[.string name,.int .u8 0];have hC:RC (wr.alloc (.cells #[.string name,.int .u8 0] 43)) (wr.alloc (.cells #[.string name,.int .u8 0] 43)).heap.size (some ⟨wr.heap.size,0,none⟩) [⟨name,0⟩]:=by
    refine .inr ⟨_,0,rfl,HC.lt,fun j x hx=>?_⟩;have hj:=(List.getElem?_eq_some_iff.1 hx).1;have:j=0:=by simpa using hj
    subst this;simp at hx;subst hx;exact⟨HC.cell 0,HC.cell 1⟩
   have Ta:=Tr.Ik (cols:=[⟨name,0⟩]) (CA:=some ⟨wr.heap.size,0,none⟩) (cc:=1) (by simp) _ _ _ Cr.out (hat.later bC) hC _ (Below.refl _ _);have YS:=hid Ta;have jx:Below w.heap.size w wr:=HB.out.trans (zg hgr (by have:=HB.out.size;exact this) hGw);have HBC:=hid (ae.then jx bC);clear Ta hat hC HC bC jx hm hG hgr hO hx;go_wp2_with fail;refine YS.out.mono ?_;rintro e w5 ⟨rfl,b5⟩;have HE:=hid HFT.out;clear YS;generalize ((Tr.mk op v name width (List.replicate i ou)).type [⟨name,0⟩]).1=t1 at*;generalize ((Tr.mk op v name width (List.replicate i ou)).type [⟨name,0⟩]).2=t2 at*;go_wp2_with fail;go_ret;exact⟨by rw[HR.out,HN.out,← HE.out];rfl,ae.then HBC.out b5⟩
theorem Ga {s:ByteArray}(h:tH s=true):s=ByteArray.empty:=by
 have h1:s.toList=[]:=by simpa [tH] using h
 rw[ByteArray.toList_eq] at h1;apply ByteArray.ext;apply Array.toList_inj.1;rw[h1];rfl
theorem Gb {v:Val}(h:good v=true)(h0:v.k=0):v=ah:=by obtain⟨k,n,s⟩:=v;subst h0;simp only[good,ite_true,Bool.and_eq_true,beq_iff_eq] at h;obtain⟨h1,h2⟩:=h;subst h1;rw[Ga h2];rfl
theorem xj {v:Val}(h:good v=true)(h0:v.k=1):v=aL false∨v=aL true:=by
 obtain⟨k,n,s⟩:=v;subst h0;simp only[good,(by decide:¬(1:Int)=0),ite_false,ite_true,Bool.and_eq_true,Bool.or_eq_true,beq_iff_eq] at h;obtain⟨h1,h2⟩:=h;rw[Ga h1];rcases h2 with rfl | rfl
 ·exact .inl rfl
 ·exact .inr rfl
theorem Dr {v:Val}(h:good v=true)(h0:v.k=2):v.s=ByteArray.empty:=by obtain⟨k,n,s⟩:=v;subst h0;simp only[good,(by decide:¬(2:Int)=0),(by decide:¬(2:Int)=1),ite_false,ite_true] at h;exact Ga h
theorem oW {v:Val}(h:good v=true)(hg:dC v.k 1=true):v=ah∨v=aL false∨v=aL true:=by
 simp only[dC,Bool.or_eq_true,beq_iff_eq] at hg;rcases hg with (h0 | h0)| h0
 ·exact .inl (Gb h h0)
 ·exact absurd h0 (by decide)
 ·exact .inr (xj h h0)
theorem Np (b:Bool):good (aL b)=true:=by cases b <;> kernel_rfl
theorem Vk (n:Int):good (num n)=true:=by kernel_rfl
theorem oX:good ah=true:=by kernel_rfl
theorem ri (n:Int)(c:Bool):good (eT n c).1=true:=by
 unfold eT;split
 ·exact Vk n
 ·exact oX
theorem Gc (s:Bool)(l:List Val):good (js s l)=true:=by
 unfold js
 repeat' split
 all_goals first | exact Np _ | exact oX
theorem Rb (k:Nat)(wd:Int)(l:List Val):good (wF k wd l).1=true:=by
 unfold wF;split;all_goals first
  | exact oX
  | exact Np _
  | exact Gc _ _
  | exact ri _ _
  |(unfold tI;split;exact oX;exact ri _ _)
  |(unfold tJ;split;exact oX;exact ri _ _)
theorem KA (op wd:Int)(l:List Val):good (cn op wd l).1=true:=by
 unfold cn
 repeat' split
 all_goals first | exact oX | exact Rb _ _ _
theorem sL {cols:List ik} {row:List Val} {x:Ex} {rs:List (Val×Int)}(h:(iY cols row x rs).2=0):ft rs=0∧bc x=0∧iY cols row x rs=(if x.op=1 then(x.v,0)else if x.op=2 then qX cols row x.name else cn x.op x.width (rs.map (·.1))):=by
 unfold iY at h ⊢;by_cases h1:ft rs=0
 ·by_cases h2:bc x=0
  ·exact⟨h1,h2,by simp[h1,h2]⟩
  ·simp[h1,h2] at h
 ·simp[h1] at h
theorem xm:∀ {l:List (Val×Int)},ft l=0→∀r∈l,r.2=0
 | [],_,r,hr=>by simp at hr
 | a::l,h,r,hr=>by
   unfold ft at h;split at h
   ·rename_i h1;exact absurd h h1
   ·rename_i h1;rcases List.mem_cons.1 hr with rfl | hr
    ·exact Decidable.not_not.1 h1
    ·exact xm h r hr
theorem sM {x:Ex}(h:bc x=0)(h1:x.op=1):good x.v=true:=by
 unfold bc at h;split at h
 ·rename_i h2;rcases h2 with h2 | h2
  ·exact h2.2.2
  ·exact absurd h2.1 (by omega)
 ·split at h
  ·rename_i h2;rw[h1] at h2;exact absurd h2.1 (by decide)
  ·split at h <;> exact absurd h (by decide)
theorem xo {x:Ex}(h:bc x=0)(h1:10≤x.op)(h2:x.op≤17):x.n=2:=by
 unfold bc at h;split at h
 ·rename_i h3;rcases h3 with h3 | h3
  ·have:=h3.1;omega
  ·have:=h3.1;omega
 ·split at h
  ·rename_i h3;have h4:=h3.2.1;unfold lh at h4;rw[if_neg (by omega)] at h4;omega
  ·split at h <;> exact absurd h (by decide)
theorem mX (cols:List ik)(row:List Val):∀t:Tr,(t.eval cols row).2=0→good (t.eval cols row).1=true
 | .mk op v name width args,h=>by
   unfold Tr.eval at h ⊢;obtain⟨h1,h2,h3⟩:=sL h;rw[h3];split
   ·rename_i h4;exact sM h2 h4
   ·split
    ·unfold qX;split
     ·split
      ·rename_i h5;exact h5
      ·exact oX
     ·exact oX
    ·exact KA _ _ _
def Tv (v:Val):Prop:=v.k=1∧v.n=1
theorem Rc {v:Val}(hg:good v=true)(h:Tv v):v=aL true:=by
 rcases xj hg h.1 with rfl | rfl
 ·exact absurd h.2 (by decide)
 ·rfl
theorem Re {r:Val×Int}(hg:good r.1=true)(h:gY r=(true,0)):r.2=0∧Tv r.1:=by
 unfold gY at h;split at h
 ·cases h
 ·rename_i h1;split at h
  ·cases h
  ·rename_i h2;have h3:(r.1.n==1)=true:=congrArg Prod.fst h;have h4:r.1.n=1:=by simpa using h3
   have h5:dC r.1.k 1=true:=by simpa using h2
   refine⟨Decidable.not_not.1 h1,?_,h4⟩;rcases oW hg h5 with e | e | e
   ·rw[e] at h4;exact absurd h4 (by decide)
   ·rw[e] at h4;exact absurd h4 (by decide)
   ·rw[e];rfl
theorem rj {op wd:Int} {l:List Val}(h:(cn op wd l).2=0):fq op (l.map (·.k))=true:=by
 unfold cn at h;split at h
 ·cases h
 ·rename_i h1;simpa using h1
theorem Nq {wd:Int} {a b:Val}(ga:good a=true)(gb:good b=true)(h:(cn 16 wd [a,b]).2=0)(ht:Tv (cn 16 wd [a,b]).1):Tv a∧Tv b:=by
 have hs:=rj h;simp only[List.map_cons,List.map_nil,fq,Bool.and_eq_true] at hs;have N7:nB 16=1:=by decide
 rw[N7] at hs;rcases oW ga hs.1 with rfl | rfl | rfl <;> rcases oW gb hs.2.1 with rfl | rfl | rfl;all_goals first
  | exact⟨⟨rfl,rfl⟩,⟨rfl,rfl⟩⟩
  |(exfalso;have e:(cn 16 wd [ah,ah]).1.n=0:=by kernel_rfl
    have:=ht.2;omega)
  |(exfalso;have e:(cn 16 wd [ah,aL false]).1.n=0:=by kernel_rfl
    have:=ht.2;omega)
  |(exfalso;have e:(cn 16 wd [ah,aL true]).1.n=0:=by kernel_rfl
    have:=ht.2;omega)
  |(exfalso;have e:(cn 16 wd [aL false,ah]).1.n=0:=by kernel_rfl
    have:=ht.2;omega)
  |(exfalso;have e:(cn 16 wd [aL false,aL false]).1.n=0:=by kernel_rfl
    have:=ht.2;omega)
  |(exfalso;have e:(cn 16 wd [aL false,aL true]).1.n=0:=by kernel_rfl
    have:=ht.2;omega)
  |(exfalso;have e:(cn 16 wd [aL true,ah]).1.n=0:=by kernel_rfl
    have:=ht.2;omega)
  |(exfalso;have e:(cn 16 wd [aL true,aL false]).1.n=0:=by kernel_rfl
    have:=ht.2;omega)
  |(exfalso;have e:(cn 16 wd [aL true,aL true]).1.n=0:=by kernel_rfl
    have:=ht.2;omega)
theorem Tb {wd:Int} {a b:Val}(ga:good a=true)(gb:good b=true)(h:(cn 17 wd [a,b]).2=0)(ht:Tv (cn 17 wd [a,b]).1):Tv a∨Tv b:=by
 have hs:=rj h;simp only[List.map_cons,List.map_nil,fq,Bool.and_eq_true] at hs;have N7:nB 17=1:=by decide
 rw[N7] at hs;rcases oW ga hs.1 with rfl | rfl | rfl <;> rcases oW gb hs.2.1 with rfl | rfl | rfl;all_goals first
  | exact .inl ⟨rfl,rfl⟩
  | exact .inr ⟨rfl,rfl⟩
  |(exfalso;have e:(cn 17 wd [ah,ah]).1.n=0:=by kernel_rfl
    have:=ht.2;omega)
  |(exfalso;have e:(cn 17 wd [ah,aL false]).1.n=0:=by kernel_rfl
    have:=ht.2;omega)
  |(exfalso;have e:(cn 17 wd [ah,aL true]).1.n=0:=by kernel_rfl
    have:=ht.2;omega)
  |(exfalso;have e:(cn 17 wd [aL false,ah]).1.n=0:=by kernel_rfl
    have:=ht.2;omega)
  |(exfalso;have e:(cn 17 wd [aL false,aL false]).1.n=0:=by kernel_rfl
    have:=ht.2;omega)
  |(exfalso;have e:(cn 17 wd [aL false,aL true]).1.n=0:=by kernel_rfl
    have:=ht.2;omega)
  |(exfalso;have e:(cn 17 wd [aL true,ah]).1.n=0:=by kernel_rfl
    have:=ht.2;omega)
  |(exfalso;have e:(cn 17 wd [aL true,aL false]).1.n=0:=by kernel_rfl
    have:=ht.2;omega)
  |(exfalso;have e:(cn 17 wd [aL true,aL true]).1.n=0:=by kernel_rfl
    have:=ht.2;omega)
def Gd (op c:Int):Prop:=(op=10→c=0)∧(op=12→c < 0)∧(op=13→c≤0)∧(op=14→0 < c)∧(op=15→0≤c)
theorem Nr {op wd:Int} {a b:Val}(h1:10≤op)(h2:op≤15)(h:(cn op wd [a,b]).2=0)(ht:Tv (cn op wd [a,b]).1):a.k≠0∧b.k≠0∧Gd op (gf a b):=by
 have hs:=rj h;have hn:qV op=false:=by simp only[qV,decide_eq_false_iff_not];omega
 unfold cn at ht;rw[hs] at ht;simp only[hn,Bool.true_eq_false,ite_false,true_and] at ht;by_cases hz:([a,b].map (·.k)).any (· ==0)=true
 ·rw[if_pos hz] at ht;exact absurd ht.1 (by decide)
 ·rw[if_neg hz] at ht;simp only[List.map_cons,List.map_nil,List.any_cons,List.any_nil,Bool.or_false,Bool.or_eq_true,beq_iff_eq,not_or] at hz;refine⟨hz.1,hz.2,?_⟩;have tb:∀c:Bool,Tv (aL c)→c=true:=fun c hc=>by cases c;exact absurd hc.2 (by decide);rfl
  have hc:op=10∨op=11∨op=12∨op=13∨op=14∨op=15:=by omega
  unfold Gd;rcases hc with rfl | rfl | rfl | rfl | rfl | rfl
  ·have k:=tb _ (show Tv (aL (decide (gf a b=0)))from ht);have:=of_decide_eq_true k;omega
  ·omega
  ·have k:=tb _ (show Tv (aL (decide (gf a b < 0)))from ht);have:=of_decide_eq_true k;omega
  ·have k:=tb _ (show Tv (aL (decide (gf a b≤0)))from ht);have:=of_decide_eq_true k;omega
  ·have k:=tb _ (show Tv (aL (decide (0 < gf a b)))from ht);have:=of_decide_eq_true k;omega
  ·have k:=tb _ (show Tv (aL (decide (0≤gf a b)))from ht);have:=of_decide_eq_true k;omega
theorem zW {a b:Int}(h:mI a b=0):a=b:=by unfold mI at h;split at h <;>(try split at h)<;> omega
theorem KB {a b:ByteArray}(h:tF a b=0):a=b:=by
 unfold tF at h;split at h
 ·omega
 ·split at h
  ·rename_i h1;have h2:a.toList=b.toList:=by simpa using h1
   rw[ByteArray.toList_eq,ByteArray.toList_eq] at h2;exact ByteArray.ext (Array.toList_inj.1 h2)
  ·omega
theorem KC {a b:Val}(h:gf a b=0):a=b:=by
 obtain⟨ak,an,ax⟩:=a;obtain⟨bk,bn,bx⟩:=b;unfold gf XI at h;dsimp only at h;split at h
 ·rename_i h1;split at h
  ·rename_i h2;rw[zW h1,zW h2,KB h]
  ·rename_i h2;exact absurd h h2
 ·rename_i h1;exact absurd h h1
theorem Ds {a b:Val}(ga:good a=true)(gb:good b=true)(ha:a.k=2)(hb:b.k=2):gf a b=mI a.n b.n:=by
 have ea:=Dr ga ha;have eb:=Dr gb hb;unfold gf XI;rw[ha,hb,ea,eb,if_pos (by decide)];have e0:tF ByteArray.empty ByteArray.empty=0:=by kernel_rfl
 split
 ·rename_i h;rw[h,e0]
 ·rfl
theorem Iz {op x k:Int}(hop:AX op=true)(h:Gd op (mI x k))(hl:dz≤x)(hh:x < bR):(jX op k).a≤x∧x <(jX op k).b:=by
 have hop:op=10∨12≤op∧op≤15:=by simpa [AX] using hop
 have hc:op=10∨op=12∨op=13∨op=14∨op=15:=by omega
 unfold Gd at h;have hcm:(mI x k= -1∧x < k)∨(mI x k=1∧k < x)∨(mI x k=0∧x=k):=by unfold mI;split <;>(try split)<;> omega
 have el:dz= -4611687117939015680:=rfl;have eh:bR=4611687117939015679:=rfl;simp only[jX,lg,ey,jW,fD,bT,dG,br];generalize mI x k=cc at*;clear hop;rcases hc with rfl | rfl | rfl | rfl | rfl;all_goals
  simp (decide:=true) only[if_true,if_false,ite_true,ite_false]
  repeat' split
  all_goals (first |(exfalso;omega)|(constructor <;> dsimp only <;> omega)|((try dsimp only at*);first |(exfalso;omega)|(constructor <;> omega)))
theorem Ns {op x k:Int}(h:Gd op (mI k x)):Gd (mL op) (mI x k):=by
 have h1:mI k x= - mI x k:=by unfold mI;repeat' split;all_goals omega
 rw[h1] at h;unfold Gd at*;unfold mL
 repeat' split
 all_goals omega
theorem oY {cols:List ik} {row:List Val} {t:Tr}(h:t.op=1)(he:(t.eval cols row).2=0):(t.eval cols row).1=t.v∧good t.v=true:=by obtain⟨op,v,name,width,args⟩:=t;have h:op=1:=h;unfold Tr.eval at he ⊢;obtain⟨_,h2,h3⟩:=sL he;rw[h3];rw[if_pos h];exact⟨rfl,sM h2 h⟩
theorem sN {cols:List ik} {row:List Val} {aA:ByteArray} {t:Tr}(h:iP aA t=true)(he:(t.eval cols row).2=0):bE aA cols < cols.length∧bE aA cols < row.length∧(t.eval cols row).1=row.getD (bE aA cols) ah:=by
 obtain⟨op,v,name,width,args⟩:=t;simp only[iP,Tr.op,Tr.name,Bool.and_eq_true,beq_iff_eq] at h;obtain⟨h1,h2⟩:=h;rw[ByteArray.toList_eq,ByteArray.toList_eq] at h2;have h2:name=aA:=ByteArray.ext (Array.toList_inj.1 h2);subst h1 h2;unfold Tr.eval at he ⊢;obtain⟨_,h4,h3⟩:=sL he;rw[h3] at he ⊢;dsimp only at he ⊢;rw[if_neg (by decide),if_pos rfl] at he ⊢;unfold qX at he ⊢;split at he
 ·rename_i hp;rw[if_pos hp];split at he
  ·rename_i hg;rw[if_pos hg];exact⟨hp.1,hp.2,rfl⟩
  ·cases he
 ·cases he
theorem zX {op:Int} {aA:ByteArray} {a b:Tr}(h:(bF op aA a b).2.2=true):(iP aA b=true∧a.op=1∧bF op aA a b=(mL op,a.v,true))∨(iP aA a=true∧b.op=1∧bF op aA a b=(op,b.v,true)):=by
 unfold bF at*;by_cases hb:iP aA b=true
 ·rw[if_pos hb] at h ⊢;dsimp only at h;rw[Bool.and_eq_true] at h;refine .inl ⟨hb,by simpa using h.2,by rw[h.1,h.2];rfl⟩
 ·rw[if_neg hb] at h ⊢;dsimp only at h;rw[Bool.and_eq_true] at h;exact .inr ⟨h.1,by simpa using h.2,by rw[h.1,h.2];rfl⟩
theorem zY {cols:List ik} {row:List Val} {t:Tr}(h:wU t=true)(he:(t.eval cols row).2=0):(t.eval cols row).1.k=0:=by simp only[wU,aO,Bool.and_eq_true,beq_iff_eq] at h;rw[(oY h.1 he).1];exact h.2
theorem Dt (cols:List ik)(row:List Val):∀(ts:List Tr) (i:Nat) (t:Tr),ts[i]?=some t→(Tr.fx cols row ts)[i]?=some (t.eval cols row)
 | [],i,t,h=>by simp at h
 | a::ts,0,t,h=>by simp at h;subst h;simp[Tr.fx]
 | a::ts,i+1,t,h=>by simp only[List.getElem?_cons_succ] at h;simp only[Tr.fx,List.getElem?_cons_succ];exact Dt cols row ts i t h
theorem pO (cols:List ik)(row:List Val) {ts:List Tr} {t:Tr}(h:t∈ts)(he:ft (Tr.fx cols row ts)=0):(t.eval cols row).2=0:=by obtain⟨i,hi⟩:=List.getElem?_of_mem h;exact xm he _ (List.mem_of_getElem? (Dt cols row ts i t hi))
def sO (cols:List ik)(row:List Val)(aA:ByteArray)(n:Int)(t:Tr):Prop:=(t.eval cols row).2=0→Tv (t.eval cols row).1→(t.span aA).a≤n∧n <(t.span aA).b
theorem KD (cols:List ik)(row:List Val)(aA:ByteArray)(x:Val)(hx:row.getD (bE aA cols) ah=x)(Tc:x.k=2)(hl:dz≤x.n)(hh:x.n < bR)(op:Int)(v:Val)(name:ByteArray)(width:Int)(args:List Tr)(ih:∀t∈args,sO cols row aA x.n t):sO cols row aA x.n (.mk op v name width args):=by
 intro he ht;have hall:aY.a≤x.n∧x.n < aY.b:=⟨hl,hh⟩;unfold Tr.eval at he ht;obtain⟨h1,h2,h3⟩:=sL he;rw[h3] at he ht;unfold Tr.span sy;by_cases ho:10≤op∧op≤17
 ·have hn:args.length=2:=xo h2 ho.1 ho.2
  match args,hn with
  | [a,b],_=>
    have ea:=pO cols row (t:=a) (by simp) h1;have eb:=pO cols row (t:=b) (by simp) h1;have ga:=mX cols row a ea;have gb:=mX cols row b eb;have ia:=ih a (by simp) ea;have ib:=ih b (by simp) eb;rw[if_neg (by dsimp only;omega),if_neg (by dsimp only;omega)] at he ht;simp only[Tr.fx,List.map_cons,List.map_nil] at he ht;simp only[Tr.sB,List.getD_cons_zero,List.getD_cons_succ];by_cases xe:op=16
    ·subst xe;obtain⟨ta,tb⟩:=Nq ga gb he ht;have ja:=ia ta;have jb:=ib tb;rw[if_pos rfl];unfold bT dG;rw[if_neg (by omega)];constructor <;> dsimp only <;> omega
    ·rw[if_neg xe];by_cases xf:op=17
     ·subst xf;rw[if_pos rfl];unfold Jz;rcases Tb ga gb he ht with ta | tb
      ·have ja:=ia ta;rw[if_neg (by omega)];split
       ·exact ja
       ·constructor <;> dsimp only <;> omega
      ·have jb:=ib tb;split
       ·exact jb
       ·rw[if_neg (by omega)];constructor <;> dsimp only <;> omega
     ·rw[if_neg xf,if_neg (by simp[kE,aO];omega),if_neg (by omega)];obtain⟨ka,kb,oL⟩:=Nr ho.1 (by omega) he ht;rw[if_neg (by
       intro pN
       simp only[List.any_cons,List.any_nil,Bool.or_false,Bool.or_eq_true] at pN
       rcases pN with pN | pN
       ·exact ka (zY pN ea)
       ·exact kb (zY pN eb))]
      unfold qE;split
      ·rename_i hs;obtain⟨s1,s2,s3⟩:=hs;rcases zX s1 with ⟨c1,c2,c3⟩|⟨c1,c2,c3⟩
       ·rw[c3] at s2 s3 ⊢;obtain⟨_,_,e1⟩:=sN c1 eb;rw[hx] at e1;obtain⟨e2,_⟩:=oY c2 ea;rw[e1] at gb oL;rw[e2] at ga oL;rw[Ds ga gb s2 Tc] at oL;exact Iz s3 (Ns oL) hl hh
       ·rw[c3] at s2 s3 ⊢;obtain⟨_,_,e1⟩:=sN c1 ea;rw[hx] at e1;obtain⟨e2,_⟩:=oY c2 eb;rw[e1] at ga oL;rw[e2] at gb oL;rw[Ds ga gb Tc s2] at oL;exact Iz s3 oL hl hh
      ·exact hall
 ·rw[if_neg (by omega),if_neg (by omega)];by_cases h1o:op=1
  ·subst h1o;rw[if_pos rfl] at he ht;have hv:v=aL true:=Rc (sM h2 rfl) ht;subst hv
   rw[if_neg (by have e:kE 1 (aL true)=false:=by kernel_rfl
                 rw[e];decide),if_pos (by omega)]
   exact hall
  ·rw[if_neg (by simp[kE,aO,h1o]),if_pos (by omega)];exact hall
mutual
theorem Tr.zZ (cols:List ik)(row:List Val)(aA:ByteArray)(x:Val)(hx:row.getD (bE aA cols) ah=x)(Tc:x.k=2)(hl:dz≤x.n)(hh:x.n < bR):∀t:Tr,sO cols row aA x.n t
 | .mk op v name width args=>KD cols row aA x hx Tc hl hh op v name width args (Tr.Aa cols row aA x hx Tc hl hh args)
theorem Tr.Aa (cols:List ik)(row:List Val)(aA:ByteArray)(x:Val)(hx:row.getD (bE aA cols) ah=x)(Tc:x.k=2)(hl:dz≤x.n)(hh:x.n < bR):∀(ts:List Tr),∀t∈ts,sO cols row aA x.n t
 | [],t,ht=>by simp at ht
 | a::ts,t,ht=>(List.mem_cons.1 ht).elim (fun e=>e▸Tr.zZ cols row aA x hx Tc hl hh a) (fun h=>Tr.Aa cols row aA x hx Tc hl hh ts t h)
end
def vL (cols:List ik)(row:List Val)(aA:ByteArray)(x:Val)(t:Tr):Prop:=(t.eval cols row).2=0→Tv (t.eval cols row).1→∀v,t.value aA=some v→x=v
theorem Nt {a b:Val}(h:fw a b=true):a=b:=by obtain⟨ak,an,ax⟩:=a;obtain⟨bk,bn,bx⟩:=b;simp only[fw,Bool.and_eq_true,beq_iff_eq] at h;obtain⟨⟨h1,h2⟩,h3⟩:=h;subst h1 h2;rw[ByteArray.toList_eq,ByteArray.toList_eq] at h3;rw[ByteArray.ext (Array.toList_inj.1 h3)]
theorem Ge (cols:List ik)(row:List Val)(aA:ByteArray)(x:Val)(hx:row.getD (bE aA cols) ah=x)(op:Int)(v:Val)(name:ByteArray)(width:Int)(args:List Tr)(ih:∀t∈args,vL cols row aA x t):vL cols row aA x (.mk op v name width args):=by
 intro he ht u hu;unfold Tr.eval at he ht;obtain⟨h1,h2,h3⟩:=sL he;rw[h3] at he ht;unfold Tr.value UO at hu;by_cases ho:10≤op∧op≤17
 ·have hn:args.length=2:=xo h2 ho.1 ho.2
  match args,hn with
  | [a,b],_=>
    have ea:=pO cols row (t:=a) (by simp) h1;have eb:=pO cols row (t:=b) (by simp) h1;have ga:=mX cols row a ea;have gb:=mX cols row b eb;have ia:=ih a (by simp) ea;have ib:=ih b (by simp) eb;rw[if_neg (by dsimp only;omega),if_neg (by dsimp only;omega)] at he ht;simp only[Tr.fx,List.map_cons,List.map_nil] at he ht;simp only[Tr.values,List.getD_cons_zero,List.getD_cons_succ] at hu;by_cases xe:op=16
    ·subst xe;obtain⟨ta,tb⟩:=Nq ga gb he ht;rw[if_pos rfl] at hu;cases hv:a.value aA with
     | some z=>rw[hv] at hu;injection hu with hu;exact ia ta u (hv.trans (by rw[hu]))
     | none=>rw[hv] at hu;exact ib tb u hu
    ·rw[if_neg xe] at hu;by_cases xf:op=17
     ·subst xf;rw[if_pos rfl] at hu;cases SQ:a.value aA with
      | none=>rw[SQ] at hu;cases hu
      | some y=>
        cases Td:b.value aA with
        | none=>rw[SQ,Td] at hu;cases hu
        | some z=>
          rw[SQ,Td] at hu;dsimp only at hu;split at hu
          ·rename_i SX;injection hu with hu;subst hu;rcases Tb ga gb he ht with ta | tb
           ·exact ia ta y SQ
           ·rw[Nt SX];exact ib tb z Td
          ·cases hu
     ·rw[if_neg xf] at hu;split at hu
      ·rename_i h10;split at hu
       ·rename_i hs;injection hu with hu;obtain⟨_,_,oL⟩:=Nr ho.1 (by omega) he ht;have hz:=KC (oL.1 h10);rcases zX hs.1 with ⟨c1,c2,c3⟩|⟨c1,c2,c3⟩
        ·rw[c3] at hu;obtain⟨_,_,e1⟩:=sN c1 eb;rw[hx] at e1;obtain⟨e2,_⟩:=oY c2 ea;rw[e1,e2] at hz;rw[← hz];exact hu
        ·rw[c3] at hu;obtain⟨_,_,e1⟩:=sN c1 ea;rw[hx] at e1;obtain⟨e2,_⟩:=oY c2 eb;rw[e1,e2] at hz;rw[hz];exact hu
       ·cases hu
      ·cases hu
 ·rw[if_neg (by omega),if_neg (by omega),if_neg (by omega)] at hu;cases hu
mutual
theorem Tr.xp (cols:List ik)(row:List Val)(aA:ByteArray)(x:Val)(hx:row.getD (bE aA cols) ah=x):∀t:Tr,vL cols row aA x t
 | .mk op v name width args=>Ge cols row aA x hx op v name width args (Tr.xq cols row aA x hx args)
theorem Tr.xq (cols:List ik)(row:List Val)(aA:ByteArray)(x:Val)(hx:row.getD (bE aA cols) ah=x):∀(ts:List Tr),∀t∈ts,vL cols row aA x t
 | [],t,ht=>by simp at ht
 | a::ts,t,ht=>(List.mem_cons.1 ht).elim (fun e=>e▸Tr.xp cols row aA x hx a) (fun h=>Tr.xq cols row aA x hx ts t h)
end
def Calm (e:Int):Prop:=e≠43∧e≠44
theorem xr:Calm 0:=⟨by decide,by decide⟩
theorem rk:Calm 40:=⟨by decide,by decide⟩
theorem rp:Calm 41:=⟨by decide,by decide⟩
theorem KE (x:Ex):Calm (bc x):=by
 unfold bc Calm
 repeat' split
 all_goals decide
theorem Rf {op:Int}(h:qC op=false)(wd:Int)(l:List Val):(wF op.toNat wd l).2=0:=by
 simp only[qC,Bool.or_eq_false_iff,Bool.and_eq_false_iff] at h;unfold wF;split;all_goals first
  | rfl
  |(exfalso
    rename_i e
    have h1:=h.1
    rcases h1 with h1 | h1
    ·simp only[gp,decide_eq_false_iff_not] at h1;omega
    ·have h2:lj op=2:=by unfold lj;rw[if_neg (by omega)]
     rw[h2] at h1
     exact absurd h1 (by decide))
theorem KF {op:Int}(h:qC op=false)(wd:Int)(l:List Val):Calm (cn op wd l).2:=by
 unfold cn;split
 ·first | exact xr | exact rk | exact rp
 split
 ·first | exact xr | exact rk | exact rp
 ·rw[Rf h];first | exact xr | exact rk | exact rp
theorem xt:∀ {l:List (Val×Int)},(∀r∈l,Calm r.2)→Calm (ft l)
 | [],_=>⟨by decide,by decide⟩
 | a::l,h=>by
   unfold ft;split
   ·exact h a (by simp)
   ·exact xt fun r hr=>h r (by simp[hr])
mutual
theorem Tr.calm (cols:List ik)(row:List Val):∀t:Tr,t.safe=true→Calm (t.eval cols row).2
 | .mk op v name width args,h=>by
   unfold Tr.safe at h;rw[Bool.and_eq_true] at h;have hr:qC op=false:=by simpa using h.1
   unfold Tr.eval iY;split
   ·exact xt (Tr.Te cols row args h.2)
   split
   ·exact KE _
   split
   ·first | exact xr | exact rk | exact rp
   split
   ·unfold qX
    repeat' split
    all_goals first | exact xr | exact rk | exact rp
   ·exact KF hr _ _
theorem Tr.Te (cols:List ik)(row:List Val):∀ts:List Tr,Tr.wN ts=true→∀r∈Tr.fx cols row ts,Calm r.2
 | [],_,r,hr=>by simp[Tr.fx] at hr
 | t::ts,h,r,hr=>by
   unfold Tr.wN at h;rw[Bool.and_eq_true] at h;unfold Tr.fx at hr;rcases List.mem_cons.1 hr with rfl | hr
   ·exact Tr.calm cols row t h.1
   ·exact Tr.Te cols row ts h.2 r hr
end
theorem KH {r:Val×Int}(h:Calm r.2):Calm (gY r).2:=by
 unfold gY;split
 ·exact h
 split
 ·first | exact xr | exact rk | exact rp
 ·first | exact xr | exact rk | exact rp
end Go.Proofs.YtfmbcoeallmnnaaGreatDoor
