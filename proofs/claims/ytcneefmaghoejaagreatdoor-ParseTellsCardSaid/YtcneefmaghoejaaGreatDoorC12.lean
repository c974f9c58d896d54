/- Parts of the proof. -/
import Derived.Test.YtcneefmaghoejaaGreatDoorC11
namespace Go.Proofs.YtcneefmaghoejaaGreatDoor
open Go.Lib (hid)
open Go.ChangeShapes Go.WideShapes Go.ChangeAt Go.RowKit
set_option linter.unusedVariables false
set_option linter.unusedSimpArgs false
set_option maxHeartbeats 4000000
set_option maxRecDepth 100000
theorem WE (ρ:br)(w:World)(l:bH)(lg dp:Bool)(h:ρ.ij w l lg dp)(IH:Mu ρ (8*l.length+7)):
  Calls Tryz.prog 104 #[ρ.ptr] w (gq ρ w lg dp (az 0) l):=by
 have aF:=h.jt;have hsz:(w.alloc (.cells eK 49)).heap.size=w.heap.size+1:=by simp
 have hb:=ah.then (aa w (.cells eK 49)) (aa _ (.cells (opsV (opsL 0)) 142))
 have yI:=au.new (w.alloc (.cells eK 49)) 142 (opsV (opsL 0));have HQ:=hid ((au.new w 49 eK).alloc (.cells (opsV (opsL 0)) 142));have HD:=hid (bJ.aL h hb);rw[hsz] at yI;have hm:=tL ρ _ l lg dp (h.later hb) 0 119 (enters_of Tryz.func119 (by kernel_rfl) rfl) (fun l' W hl hW=>IH 1 l' W lg dp (by omega) (by omega) hW) (w.heap.size+1) 1 rfl yI (by omega) (by omega);rw[← Mc] at hm;have VH:∀(fn:Fn) (first cap:Array Value) (w:World),(Instr.makeFunc fn first cap).run Tryz.prog w=.ok (.func fn first cap) w:=fun _ _ _ _=>rfl
 have oK:((w.alloc (.cells eK 49)).alloc (.cells (opsV (opsL 0)) 142)).heap.size=w.heap.size+2:=by simp
 rw[show opsV (opsL 0)= #[.string ⟨#[111,114]⟩,.int .u8 17] from rfl] at hm oK;clear h hb yI IH hsz;unfold eK at hm oK;go_enter Tryz.func104,Tryz.ntmps104;go_wp2_with fail;refine hm.mono ?_;clear hm;intro e w2 hp;rcases hp.cases with ⟨t,r,v,aO,rfl,y,rfl,hat,d2⟩|⟨m,ar,rfl,hg⟩
 ·have jf:=hid (HD.out.trans d2);have jN:=hid (d2.blk HQ.out (by omega));have je:=hid (hat.more (show w.heap.size+1≤_ by omega));have oM:=hid aO;clear hp d2 hat aO HQ HD oK;go_wp2_with (first
   |(refine wpList_store_row rfl 49 (.tmp 2) (.tmp 8) rfl w.heap.size (bl y).toArray rfl rfl 49 eK jN.out aR rfl (dM _) ?_
     have HR:=hid (jN.out.row (bl y).toArray)))
  refine bodyPost_ret (v:=ee y) (results_cell_row Tryz.results104 _ _ w.heap.size 49 (bl y).toArray (0,0) _ rfl HR.out Tryz.underlying49 rfl aR) rfl ?_;exact cM aF jf.out je.out oM.out
 ·have HG:=hid HD.out.grown;have HE:=hid ar;clear hp HQ HD oK ar;go_wp2_with fail;exact ag rfl (bY HE.out HG.out hg)
theorem WG (ρ:br)(w:World)(l:bH)(lg dp:Bool)(h:ρ.ij w l lg dp)(IH:Mu ρ (8*l.length+6)):
  Calls Tryz.prog 119 #[ρ.ptr] w (gq ρ w lg dp (az 1) l):=by
 have aF:=h.jt;have hsz:(w.alloc (.cells eK 49)).heap.size=w.heap.size+1:=by simp
 have hb:=ah.then (aa w (.cells eK 49)) (aa _ (.cells (opsV (opsL 1)) 142))
 have yI:=au.new (w.alloc (.cells eK 49)) 142 (opsV (opsL 1));have HQ:=hid ((au.new w 49 eK).alloc (.cells (opsV (opsL 1)) 142));have HD:=hid (bJ.aL h hb);rw[hsz] at yI;have hm:=tL ρ _ l lg dp (h.later hb) 1 136 (enters_of Tryz.func136 (by kernel_rfl) rfl) (fun l' W hl hW=>IH 2 l' W lg dp (by omega) (by omega) hW) (w.heap.size+1) 1 rfl yI (by omega) (by omega);rw[← Md] at hm;have VH:∀(fn:Fn) (first cap:Array Value) (w:World),(Instr.makeFunc fn first cap).run Tryz.prog w=.ok (.func fn first cap) w:=fun _ _ _ _=>rfl
 have oK:((w.alloc (.cells eK 49)).alloc (.cells (opsV (opsL 1)) 142)).heap.size=w.heap.size+2:=by simp
 rw[show opsV (opsL 1)= #[.string ⟨#[97,110,100]⟩,.int .u8 16] from rfl] at hm oK;clear h hb yI IH hsz;unfold eK at hm oK;go_enter Tryz.func119,Tryz.ntmps119;go_wp2_with fail;refine hm.mono ?_;clear hm;intro e w2 hp;rcases hp.cases with ⟨t,r,v,aO,rfl,y,rfl,hat,d2⟩|⟨m,ar,rfl,hg⟩
 ·have jf:=hid (HD.out.trans d2);have jN:=hid (d2.blk HQ.out (by omega));have je:=hid (hat.more (show w.heap.size+1≤_ by omega));have oM:=hid aO;clear hp d2 hat aO HQ HD oK;go_wp2_with (first
   |(refine wpList_store_row rfl 49 (.tmp 2) (.tmp 8) rfl w.heap.size (bl y).toArray rfl rfl 49 eK jN.out aR rfl (dM _) ?_
     have HR:=hid (jN.out.row (bl y).toArray)))
  refine bodyPost_ret (v:=ee y) (results_cell_row Tryz.results119 _ _ w.heap.size 49 (bl y).toArray (0,0) _ rfl HR.out Tryz.underlying49 rfl aR) rfl ?_;exact cM aF jf.out je.out oM.out
 ·have HG:=hid HD.out.grown;have HE:=hid ar;clear hp HQ HD oK ar;go_wp2_with fail;exact ag rfl (bY HE.out HG.out hg)
theorem WH (ρ:br)(w:World)(l:bH)(lg dp:Bool)(h:ρ.ij w l lg dp)(IH:Mu ρ (8*l.length+3)):
  Calls Tryz.prog 153 #[ρ.ptr] w (gq ρ w lg dp (az 4) l):=by
 have aF:=h.jt;have hsz:(w.alloc (.cells eK 49)).heap.size=w.heap.size+1:=by simp
 have hb:=ah.then (aa w (.cells eK 49)) (aa _ (.cells (opsV (opsL 4)) 142))
 have yI:=au.new (w.alloc (.cells eK 49)) 142 (opsV (opsL 4));have HQ:=hid ((au.new w 49 eK).alloc (.cells (opsV (opsL 4)) 142));have HD:=hid (bJ.aL h hb);rw[hsz] at yI;have hm:=tL ρ _ l lg dp (h.later hb) 4 155 (enters_of Tryz.func155 (by kernel_rfl) rfl) (fun l' W hl hW=>IH 5 l' W lg dp (by omega) (by omega) hW) (w.heap.size+1) 2 rfl yI (by omega) (by omega);rw[← Mg] at hm;have VH:∀(fn:Fn) (first cap:Array Value) (w:World),(Instr.makeFunc fn first cap).run Tryz.prog w=.ok (.func fn first cap) w:=fun _ _ _ _=>rfl
 have oK:((w.alloc (.cells eK 49)).alloc (.cells (opsV (opsL 4)) 142)).heap.size=w.heap.size+2:=by simp
 rw[show opsV (opsL 4)= #[.string ⟨#[43]⟩,.int .u8 5,.string ⟨#[45]⟩,.int .u8 6] from rfl] at hm oK;clear h hb yI IH hsz;unfold eK at hm oK;go_enter Tryz.func153,Tryz.ntmps153;go_wp2_with fail;refine hm.mono ?_;clear hm;intro e w2 hp;rcases hp.cases with ⟨t,r,v,aO,rfl,y,rfl,hat,d2⟩|⟨m,ar,rfl,hg⟩
 ·have jf:=hid (HD.out.trans d2);have jN:=hid (d2.blk HQ.out (by omega));have je:=hid (hat.more (show w.heap.size+1≤_ by omega));have oM:=hid aO;clear hp d2 hat aO HQ HD oK;go_wp2_with (first
   |(refine wpList_store_row rfl 49 (.tmp 2) (.tmp 9) rfl w.heap.size (bl y).toArray rfl rfl 49 eK jN.out aR rfl (dM _) ?_
     have HR:=hid (jN.out.row (bl y).toArray)))
  refine bodyPost_ret (v:=ee y) (results_cell_row Tryz.results153 _ _ w.heap.size 49 (bl y).toArray (0,0) _ rfl HR.out Tryz.underlying49 rfl aR) rfl ?_;exact cM aF jf.out je.out oM.out
 ·have HG:=hid HD.out.grown;have HE:=hid ar;clear hp HQ HD oK ar;go_wp2_with fail;exact ag rfl (bY HE.out HG.out hg)
theorem WI (ρ:br)(w:World)(l:bH)(lg dp:Bool)(h:ρ.ij w l lg dp)(IH:Mu ρ (8*l.length+2)):
  Calls Tryz.prog 155 #[ρ.ptr] w (gq ρ w lg dp (az 5) l):=by
 have aF:=h.jt;have hsz:(w.alloc (.cells eK 49)).heap.size=w.heap.size+1:=by simp
 have hb:=ah.then (aa w (.cells eK 49)) (aa _ (.cells (opsV (opsL 5)) 142))
 have yI:=au.new (w.alloc (.cells eK 49)) 142 (opsV (opsL 5));have HQ:=hid ((au.new w 49 eK).alloc (.cells (opsV (opsL 5)) 142));have HD:=hid (bJ.aL h hb);rw[hsz] at yI;have hm:=tL ρ _ l lg dp (h.later hb) 5 160 (enters_of Tryz.func160 (by kernel_rfl) rfl) (fun l' W hl hW=>IH 6 l' W lg dp (by omega) (by omega) hW) (w.heap.size+1) 3 rfl yI (by omega) (by omega);rw[← Mh] at hm;have VH:∀(fn:Fn) (first cap:Array Value) (w:World),(Instr.makeFunc fn first cap).run Tryz.prog w=.ok (.func fn first cap) w:=fun _ _ _ _=>rfl
 have oK:((w.alloc (.cells eK 49)).alloc (.cells (opsV (opsL 5)) 142)).heap.size=w.heap.size+2:=by simp
 rw[show opsV (opsL 5)= #[.string ⟨#[42]⟩,.int .u8 7,.string ⟨#[47]⟩,.int .u8 8,.string ⟨#[37]⟩,.int .u8 9] from rfl] at hm oK;clear h hb yI IH hsz;unfold eK at hm oK;go_enter Tryz.func155,Tryz.ntmps155;go_wp2_with fail;refine hm.mono ?_;clear hm;intro e w2 hp;rcases hp.cases with ⟨t,r,v,aO,rfl,y,rfl,hat,d2⟩|⟨m,ar,rfl,hg⟩
 ·have jf:=hid (HD.out.trans d2);have jN:=hid (d2.blk HQ.out (by omega));have je:=hid (hat.more (show w.heap.size+1≤_ by omega));have oM:=hid aO;clear hp d2 hat aO HQ HD oK;go_wp2_with (first
   |(refine wpList_store_row rfl 49 (.tmp 2) (.tmp 10) rfl w.heap.size (bl y).toArray rfl rfl 49 eK jN.out aR rfl (dM _) ?_
     have HR:=hid (jN.out.row (bl y).toArray)))
  refine bodyPost_ret (v:=ee y) (results_cell_row Tryz.results155 _ _ w.heap.size 49 (bl y).toArray (0,0) _ rfl HR.out Tryz.underlying49 rfl aR) rfl ?_;exact cM aF jf.out je.out oM.out
 ·have HG:=hid HD.out.grown;have HE:=hid ar;clear hp HQ HD oK ar;go_wp2_with fail;exact ag rfl (bY HE.out HG.out hg)
theorem aD (s:List UInt8)(l:bH):gF [s] l=must s l:=by
 show(must s >>= fun _=>pure ()) l=must s l;rw[fw];cases must s l with
 | error n=>rfl
 | ok x=>rfl
theorem Sd {x:Tr} {b:Bool} {l r r1 r2:bH}(h:az 4 l=.ok (x,r))(h1:may pk r=.ok (true,r1))(h2:may kD r1=.ok (b,r2)):(∀r3,must cE r2=.ok ((),r3)→vG (az 4) l=.ok (lI (if b then 19 else 18) [x],r3))∧(∀n,must cE r2=.error n→vG (az 4) l=.error n):=by unfold vG;rw[ak h,ak h1];simp only[if_true];rw[ak h2];exact⟨fun r3 h3=>by rw[ak h3];rfl,fun n h3=>ai h3⟩
theorem I0 {x:Tr} {l r r1:bH}(h:az 4 l=.ok (x,r))(h1:may pk r=.ok (false,r1)):vG (az 4) l=rN (az 4) x r1:=by unfold vG;rw[ak h,ak h1];rfl
structure nh (ρ:br) (w:World) (lg dp:Bool) (q qx:Nat) (wr:World) (l':bH) (t:Tr) (y:Ex):Prop where
 did:bJ ρ w wr l' lg dp
 blk:au wr qx 49 (bl y).toArray
 res:au wr q 49 eK
 tr:t.at_ wr (Bx (q+1) qx wr) y
section
variable {ρ:br} {w wr w':World} {lg dp:Bool} {q qx:Nat} {l' l2:bH} {t:Tr} {y:Ex}
theorem nh.later (A:nh ρ w lg dp q qx wr l' t y)(h:Below wr.heap.size wr w'):nh ρ w lg dp q qx w' l' t y:=⟨A.did.later h,A.blk.later h,A.res.later h,Tr.at_.keep (eu h) _ _ A.tr⟩
theorem nh.go (A:nh ρ w lg dp q qx wr l' t y)(d:bJ ρ wr w' l2 lg dp)(hq:ρ.g < q)(Df:ρ.g < qx):nh ρ w lg dp q qx w' l2 t y:=⟨A.did.trans d,d.blk A.blk (by omega),d.blk A.res (by omega),Tr.at_.keep (eL d.grown (by omega)) _ _ A.tr⟩
end
theorem aaN (ρ:br)(w:World)(l:bH)(lg dp:Bool)(h:ρ.ij w l lg dp)(IH:Mu ρ (8*l.length+4)):
  Calls Tryz.prog 148 #[ρ.ptr] w (gq ρ w lg dp (az 3) l):=by
 have aF:=h.jt;have hb:=aa w (.cells eK 49);have HQ:=hid (au.new w 49 eK);have HD:=hid (bJ.aL h hb);have hsz:(w.alloc (.cells eK 49)).heap.size=w.heap.size+1:=by simp
 have hm:=IH 4 l _ lg dp (by omega) (by omega) (h.later hb);rw[Mf];clear h hb;unfold eK at hm hsz;go_enter Tryz.func148,Tryz.ntmps148;go_wp2_with fail;refine hm.mono ?_;clear hm;intro e w2 hp;rcases hp.cases with ⟨t,r,v,aO,rfl,y,rfl,hat,d2⟩|⟨m,ar,rfl,hg⟩;case inr=>have HG:=hid HD.out.grown;have HE:=hid ar;clear hp HQ HD IH hsz ar;go_wp2_with fail;exact ag rfl (bY (ai HE.out) HG.out hg)
 have hs2:w.heap.size+1≤w2.heap.size:=by have:=d2.size;omega
 have hA:nh ρ w lg dp w.heap.size w2.heap.size (w2.alloc (.cells (bl y).toArray 49)) r t y:=
  ⟨(HD.out.trans d2).later (aa _ _),au.new w2 _ _,(d2.blk HQ.out (by omega)).alloc _,Tr.at_.keep (qC _ (by omega)) _ _ hat⟩
 have HA:=hid hA;have oM:=hid aO;have oI:=(cI 4).len aO;clear hA hp hat d2 aO HQ HD hsz;unfold ee bl at*;go_upto_region 2 with fail
 generalize w2.alloc _=W at*;generalize w2.heap.size=qx at*;have hm:=bX ρ W r lg dp HA.out.did.at_ ⟨#[105,115]⟩;rw[show(⟨#[105,115]⟩:ByteArray).data.toList=pk from rfl] at hm;cases hh:av pk r
 ·rw[hh,dm hh] at hm;have HNO:=hid (I0 oM.out (by rw[rV,hh,dm hh]));clear hh;go_wp2_with fail;refine hm.mono ?_;clear hm;rintro e w3 ⟨rfl,d3⟩;have dw:=(HA.out.go d3 (by omega) (by omega)).later (aa w3 (.cells (opsV (opsL 3)) 142));have mD:=hid dw;have hs3:w.heap.size+1≤w3.heap.size:=by have:=HA.out.did.size;have:=HA.out.blk.lt;have:=d3.size;omega
  have hqo:qx < w3.heap.size:=Nat.lt_of_lt_of_le HA.out.blk.lt d3.size;have HO:=hid (au.new w3 142 (opsV (opsL 3)));rw[show opsV (opsL 3)= #[.string ⟨#[61]⟩,.int .u8 10,.string ⟨#[60,62]⟩,.int .u8 11,.string ⟨#[60]⟩,.int .u8 12,.string ⟨#[60,61]⟩,.int .u8 13,.string ⟨#[62]⟩,.int .u8 14,.string ⟨#[62,61]⟩,.int .u8 15] from rfl] at mD HO;clear dw d3 HA;go_upto_region 9 with fail
  generalize w3.alloc _=W3 at*;generalize w3.heap.size=ob at*;go_loopw [28] (fun u wr=>∃i:Nat,i≤6∧u=.int .i64 i∧nh ρ w lg dp w.heap.size qx wr r t y∧au wr ob 142 (opsV (opsL 3))∧gT (opsL 3) r=gT ((opsL 3).drop i) r) (fun u _=>6 - (intOf u).toNat);case atStart=>exact⟨0,Nat.zero_le _,rfl,mD.out,HO.out,rfl⟩
  case round=>
   obtain⟨i,hi,rfl,eA,hO4,hst⟩:=hrel;have qs:=hid eA;have HO4:=hid hO4;have HS:=hid hst;clear eA hO4 hst mD HO;have zj:=qs.out.blk.lt;have how:=HO4.out.lt;by_cases hlt:i < 6
   ·obtain⟨⟨s,o⟩,hs⟩:∃x,(opsL 3)[i]?=some x:=⟨_,List.getElem?_eq_getElem (show i <(opsL 3).length from hlt)⟩;obtain⟨c0,c1⟩:=Aq HO4.out hs;have ya:=hid (pR hs);clear hs;have I1:=aa wr (.cells #[.string ⟨s.toArray⟩,.int .u8 o] 142);have HN:=hid (au.new wr 142 #[.string ⟨s.toArray⟩,.int .u8 o]);have zo:=hid (qs.out.later I1);have HO6:=hid (HO4.out.later I1);have hm:=bX ρ _ r lg dp (qs.out.did.at_.later I1) ⟨s.toArray⟩;rw[show(⟨s.toArray⟩:ByteArray).data.toList=s by simp] at hm;clear I1;cases hh:av s r
    ·have lB:=hid hh;rw[hh,dm hh] at hm;clear hh;go_wp2_with fail;refine hm.mono ?_;clear hm;rintro e w4 ⟨rfl,d4⟩;go_wp2_with fail;go_roundw;case rel=>exact⟨i+1,by omega,by go_num,zo.out.go d4 (by omega) (by omega),d4.blk HO6.out (by omega),by rw[HS.out,ya.out,Mw lB.out]⟩
     case measure=>simp[intOf];omega
    ·have Sc:=hid (show gT (opsL 3) r=some o by rw[HS.out,ya.out,GX hh]);have hhl:=om hh;rw[hh,dy hh] at hm;clear hh;go_wp2_with fail;refine hm.mono ?_;clear hm;rintro e w4 ⟨rfl,d4⟩;have hnw:wr.heap.size≠ρ.g:=by omega
     have BZ:=hid (zo.out.go d4 (by omega) (by omega));have HN8:=hid (d4.blk HN.out hnw);have hnx:wr.heap.size≠qx:=by omega
     clear zo HO6 HN qs HO4 HS ya d4 c0 c1;generalize wr.heap.size=nb at*;have Aw:=hid (show∀w' w'',(au w' qx 49 (bl y).toArray∧w'.cell? ⟨nb,1,none⟩=some (.int .u8 o))→ah w' w''→(au w'' qx 49 (bl y).toArray∧w''.cell? ⟨nb,1,none⟩=some (.int .u8 o))from fun w' w'' hh hl=>⟨hh.1.later hl,(hl.cell (ay hh.2)).trans hh.2⟩);have HC:=hid (show w4.cell? ⟨nb,1,none⟩=some (.int .u8 o)from HN8.out.cell 1);cases mC:az 4 r.tail with
     | ok x=>
       obtain⟨t2,r2⟩:=x;have vw:=hid mC;have fQ:=hid (show vG (az 4) l=.ok (lI o [t,t2],r2) by rw[HNO.out];unfold rN;rw[Sc.out];simp only;rw[ak mC];rfl);clear mC;go_wp2_with fail;refine EZ (P:=Tryz.prog) (H:=fun W=>au W qx 49 (bl y).toArray∧W.cell? ⟨nb,1,none⟩=some (.int .u8 o)) (val:=ee) (e:=49) (k:=2) (cs:=fun z=>(bl y++bl z).toArray) (bv:=fun _ s=> .agg #[.int .u8 o,.int .u8 0,.int .i64 0,.string ⟨#[]⟩,.string ⟨#[]⟩,.int .i64 0,s]) (Post:=fun z W W'=>t2.at_ W' (eD W.heap.size W') z∧bJ ρ W W' r2 lg dp) (w0:=w4) (s0:=6) (s1:=3) (s2:=0) (d0:=36) (d1:=37) (d2:=38) (d3:=39) (d4:=40) (d5:=41) (d6:=42) (vs0:=.pointer (some ⟨nb,0,none⟩)) (vs1:=.pointer (some ⟨qx,0,none⟩)) (vs2:=ρ.ptr) (u0:=.pointer (some ⟨nb,1,none⟩)) (u1:=.int .u8 o) (u2:=ee y) (u3:=ρ.ptr) (F:=153) (args:= #[ρ.ptr]) (by kernel_rfl) (by kernel_rfl) (by kernel_rfl) (by kernel_rfl) rfl rfl rfl ⟨BZ.out.blk,HC.out⟩ Aw.out ?_ ?_ ?_ ?_ ?_ ?_ ?_ (by kernel_rfl) ?_ ?_ ?_
       ·intro ρ' w' hH hc h';simp[go_sem,h']
       ·intro ρ' w' hH hc h';simp[go_sem,h',hH.2]
       ·intro ρ' w' hH hc h';exact nE rfl h' hH.1 Tryz.underlying49 rfl aR
       ·intro ρ' w' hH hc h';simp[go_sem,h']
       ·intro ρ' w' hc h';simp[go_sem,h',hc.const,hc.func]
       ·intro ρ' w' z h' jH;simp[go_sem,h',jH,ee,bl]
       ·intro ρ' w' z g0' h' jH;simp[go_sem,h',jH]
       ·rintro z w' w'' ⟨hh1,hh2⟩ ⟨_,dd⟩;exact⟨hh1.grown dd.grown (by simp;omega),(cell_of_heap (dd.grown.block nb (ay hh2) (by simp;omega)) _).trans hh2⟩
       ·intro w' hw';refine(IH 4 r.tail w' lg dp (by omega) (by omega) (BZ.out.did.at_.later hw')).mono ?_;intro e w'' hp;rcases hp.cases with ⟨t3,r3,v,aO,rfl,z,rfl,hat,d2⟩|⟨m,ar,_⟩
        ·rw[vw.out] at aO;injection aO with aO;injection aO with h1 h2;subst h1 h2;exact⟨z,rfl,hat,d2⟩
        ·rw[vw.out] at ar;cases ar
       intro z g0 W1 WC W2 eU ⟨zm,d2⟩ hl2 hN hg0;have kz:=((BZ.out.later eU).go d2 (by omega) (by omega)).later hl2;have sf:=hN.lt;have hz3:=d2.size;have hz2:w4.heap.size≤W1.heap.size:=eU.size;have hz4:WC.heap.size≤W2.heap.size:=hl2.size;have hq4:=BZ.out.blk.lt;have hQ4:=BZ.out.res.lt;have hT:=Ey (S:=Bx (w.heap.size+1) qx W2) o hN ⟨by omega,sf,by omega⟩ kz.tr (Tr.at_.keep (Gx (by omega) (by omega)) _ _ (zm.later hl2));have HT:=hid (Tr.at_.keep (ir (Nat.le_refl _)) _ _ hT);have gG:=hid kz;clear kz hT eU zm d2 hl2 hN hg0 Sc Aw HC HN8 BZ sf hz3 hz2 hz4;simp only[Act.put,List.setIfInBounds_toArray,List.set_cons_succ,List.set_cons_zero];go_wp2_with (first
        |(refine wpList_store_row rfl 49 (.tmp 2) (.tmp 42) rfl w.heap.size (bl (nU o g0 2)).toArray rfl rfl 49 eK gG.out.res aR rfl (dM _) ?_
          have HR:=hid (gG.out.res.row (bl (nU o g0 2)).toArray)))
       refine bodyPost_ret (v:=ee (nU o g0 2)) (results_cell_row Tryz.results148 _ _ w.heap.size 49 (bl (nU o g0 2)).toArray (0,0) _ rfl HR.out Tryz.underlying49 rfl aR) rfl ?_;exact cM aF gG.out.did HT.out fQ.out
     | error m=>
       have vw:=hid mC;have fQ:=hid (show vG (az 4) l=.error m by rw[HNO.out];unfold rN;rw[Sc.out];simp only;rw[ai mC]);clear mC;go_wp2_with fail;refine uV (P:=Tryz.prog) (H:=fun W=>au W qx 49 (bl y).toArray∧W.cell? ⟨nb,1,none⟩=some (.int .u8 o)) (E:=fun C W=>C=[qG (ρ.placeOf m)]∧w.grownBy W (some ρ.g)) (w0:=w4) (s0:=6) (s1:=3) (s2:=0) (d0:=36) (d1:=37) (d2:=38) (d3:=39) (d4:=40) (d5:=41) (d6:=42) (vs0:=.pointer (some ⟨nb,0,none⟩)) (vs1:=.pointer (some ⟨qx,0,none⟩)) (vs2:=ρ.ptr) (u0:=.pointer (some ⟨nb,1,none⟩)) (u1:=.int .u8 o) (u2:=ee y) (u3:=ρ.ptr) (F:=153) (args:= #[ρ.ptr]) (by kernel_rfl) (by kernel_rfl) (by kernel_rfl) (by kernel_rfl) rfl rfl rfl ⟨BZ.out.blk,HC.out⟩ Aw.out ?_ ?_ ?_ ?_ ?_ (by kernel_rfl) ?_ ?_
       ·intro ρ' w' hH hc h';simp[go_sem,h']
       ·intro ρ' w' hH hc h';simp[go_sem,h',hH.2]
       ·intro ρ' w' hH hc h';exact nE rfl h' hH.1 Tryz.underlying49 rfl aR
       ·intro ρ' w' hH hc h';simp[go_sem,h']
       ·intro ρ' w' hc h';simp[go_sem,h',hc.const,hc.func]
       ·intro w' hw';refine(IH 4 r.tail w' lg dp (by omega) (by omega) (BZ.out.did.at_.later hw')).mono ?_;intro e w'' hp;rcases hp.cases with ⟨t3,r3,v,aO,_⟩|⟨m',ar,rfl,hg⟩
        ·rw[vw.out] at aO;cases aO
        ·rw[vw.out] at ar;injection ar with ar;subst ar;exact⟨_,rfl,rfl,af (BZ.out.did.later hw').grown hg⟩
       ·rintro C a W hd ⟨rfl,hg⟩;have hE:=bY (lg:=lg) (dp:=dp) fQ.out (aH (Below.refl _ _)) hg;simp only[Exit.inBlock,Exit.then];exact ag (P:=Tryz.prog) (fn:=Tryz.f148) hd hE
   ·obtain rfl:i=6:=by omega
    have fQ:=hid (show vG (az 4) l=.ok (t,r) by rw[HNO.out];unfold rN;rw[HS.out];rfl);have HT:=hid (Tr.at_.keep (ir (Nat.le_refl _)) _ _ qs.out.tr);go_wp2_with (first
     |(refine wpList_load_row rfl 49 (.tmp 3) rfl qx rfl 49 (bl y).toArray (0,0) _ qs.out.blk Tryz.underlying49 rfl aR ?_)
     |(refine wpList_store_row rfl 49 (.tmp 2) (.tmp 44) rfl w.heap.size (bl y).toArray rfl rfl 49 eK qs.out.res aR rfl (dM _) ?_
       have HR:=hid (qs.out.res.row (bl y).toArray)))
    refine bodyPost_ret (v:=ee y) (results_cell_row Tryz.results148 _ _ w.heap.size 49 (bl y).toArray (0,0) _ rfl HR.out Tryz.underlying49 rfl aR) rfl ?_;exact cM aF qs.out.did HT.out fQ.out
 ·rw[hh,dy hh] at hm;have HI:=hid (show may pk r=.ok (true,r.tail) by rw[rV,hh,dy hh]);clear hh IH;go_wp2_with fail;refine hm.mono ?_;clear hm;rintro e w3 ⟨rfl,d3⟩;have mD:=hid (HA.out.go d3 (by omega) (by omega));clear HA d3;generalize r.tail=r1 at*;have hm:=bX ρ w3 r1 lg dp mD.out.did.at_ ⟨#[110,111,116]⟩;rw[show(⟨#[110,111,116]⟩:ByteArray).data.toList=kD from rfl] at hm;cases hh:av kD r1
  ·rw[hh,dm hh] at hm;have HC:=hid (Sd oM.out HI.out (show may kD r1=.ok (false,r1) by rw[rV,hh,dm hh]));clear hh;go_wp2_with fail;refine hm.mono ?_;clear hm;rintro e w4 ⟨rfl,d4⟩;have hb4:=aa w4 (.cells (aj [cE]) 9);have qs:=hid ((mD.out.go d4 (by omega) (by omega)).later hb4);have hw4:ρ.g < w4.heap.size:=(mD.out.go d4 (by omega) (by omega)).did.lt;clear mD d4 hb4;have hm:=bF ρ _ _ lg dp qs.out.did.at_ [cE] w4.heap.size 1 rfl (au.new w4 _ _) (by omega) (by omega);unfold aj strOf at hm;simp only[List.map_cons,List.map_nil] at hm;have hwn:cE.toArray= #[110,117,108,108]:=rfl;rw[hwn] at hm;go_wp2_with fail;refine hm.mono ?_;clear hm;intro e w5 hp;rcases hp.cases with ⟨_,r3,v,aO,rfl,rfl,d5⟩|⟨m,ar,rfl,hg⟩
   ·have ky:must cE r1=.ok ((),r3):=by rw[← aD];exact aO
    have fQ:=hid (HC.out.1 r3 ky);have hb5:=aa w5 (.cells (bl y).toArray 49);have uz:=qs.out.go d5 (by omega) (by omega);have Cq:=hid uz;have I2:=uz.later hb5;have hs6:=uz.blk.lt;have hq6:=uz.res.lt;have hT:=rL (S:=Bx (w.heap.size+1) qx (w5.alloc (.cells (bl y).toArray 49))) 18 (au.new w5 49 (bl y).toArray) ⟨by omega,by simp,by omega⟩ I2.tr;have HT:=hid (Tr.at_.keep (ir (Nat.le_refl _)) _ _ hT);have zo:=hid I2;clear hp aO ky hb5 uz I2 hT qs d5 HC;unfold bl at HT zo Cq;go_wp2_with (first
     |(refine wpList_load_row rfl 49 (.tmp 3) rfl qx rfl 49 (bl y).toArray (0,0) _ Cq.out.blk Tryz.underlying49 rfl aR ?_
       unfold bl)
     |(refine wpList_store_row rfl 49 (.tmp 2) (.tmp 19) rfl w.heap.size (bl (nU 18 w5.heap.size 1)).toArray rfl rfl 49 eK zo.out.res aR rfl (dM _) ?_
       have HR:=hid (zo.out.res.row (bl (nU 18 w5.heap.size 1)).toArray)))
    refine bodyPost_ret (v:=ee (nU 18 w5.heap.size 1)) (results_cell_row Tryz.results148 _ _ w.heap.size 49 (bl (nU 18 w5.heap.size 1)).toArray (0,0) _ rfl HR.out Tryz.underlying49 rfl aR) rfl ?_;exact cM aF zo.out.did HT.out fQ.out
   ·have ky:must cE r1=.error m:=by rw[← aD];exact ar
    have fQ:=hid (HC.out.2 m ky);have HG:=hid qs.out.did.grown;clear hp ar ky qs HC;go_wp2_with fail;exact ag rfl (bY fQ.out HG.out hg)
  ·rw[hh,dy hh] at hm;have HC:=hid (Sd oM.out HI.out (show may kD r1=.ok (true,r1.tail) by rw[rV,hh,dy hh]));clear hh;go_wp2_with fail;refine hm.mono ?_;clear hm;rintro e w4 ⟨rfl,d4⟩;have hb4:=aa w4 (.cells (aj [cE]) 9);have qs:=hid ((mD.out.go d4 (by omega) (by omega)).later hb4);have hw4:ρ.g < w4.heap.size:=(mD.out.go d4 (by omega) (by omega)).did.lt;clear mD d4 hb4;have hm:=bF ρ _ _ lg dp qs.out.did.at_ [cE] w4.heap.size 1 rfl (au.new w4 _ _) (by omega) (by omega);unfold aj strOf at hm;simp only[List.map_cons,List.map_nil] at hm;have hwn:cE.toArray= #[110,117,108,108]:=rfl;rw[hwn] at hm;go_wp2_with fail;refine hm.mono ?_;clear hm;intro e w5 hp;rcases hp.cases with ⟨_,r3,v,aO,rfl,rfl,d5⟩|⟨m,ar,rfl,hg⟩
   ·have ky:must cE r1.tail=.ok ((),r3):=by rw[← aD];exact aO
    have fQ:=hid (HC.out.1 r3 ky);have hb5:=aa w5 (.cells (bl y).toArray 49);have uz:=qs.out.go d5 (by omega) (by omega);have Cq:=hid uz;have I2:=uz.later hb5;have hs6:=uz.blk.lt;have hq6:=uz.res.lt;have hT:=rL (S:=Bx (w.heap.size+1) qx (w5.alloc (.cells (bl y).toArray 49))) 19 (au.new w5 49 (bl y).toArray) ⟨by omega,by simp,by omega⟩ I2.tr;have HT:=hid (Tr.at_.keep (ir (Nat.le_refl _)) _ _ hT);have zo:=hid I2;clear hp aO ky hb5 uz I2 hT qs d5 HC;unfold bl at HT zo Cq;go_wp2_with (first
     |(refine wpList_load_row rfl 49 (.tmp 3) rfl qx rfl 49 (bl y).toArray (0,0) _ Cq.out.blk Tryz.underlying49 rfl aR ?_
       unfold bl)
     |(refine wpList_store_row rfl 49 (.tmp 2) (.tmp 19) rfl w.heap.size (bl (nU 19 w5.heap.size 1)).toArray rfl rfl 49 eK zo.out.res aR rfl (dM _) ?_
       have HR:=hid (zo.out.res.row (bl (nU 19 w5.heap.size 1)).toArray)))
    refine bodyPost_ret (v:=ee (nU 19 w5.heap.size 1)) (results_cell_row Tryz.results148 _ _ w.heap.size 49 (bl (nU 19 w5.heap.size 1)).toArray (0,0) _ rfl HR.out Tryz.underlying49 rfl aR) rfl ?_;exact cM aF zo.out.did HT.out fQ.out
   ·have ky:must cE r1.tail=.error m:=by rw[← aD];exact ar
    have fQ:=hid (HC.out.2 m ky);have HG:=hid qs.out.did.grown;clear hp ar ky qs HC;go_wp2_with fail;exact ag rfl (bY fQ.out HG.out hg)
open Go.Shelf
def oo:List (List UInt8×Value)→Nat→List MapEntry
 | [],_=> []
 | x::l,i=>⟨.string ⟨x.1.toArray⟩,x.2,i⟩::oo l (i+1)
theorem Ax (x:List UInt8×Value):∀(l:List (List UInt8×Value)) (i:Nat),oo (l++ [x]) i=oo l i++ [⟨.string ⟨x.1.toArray⟩,x.2,i+l.length⟩]
 | [],i=>rfl
 | y::l,i=>by simp only[List.cons_append,oo,Ax x l (i+1),List.length_cons];rw[show i+1+l.length=i+(l.length+1) by omega]
theorem Kr (k:ByteArray):∀(l:List (List UInt8×Value)) (i j:Nat),match l.lookup k.data.toList with
  | some v=>∃n,Instr.findNow .string (.string k) (oo l i) j=some (some (n,v))
  | none=>Instr.findNow .string (.string k) (oo l i) j=some none
 | [],i,j=>by simp[oo,Instr.findNow]
 |(x,v)::l,i,j=>by
  have ih:=Kr k l (i+1) (j+1);have e:Instr.sameNow .string (.string k) (.string ⟨x.toArray⟩)=some (k.data.toList==x):=by show some (k==(⟨x.toArray⟩:ByteArray))=_;rw[bytes_beq]
  rw[List.lookup_cons];cases hx:(k.data.toList==x)
  ·have e2:Instr.findNow .string (.string k) (oo ((x,v)::l) i) j=Instr.findNow .string (.string k) (oo l (i+1)) (j+1):=by simp only[oo,Instr.findNow,e,hx]
   simp only[e2];exact ih
  ·simp only;exact⟨j,by simp only[oo,Instr.findNow,e,hx]⟩
def lV (w:World)(g:Nat)(l:List (List UInt8×Value)):Prop:=w.heap[g]?=some (.map (oo l 0).toArray l.length)
section
variable {P:Program} {T K V:TypeId} (hT:P.underlying T=some (.map K V)) (hK:P.underlying K=some .string)
include hT hK
theorem Oz {w:World} {g:Nat} {l:List (List UInt8×Value)}(hg:lV w g l) {x:List UInt8} {v:Value}(hx:l.lookup x=none):
  (Instr.mapUpdate T (.map (some g)) (.string ⟨x.toArray⟩) v).run P w=.ok () (lS w g (oo (l++ [(x,v)]) 0).toArray (l.length+1)):=by
 have hf:=Kr ⟨x.toArray⟩ l 0 0;rw[show(⟨x.toArray⟩:ByteArray).data.toList=x by simp,hx] at hf;have hk:∀e (k:ByteArray) (w:World),(Instr.checkKey e 10000 K (.string k)).run P w=.ok () w:=fun e k w=>MapKept.run_checkKey hK (by simp[MapKept.IsKey]) e 9999
 unfold Instr.mapUpdate;simp only[Sem.run_bind,run_underlying hT,Result.andThen_ok,MapKept.run_getObj_map hg,hk,Instr.findKey,run_underlying hK,hf,Sem.run_pure,MapKept.run_setObj_map _ hg];rw[Ax];simp[lS]
theorem Ks {w:World} {g:Nat} {l:List (List UInt8×Value)}(hg:lV w g l)(k:ByteArray) {z:Value}(hz:∀w:World,(zeroValue V).run P w=.ok z w):
  (Instr.lookup T (.map (some g)) (.string k) false).run P w=.ok ((l.lookup k.data.toList).getD z) w:=by
 have hf:=Kr k l 0 0;have hk:∀e (k:ByteArray) (w:World),(Instr.checkKey e 10000 K (.string k)).run P w=.ok () w:=fun e k w=>MapKept.run_checkKey hK (by simp[MapKept.IsKey]) e 9999
 unfold Instr.lookup;cases hc:l.lookup k.data.toList with
 | none=>rw[hc] at hf;simp only[Sem.run_bind,run_underlying hT,Result.andThen_ok,MapKept.run_getObj_map hg,hk,Instr.findKey,run_underlying hK,hf,Sem.run_pure,hz];rfl
 | some v=>rw[hc] at hf;obtain⟨n,hf⟩:=hf;simp only[Sem.run_bind,run_underlying hT,Result.andThen_ok,MapKept.run_getObj_map hg,hk,Instr.findKey,run_underlying hK,hf,Sem.run_pure];rfl
omit hT hK in
theorem Fe (w:World)(g:Nat)(es:Array MapEntry)(c:Nat):w.grownBy (lS w g es c) (some g):=
 ⟨rfl,rfl,rfl,by simp[lS],fun i hi hne=>Ah es c (fun e=>hne (by rw[e]))⟩
omit hT hK in
theorem lV.new (w:World):lV (w.alloc (.map #[] 0)) w.heap.size []:=heap_alloc_new w _
variable {ops:Array Oper} {rest:List Oper} {o:Oper} {a:Act} {w:World} {Q:Exit→Act→World→Prop}
theorem bV (hgd:o.guard=none)(m x y:Operand)(ho:o.op=.insert T m x y)(g:Nat)(hm:a.eval m=.map (some g))(k:List UInt8)(hx:a.eval x=.string ⟨k.toArray⟩)(v:Value)(hv:a.eval y=v) {l:List (List UInt8×Value)}(hM:lV w g l)(hl:l.lookup k=none)
  (h:∀w',lV w' g (l++ [(k,v)])→w.grownBy w' (some g)→wpList P ops Q rest (a.put o.dst undef) w'):wpList P ops Q (o::rest) a w:=
 wpList_plain hgd fun K hKK=>by
  unfold Oper.wp execOp;simp only[ho,hm,hx,hv,Sem.run_bind,Oz hT hK hM hl,Result.andThen_ok];have hM2:lV (lS w g (oo (l++ [(k,v)]) 0).toArray (l.length+1)) g (l++ [(k,v)]):=by have:=CX (es':=(oo (l++ [(k,v)]) 0).toArray) (c':=l.length+1) hM;unfold lV;rw[List.length_append,List.length_singleton];exact this
  exact hKK _ _ (h _ hM2 (Fe _ _ _ _))
omit hT hK in
theorem iw (hgd:o.guard=none)(T:TypeId)(ho:o.op=.makeMap T none)(h:wpList P ops Q rest (a.put o.dst (.map (some w.heap.size))) (w.alloc (.map #[] 0))):wpList P ops Q (o::rest) a w:=
 wpList_plain hgd fun K hKK=>by unfold Oper.wp execOp;simp only[ho,Option.map_none,Sem.run_bind,run_makeMap,Result.andThen_ok];exact hKK _ _ h
theorem gH (hgd:o.guard=none)(m x:Operand)(ho:o.op=.lookup T m x false)(g:Nat)(hm:a.eval m=.map (some g))(k:ByteArray)(hx:a.eval x=.string k) {l:List (List UInt8×Value)}(hM:lV w g l) {z:Value}(hz:∀w:World,(zeroValue V).run P w=.ok z w)
  (h:wpList P ops Q rest (a.put o.dst ((l.lookup k.data.toList).getD z)) w):wpList P ops Q (o::rest) a w:=
 wpList_plain hgd fun K hKK=>by unfold Oper.wp execOp;simp only[ho,hm,hx,Sem.run_bind,Ks hT hK hM k hz,Result.andThen_ok];exact hKK _ _ h
end
theorem Ay {lv:Nat}(h:lv=0∨lv=1∨lv=4∨lv=5):az lv=lY (az (lv+1)) lv:=by
 rcases h with rfl | rfl | rfl | rfl
 ·exact Mc
 ·exact Md
 ·exact Mg
 ·exact Mh
theorem Hi {lv:Nat} {l:bH} {o:Int}(h:gT (opsL lv) l=some o):5≤o∧o≤17∧∃s,av s l=true:=by
 obtain⟨s,h1,h2⟩:=kf h;refine⟨?_,?_,s,h2⟩
 ·match lv,h1 with
  | 0,h1=>simp[opsL] at h1;omega
  | 1,h1=>simp[opsL] at h1;omega
  | 2,h1=>simp[opsL] at h1
  | 3,h1=>simp[opsL] at h1;omega
  | 4,h1=>simp[opsL] at h1;omega
  | 5,h1=>simp[opsL] at h1;omega
  | _+6,h1=>simp[opsL] at h1
 ·match lv,h1 with
  | 0,h1=>simp[opsL] at h1;omega
  | 1,h1=>simp[opsL] at h1;omega
  | 2,h1=>simp[opsL] at h1
  | 3,h1=>simp[opsL] at h1;omega
  | 4,h1=>simp[opsL] at h1;omega
  | 5,h1=>simp[opsL] at h1;omega
  | _+6,h1=>simp[opsL] at h1
structure ni (lv:Nat) (σ:aW) (x:Tr) (bU:aW):Prop where
 step:ae (az lv) σ=ae (rQ (az (lv+1)) lv x) bU
 gives:∀z,aK (rQ (az (lv+1)) lv x) bU z→aK (az lv) σ z
section
variable {lv:Nat} {σ bU:aW} {x y:Tr} {o:Int}
theorem ni.start (hlv:lv=0∨lv=1∨lv=4∨lv=5)(h:aK (az (lv+1)) σ x):ni lv σ x (ae (az (lv+1)) σ):=by
 refine⟨?_,fun z hz=>?_⟩
 ·rw[Ay hlv,EF];exact aI h
 ·rw[Ay hlv,EF];exact aC h hz
theorem ni.go (k:ni lv σ x bU)(h:bU.op lv=some o)(hy:aK (az (lv+1)) (.good bU.words.tail) y):ni lv σ (lI o [x,y]) (ae (az (lv+1)) (.good bU.words.tail)):=by
 refine⟨?_,fun z hz=>k.gives z ?_⟩
 ·rw[k.step,CV (cI _),h];exact aI hy
 ·exact yG (cI _) lv x z o bU h (aC hy hz)
theorem ni.done (k:ni lv σ x bU)(h:bU.op lv=none):ae (az lv) σ=bU∧aK (az lv) σ x:=by refine⟨?_,k.gives x (yF (cI _) lv x bU h)⟩;rw[k.step,CV (cI _),h]
theorem Kt (lv n:Nat):(aW.bad n).op lv=none:=oa _
end
def Ku (x:Tr):Ps Tr:=do
 if ← may pk then
  let n ← may kD
  must cE
  return lI (if n then 19 else 18) [x]
 else rN (az 4) x
structure lZ (σ:aW) (x:Tr) (bU:aW):Prop where
 step:ae (az 3) σ=ae (Ku x) bU
 gives:∀z,aK (Ku x) bU z→aK (az 3) σ z
section
variable {σ bU:aW} {x y:Tr} {o:Int}
theorem lZ.start (h:aK (az 4) σ x):lZ σ x (ae (az 4) σ):=by
 have e:az 3=(do let x ← az 4;Ku x):=by rw[Mf];rfl
 refine⟨?_,fun z hz=>?_⟩
 ·rw[e];exact aI h
 ·rw[e];exact aC h hz
theorem lZ.null (k:lZ σ x bU)(h:bU.head pk=true):ae (az 3) σ=ae (must cE) (ae (may kD) (.good bU.words.tail))∧aK (az 3) σ (lI (if (aW.good bU.words.tail).head kD then 19 else 18) [x]):=by
 constructor
 ·rw[k.step];unfold Ku;rw[aI (bj pk bU),h,aP h];simp only[if_true];rw[aI (bj kD _)];rw[aI (aJ _ _)];exact cr _ _
 ·refine k.gives _ ?_;refine aC (bj pk bU) ?_;rw[h,aP h];refine aC (bj kD _) ?_;exact aC (aJ _ _) (bM _ _)
theorem Az (h:bU.head pk=false):ae (Ku x) bU=ae (rN (az 4) x) bU∧∀z,aK (rN (az 4) x) bU z→aK (Ku x) bU z:=by
 constructor
 ·unfold Ku;rw[aI (bj pk bU),h,aG h];rfl
 ·intro z hz;refine aC (bj pk bU) ?_;rw[h,aG h];exact hz
theorem lZ.none_ (k:lZ σ x bU)(h:bU.head pk=false)(ho:bU.op 3=none):ae (az 3) σ=bU∧aK (az 3) σ x:=by
 obtain⟨h1,h2⟩:=Az (x:=x) h;rw[k.step,h1]
 match bU,ho with
 | .bad n,_=>exact⟨rfl,k.gives _ trivial⟩
 | .good l,ho=>have ho:gT (opsL 3) l=none:=ho;refine⟨by simp only[ae,rN,ho],k.gives _ (h2 _ ?_)⟩;simp only[aK,rN,ho]
theorem lZ.some_ (k:lZ σ x bU)(h:bU.head pk=false)(ho:bU.op 3=some o)(hy:aK (az 4) (.good bU.words.tail) y):ae (az 3) σ=ae (az 4) (.good bU.words.tail)∧aK (az 3) σ (lI o [x,y]):=by
 obtain⟨h1,h2⟩:=Az (x:=x) h;rw[k.step,h1]
 match bU,ho with
 | .bad n,ho=>simp[aW.op,aW.words,oa] at ho
 | .good l,ho=>
   have ho:gT (opsL 3) l=some o:=ho;refine⟨?_,k.gives _ (h2 _ ?_)⟩
   ·simp only[ae,rN,ho,fw,aW.words];cases az 4 l.tail with
    | error n=>rfl
    | ok y=>rfl
   ·simp only[aW.words,aK] at hy;simp only[aK,rN,ho,fw];cases e:az 4 l.tail with
    | error n=>trivial
    | ok y=>rw[e] at hy;simp only at hy;subst hy;rfl
end
theorem Sg (n:Nat):ae (az 7) (.bad n)=.bad n:=rfl
section
variable {t:Wd} {r:bH} {x:Tr}
theorem AA {p:Ps Tr}(h:p (t::r)=.ok (x,r)):ae p (.good (t::r))=.good r∧aK p (.good (t::r)) x:=⟨ED h,Rp h⟩
theorem Hj (h:t.k=2):ae (az 7) (.good (t::r))=.good r∧aK (az 7) (.good (t::r)) (mJ ⟨2,t.n,ByteArray.empty⟩):=AA (by rw[oZ];simp only[fB,h,if_true])
theorem Dg (h:t.k=3):ae (az 7) (.good (t::r))=.good r∧aK (az 7) (.good (t::r)) (mJ ⟨3,0,⟨t.s.toArray⟩⟩):=AA (by rw[oZ];simp[fB,h])
structure Plain (t:Wd):Prop where
 i:t.k≠2
 s:t.k≠3
theorem Dh (hp:Plain t)(h:kO eE t=true):ae (az 7) (.good (t::r))=.good r∧aK (az 7) (.good (t::r)) (mJ ⟨1,1,ByteArray.empty⟩):=AA (by rw[oZ];simp only[fB,hp.i,hp.s,h,if_true,if_false])
theorem AB (hp:Plain t)(h1:kO eE t=false)(h:kO ei t=true):ae (az 7) (.good (t::r))=.good r∧aK (az 7) (.good (t::r)) (mJ ⟨1,0,ByteArray.empty⟩):=AA (by rw[oZ];simp[fB,hp.i,hp.s,h1,h])
theorem Di (hp:Plain t)(h1:kO eE t=false)(h2:kO ei t=false)(h:kO cE t=true):ae (az 7) (.good (t::r))=.good r∧aK (az 7) (.good (t::r)) (mJ cX):=AA (by rw[oZ];simp[fB,hp.i,hp.s,h1,h2,h])
theorem OA (hp:Plain t)(h1:kO eE t=false)(h2:kO ei t=false)(h3:kO cE t=false)(h:kO aX t=true)(hx:aK (az 0) (.good r) x):
  ae (az 7) (.good (t::r))=ae (must aq) (ae (az 0) (.good r))∧aK (az 7) (.good (t::r)) x:=by
 have e:az 7 (t::r)=(do let x ← az 0;must aq;return x:Ps Tr) r:=by rw[oZ];simp[fB,hp.i,hp.s,h1,h2,h3,h]
 have e2:∀τ,ae (az 7) (.good (t::r))=τ↔ae (do let x ← az 0;must aq;return x:Ps Tr) (.good r)=τ:=fun τ=>by simp only[ae,e]
 constructor
 ·rw[e2];rw[aI hx,aI (aJ _ _)];exact cr _ _
 ·have:aK (do let x ← az 0;must aq;return x:Ps Tr) (.good r) x:=aC hx (aC (aJ _ _) (bM _ _));simp only[aK,e] at this ⊢;exact this
def kV (n:ByteArray):Ps Tr:=fun l=>if av aX l then(match fT n with
 | none=> .error l.length
 | some op=>jn (az 0) op l.tail)else .ok (Ch n,l)
structure Dj (t:Wd):Prop where
 p:Plain t
 wt:kO eE t=false
 wf:kO ei t=false
 wn:kO cE t=false
 wo:kO aX t=false
theorem qJ {n:ByteArray}(h:Dj t)(hn:aK aN (.good (t::r)) n):ae (az 7) (.good (t::r))=ae (kV n) (ae aN (.good (t::r)))∧∀z,aK (kV n) (ae aN (.good (t::r))) z→aK (az 7) (.good (t::r)) z:=by
 have e:az 7 (t::r)=(aN >>= kV) (t::r):=by rw[oZ];simp[fB,h.p.i,h.p.s,h.wt,h.wf,h.wn,h.wo];rfl
 constructor
 ·have:ae (az 7) (.good (t::r))=ae (aN >>= kV) (.good (t::r)):=by simp only[ae,e]
  rw[this];exact aI hn
 ·intro z hz;have:aK (aN >>= kV) (.good (t::r)) z:=aC hn hz;simp only[aK,e] at this ⊢;exact this
end
section
variable {n:ByteArray} {σ:aW} {z:Tr} {op:Int}
theorem OC (h:σ.head aX=false):ae (kV n) σ=σ∧aK (kV n) σ (Ch n):=by
 match σ,h with
 | .bad m,_=>exact⟨rfl,trivial⟩
 | .good l,h=>
   have h:av aX l=false:=h;constructor
   ·simp[ae,kV,h]
   ·simp[aK,kV,h]
theorem Kv (h:σ.head aX=true)(hf:fT n=none):ae (kV n) σ=.bad σ.left:=by obtain⟨t,r,rfl,ht⟩:=tH h;have h:av aX (t::r)=true:=h;simp[ae,kV,h,hf,aW.left]
theorem AD (h:σ.head aX=true)(hf:fT n=some op):ae (kV n) σ=ae (jn (az 0) op) (.good σ.words.tail)∧∀z,aK (jn (az 0) op) (.good σ.words.tail) z→aK (kV n) σ z:=by
 obtain⟨t,r,rfl,ht⟩:=tH h;have h:av aX (t::r)=true:=h;constructor
 ·simp[ae,kV,h,hf,aW.words]
 ·intro z hz;simp only[aK,aW.words,List.tail_cons] at hz;simp only[aK,kV,h,hf,if_true,List.tail_cons];exact hz
end
end Go.Proofs.YtcneefmaghoejaaGreatDoor
