/- Parts of the proof. -/
import Derived.Test.YtfmbcoeallmnnaaGreatDoorD11
namespace Go.Proofs.YtfmbcoeallmnnaaGreatDoor
open Go.Lib (hid)
open Go.ChangeShapes Go.WideShapes Go.ChangeAt Go.RowKit
set_option linter.unusedVariables false
set_option linter.unusedSimpArgs false
set_option maxHeartbeats 4000000
set_option maxRecDepth 100000
theorem MO (xv:Val)(name:ByteArray)(width:Int)(A:Option Addr)(c:Nat)(cols:List ik)(CA:Option Addr)(cc:Nat)(row:List Val)(RA:Option Addr)(rc:Nat)(w:World)(hC:RC w w.heap.size CA cols)(hl:cols.length≤140737488355328)(hV:RV w w.heap.size RA row)(hl2:row.length≤140737488355328):
  Calls Tryz.prog 24 #[.agg #[.int .u8 2,.int .u8 xv.k,.int .i64 xv.n,.string xv.s,.string name,.int .i64 width,.slice A 0 c],.slice CA cols.length cc,.slice RA row.length rc] w fun en w'=>en=.returned (cI (qX cols row name).1 (qX cols row name).2)∧Below w.heap.size w w':=by
 have HC:=hid hC;have HV:=hid hV;clear hC hV;go_enter Tryz.func24,Tryz.ntmps24;have bp:=(ag.new w 34 #[.int .u8 2,.int .u8 xv.k,.int .i64 xv.n,.string xv.s,.string name,.int .i64 width,.slice A 0 c]).alloc (.cells #[.int .u8 0,.int .i64 0,.string ⟨#[]⟩] 26);have x6:=bp.cell 6;simp only[List.getElem?_toArray,List.getElem?_cons_zero,List.getElem?_cons_succ] at x6;go_wp2_with fail;have dg:=ag.new (w.alloc (.cells #[.int .u8 2,.int .u8 xv.k,.int .i64 xv.n,.string xv.s,.string name,.int .i64 width,.slice A 0 c] 34)) 26 #[.int .u8 0,.int .i64 0,.string ⟨#[]⟩];rw[World.size_alloc] at dg;have bZ:=ae.then (aa w (.cells #[.int .u8 2,.int .u8 xv.k,.int .i64 xv.n,.string xv.s,.string name,.int .i64 width,.slice A 0 c] 34)) (aa _ (.cells #[.int .u8 0,.int .i64 0,.string ⟨#[]⟩] 26))
 replace HC:=hid (HC.out.later bZ);replace HV:=hid (HV.out.later bZ);clear x6;generalize (w.alloc (.cells #[.int .u8 2,.int .u8 xv.k,.int .i64 xv.n,.string xv.s,.string name,.int .i64 width,.slice A 0 c] 34)).alloc (.cells #[.int .u8 0,.int .i64 0,.string ⟨#[]⟩] 26)=W at*;have bo:w.heap.size≤w.heap.size+1:=by omega
 generalize w.heap.size+1=gR at*;go_loopw [8,9,20] (fun lv kv i wr=>lv=.slice none 0 0∧kv=.slice none 0 0∧i=.int .i64 0∧wr=W) (fun _ _ _ _=>0);case atStart=>exact⟨rfl,rfl,rfl,rfl⟩
 case round=>
  obtain⟨rfl,rfl,rfl,rfl⟩:=hrel;have x0:=bp.cell 0;have x1:=bp.cell 1;have x2:=bp.cell 2;have x3:=bp.cell 3;have x4:=bp.cell 4;have x5:=bp.cell 5;have x6:=bp.cell 6;simp only[List.getElem?_toArray,List.getElem?_cons_zero,List.getElem?_cons_succ] at x0 x1 x2 x3 x4 x5 x6;have bK:=ay dg;have dn:=ag.frozen dg;go_wp2_with fail;refine(rZ ⟨2,xv,name,width,A,0,c⟩ _).mono ?_;rintro e w1 ⟨oo,rfl,JM,b1⟩;obtain rfl:oo=jt:=by
   rcases JM with ⟨h,_⟩|⟨_,h⟩
   ·exact absurd h (by simp[gp])
   ·exact h
  have Bd:bc ⟨2,xv,name,width,A,0,c⟩=0:=by unfold bc;rw[if_pos (by simp)]
  rw[Bd];clear Bd JM;clear x0 x1 x2 x3 x4 x5 x6 bK dn;have b2:=ae.then b1 (aa w1 (.cells #[.int .i64 0,.int .u8 0,.int .u8 0,.bool false,.bool false,.nilFunc] 76))
  replace bp:=bp.later b2;replace dg:=dg.later b2;replace bZ:=ae.then bZ b2
  replace HC:=hid (HC.out.later b2);replace HV:=hid (HV.out.later b2);clear b1 b2;have hst:=fun(u:Addr) (m:Mode) (w:World)=>run_store Tryz.prog w u .nilFunc m rfl
  unfold jt;have x0:=bp.cell 0;have x1:=bp.cell 1;have x2:=bp.cell 2;have x3:=bp.cell 3;have x4:=bp.cell 4;have x5:=bp.cell 5;have x6:=bp.cell 6;simp only[List.getElem?_toArray,List.getElem?_cons_zero,List.getElem?_cons_succ] at x0 x1 x2 x3 x4 x5 x6;have bK:=ay dg;have dn:=ag.frozen dg;go_wp2_with fail;clear hst;clear x0 x1 x2 x3 x4 x5 x6 bK dn;refine(zM cols CA cc name _ HC.out hl).mono ?_;rintro e w2 ⟨rfl,b2⟩;replace bp:=bp.later b2;replace dg:=dg.later b2;replace bZ:=ae.then bZ b2
  replace HC:=hid (HC.out.later b2);replace HV:=hid (HV.out.later b2);clear b2;by_cases hp:bE name cols < cols.length
  ·have HP:=hid (show ko name cols=(bE name cols:Int) by unfold ko;rw[if_pos hp]);rw[HP.out];have hc1:qX cols row name=if bE name cols < row.length then(if good (row.getD (bE name cols) ah)=true then(row.getD (bE name cols) ah,0)else(ah,40))else(ah,41):=by unfold qX;simp only[hp,true_and]
   have HC1:=hid hc1;clear hc1 HP;generalize bE name cols=k at*;have hk2:(k:Int)≤140737488355328:=by omega
   have t0:decide ((k:Int)< 0)=false:=decide_eq_false (by omega);by_cases hk:k < row.length
   ·have t1:decide (row.length≤k)=false:=decide_eq_false (by omega);obtain⟨b,off,rfl,Fe,hval⟩:=HV.out.at_ hk;have HG:=hid (show row.getD k ah=row[k] by rw[List.getD_eq_getElem?_getD,List.getElem?_eq_getElem hk];rfl);have Bg:=hid (HC1.out.trans (if_pos hk));rw[HG.out] at Bg;generalize row[k]=v at*;have SQ:=hval;unfold eE at hval;have x0:=bp.cell 0;have x1:=bp.cell 1;have x2:=bp.cell 2;have x3:=bp.cell 3;have x4:=bp.cell 4;have x5:=bp.cell 5;have x6:=bp.cell 6;simp only[List.getElem?_toArray,List.getElem?_cons_zero,List.getElem?_cons_succ] at x0 x1 x2 x3 x4 x5 x6;have bK:=ay dg;have dn:=ag.frozen dg;go_wp2_with fail;refine(Cy v _).mono ?_;rintro e w3 ⟨rfl,b3⟩;replace SQ:=SQ.keep (w':=w3) fun o=>b3.cell (p:=⟨b,o,none⟩) Fe
    clear x0 x1 x2 x3 x4 x5 x6 bK dn;replace bp:=bp.later b3;replace dg:=dg.later b3;replace bZ:=ae.then bZ b3
    replace HC:=hid (HC.out.later b3);replace HV:=hid (HV.out.later b3);clear hval b3;unfold eE at SQ;cases hg:good v
    ·have HQ:=hid (Bg.out.trans (if_neg (by rw[hg];simp)));have x0:=bp.cell 0;have x1:=bp.cell 1;have x2:=bp.cell 2;have x3:=bp.cell 3;have x4:=bp.cell 4;have x5:=bp.cell 5;have x6:=bp.cell 6;simp only[List.getElem?_toArray,List.getElem?_cons_zero,List.getElem?_cons_succ] at x0 x1 x2 x3 x4 x5 x6;have bK:=ay dg;have dn:=ag.frozen dg;go_wp2_with fail;exact bodyPost_ret (v:=.tuple #[.agg #[.int .u8 0,.int .i64 0,.string ByteArray.empty],.int .i64 40]) (by simp[results,Tryz.results24,go_sem,bK];try rfl) rfl ⟨by rw[HQ.out];rfl,((bZ.setCell bo _).setCell bo _).setCell bo _⟩
    ·have HQ:=hid (Bg.out.trans (if_pos hg));have x0:=bp.cell 0;have x1:=bp.cell 1;have x2:=bp.cell 2;have x3:=bp.cell 3;have x4:=bp.cell 4;have x5:=bp.cell 5;have x6:=bp.cell 6;simp only[List.getElem?_toArray,List.getElem?_cons_zero,List.getElem?_cons_succ] at x0 x1 x2 x3 x4 x5 x6;have bK:=ay dg;have dn:=ag.frozen dg;go_wp2_with fail;exact bodyPost_ret (v:=.tuple #[.agg #[.int .u8 v.k,.int .i64 v.n,.string v.s],.int .i64 0]) (by simp[results,Tryz.results24,go_sem,bK];try rfl) rfl ⟨by rw[HQ.out];rfl,((bZ.setCell bo _).setCell bo _).setCell bo _⟩
   ·have t1:decide (row.length≤k)=true:=decide_eq_true (by omega);have HQ:=hid (HC1.out.trans (if_neg hk));have x0:=bp.cell 0;have x1:=bp.cell 1;have x2:=bp.cell 2;have x3:=bp.cell 3;have x4:=bp.cell 4;have x5:=bp.cell 5;have x6:=bp.cell 6;simp only[List.getElem?_toArray,List.getElem?_cons_zero,List.getElem?_cons_succ] at x0 x1 x2 x3 x4 x5 x6;have bK:=ay dg;have dn:=ag.frozen dg;go_wp2_with fail;exact bodyPost_ret (v:=.tuple #[.agg #[.int .u8 0,.int .i64 0,.string ByteArray.empty],.int .i64 41]) (by simp[results,Tryz.results24,go_sem,bK];try rfl) rfl ⟨by rw[HQ.out];rfl,((bZ.setCell bo _).setCell bo _).setCell bo _⟩
  ·have HP:=hid (show ko name cols= -1 by unfold ko;rw[if_neg hp]);rw[HP.out];have HQ:=hid (show qX cols row name=(ah,41) by unfold qX;rw[if_neg (fun h=>hp h.1)]);clear hp;have x0:=bp.cell 0;have x1:=bp.cell 1;have x2:=bp.cell 2;have x3:=bp.cell 3;have x4:=bp.cell 4;have x5:=bp.cell 5;have x6:=bp.cell 6;simp only[List.getElem?_toArray,List.getElem?_cons_zero,List.getElem?_cons_succ] at x0 x1 x2 x3 x4 x5 x6;have bK:=ay dg;have dn:=ag.frozen dg;go_wp2_with fail;exact bodyPost_ret (v:=.tuple #[.agg #[.int .u8 0,.int .i64 0,.string ByteArray.empty],.int .i64 41]) (by simp[results,Tryz.results24,go_sem,bK];try rfl) rfl ⟨by rw[HQ.out];rfl,((bZ.setCell bo _).setCell bo _).setCell bo _⟩
theorem qY {n:Int} {c:Bool}(h:(eT n c).2≠0):(eT n c).1=ah:=by
 cases c
 ·rfl
 ·exact absurd rfl h
theorem QL (k:Nat)(wd:Int)(l:List Val)(h:(wF k wd l).2≠0):(wF k wd l).1=ah:=by
 unfold wF at*;split at h;case h_6 a b=>
  unfold tI at*;by_cases h0:b.n=0
  ·rw[if_pos h0]
  ·rw[if_neg h0] at h ⊢;exact qY h
 case h_7 a b=>
  unfold tJ at*;by_cases h0:b.n=0
  ·rw[if_pos h0]
  ·rw[if_neg h0] at h ⊢;exact qY h
 all_goals first
  | exact absurd rfl h
  | exact qY h
theorem JS (op wd:Int)(l:List Val)(h:(cn op wd l).2≠0):(cn op wd l).1=ah:=by
 unfold cn at*;split at h
 ·rename_i h1;rw[if_pos h1]
 ·rename_i h1;rw[if_neg h1];split at h
  ·exact absurd rfl h
  ·rename_i h2;rw[if_neg h2];exact QL _ _ _ h
theorem FJ (cols:List ik)(row:List Val)(x:Ex)(rs:List (Val×Int))(h:(iY cols row x rs).2≠0):(iY cols row x rs).1=ah:=by
 unfold iY at*;split at h
 ·rename_i h1;rw[if_pos h1]
 ·rename_i h1;rw[if_neg h1];split at h
  ·rename_i h2;rw[if_pos h2]
  ·rename_i h2;rw[if_neg h2];split at h
   ·exact absurd rfl h
   ·rename_i h3;rw[if_neg h3];split at h
    ·rename_i h4;rw[if_pos h4];unfold qX at*;split at h
     ·rename_i h5;rw[if_pos h5];split at h
      ·exact absurd rfl h
      ·rename_i h6;rw[if_neg h6]
     ·rename_i h5;rw[if_neg h5]
    ·rename_i h4;rw[if_neg h4];exact JS _ _ _ h
mutual
theorem Tr.JT (cols:List ik)(row:List Val):∀t:Tr,(t.eval cols row).2≠0→(t.eval cols row).1=ah
 | .mk op v name width args,h=>by unfold Tr.eval at*;exact FJ _ _ _ _ h
theorem Tr.wO (cols:List ik)(row:List Val):∀ts:List Tr,∀z∈Tr.fx cols row ts,z.2≠0→z.1=ah
 | [],z,hz,_=>by simp[Tr.fx] at hz
 | t::ts,z,hz,h=>by
   unfold Tr.fx at hz;rcases List.mem_cons.1 hz with rfl | hz
   ·exact Tr.JT cols row t h
   ·exact Tr.wO cols row ts z hz h
end
section
variable (cols:List ik) (CA:Option Addr) (cc:Nat) (row:List Val) (RA:Option Addr) (rc:Nat)
theorem MP (op:Int)(xv:Val)(name:ByteArray)(width:Int)(A:Option Addr)(c:Nat)(args:List (Ex×(Val×Int)))(aZ:∀a∈args,a.2.1.Ok)(hz:∀a∈args,a.2.2≠0→a.2.1=ah)(w:World)(hl:args.length≤1599289640356)(hA:RE w w.heap.size A (args.map (·.1)))
  (hC:RC w w.heap.size CA cols) (dT:cols.length≤140737488355328) (hV:RV w w.heap.size RA row) (lX:row.length≤140737488355328)
  (hE:∀a∈args,qW w (.slice CA cols.length cc) (.slice RA row.length rc) a.1 a.2.1 a.2.2):
  Calls Tryz.prog 24 #[.agg #[.int .u8 op,.int .u8 xv.k,.int .i64 xv.n,.string xv.s,.string name,.int .i64 width,.slice A args.length c],.slice CA cols.length cc,.slice RA row.length rc] w fun en w'=>en=.returned (cI (iY cols row ⟨op,xv,name,width,none,args.length,0⟩ (args.map (·.2))).1 (iY cols row ⟨op,xv,name,width,none,args.length,0⟩ (args.map (·.2))).2)∧Below w.heap.size w w':=by
 rcases uI args with h0 |⟨pre,bad,post,rfl,FH,sf⟩
 ·have hf:ft (args.map (·.2))=0:=uJ fun a ha=>by obtain⟨z,hz,rfl⟩:=List.mem_map.1 ha;exact h0 z hz
  by_cases h2:op=2∧args=[]
  ·obtain⟨rfl,rfl⟩:=h2;have k:=MO xv name width A c cols CA cc row RA rc w hC dT hV lX;have e:iY cols row ⟨2,xv,name,width,none,0,0⟩ []=qX cols row name:=by unfold iY;rw[if_neg (by simp[ft]),if_neg (by simp[bc]),if_neg (by simp),if_pos (by rfl)]
   show Calls _ _ _ _ fun en w'=>en=.returned (cI (iY cols row ⟨2,xv,name,width,none,0,0⟩ []).1 (iY cols row ⟨2,xv,name,width,none,0,0⟩ []).2)∧_
   rw[e];exact k
  ·have k:=ME op xv name width A c (.slice CA cols.length cc) (.slice RA row.length rc) (args.map fun a=>(a.1,a.2.1)) (by
    by_cases ho:op=2
    ·right;intro h;exact h2 ⟨ho,by simpa using h⟩
    ·exact .inl ho) (fun a ha=>by obtain⟨z,hz,rfl⟩:=List.mem_map.1 ha;exact aZ z hz) w (by simpa using hl) (by simpa [Function.comp_def] using hA) (fun a ha=>by
    obtain⟨z,hz,rfl⟩:=List.mem_map.1 ha
    have:=hE z hz
    rw[h0 z hz] at this
    exact this)
   rw[List.length_map] at k;have hm:(args.map fun a=>(a.1,a.2.1)).map (·.2)=(args.map (·.2)).map (·.1):=by simp[Function.comp_def]
   rw[hm] at k;have e:iY cols row ⟨op,xv,name,width,none,args.length,0⟩ (args.map (·.2))=om ⟨op,xv,name,width,A,args.length,c⟩ ((args.map (·.2)).map (·.1)):=by
    have UK:bc ⟨op,xv,name,width,A,args.length,c⟩=bc ⟨op,xv,name,width,none,args.length,0⟩:=rfl;unfold iY om;rw[if_neg (by rw[hf];simp),UK];dsimp only;by_cases Bd:bc ⟨op,xv,name,width,none,args.length,0⟩=0
    ·simp only[Bd,ne_eq,not_true_eq_false,↓reduceIte];by_cases h1:op=1
     ·simp only[h1,↓reduceIte]
     ·simp only[h1,↓reduceIte];rw[if_neg];intro ho;exact h2 ⟨ho,pM (l:=args) Bd ho⟩
    ·simp only[Bd,ne_eq,not_false_eq_true,↓reduceIte]
   rw[e];exact k
 ·have UL:bad.2.1=ah:=hz bad (by simp) sf;have F5:=hE bad (by simp);rw[UL] at F5;have k:=MB op xv name width A (pre++bad::post).length c (.slice CA cols.length cc) (.slice RA row.length rc) (pre.map fun a=>(a.1,a.2.1)) bad.1 bad.2.2 (post.map (·.1)) (by simp;omega) w (by simp at hl ⊢;omega) hl (by simpa [Function.comp_def] using hA) (fun a ha=>by
   obtain⟨z,hz',rfl⟩:=List.mem_map.1 ha
   have:=hE z (by simp[hz'])
   rw[FH z hz'] at this
   exact this) F5 sf
  have hf:ft ((pre++bad::post).map (·.2))=bad.2.2:=by rw[List.map_append,List.map_cons];exact zK (fun a ha=>by obtain⟨z,hz',rfl⟩:=List.mem_map.1 ha;exact FH z hz') sf
  have e:iY cols row ⟨op,xv,name,width,none,(pre++bad::post).length,0⟩ ((pre++bad::post).map (·.2))=(ah,bad.2.2):=by unfold iY;rw[if_pos (by rw[hf];exact sf),hf]
  rw[e];exact k
mutual
theorem Tr.Io (dT:cols.length≤140737488355328)(lX:row.length≤140737488355328)(hro:∀v∈row,v.Ok):∀(t:Tr) (y:Ex) (w:World),t.ok→t.at_ w (Old w) y→RC w w.heap.size CA cols→RV w w.heap.size RA row→qW w (.slice CA cols.length cc) (.slice RA row.length rc) y (t.eval cols row).1 (t.eval cols row).2
 | .mk op v name width args,y,w,aZ,hat,hC,hV=>by
   intro W hb;have kI:=hat.later hb;unfold Tr.at_ at kI;obtain⟨h1,h2,h3,h4,h5,ys,h6,h7⟩:=kI;unfold Tr.ok at aZ;obtain⟨l,dN,hl2,yX⟩:=Tr.CW dT lX hro args ys W aZ.2.2.2.2.2 h7 (hC.later hb) (hV.later hb);obtain⟨nD,yv,fI,dO,yA,yn,yc⟩:=y;dsimp only at h1 h2 h3 h4 h5 h6;subst h1 h2 h3 h4 h5;have hlen:l.length=args.length:=by
    have:(l.map (·.2)).length=(Tr.fx cols row args).length:=by rw[hl2]
    rw[List.length_map,Tr.sj] at this;exact this
   have hzz:∀a∈l,a.2.1.Ok∧(a.2.2≠0→a.2.1=ah):=fun a ha=>by
    have hm:a.2∈Tr.fx cols row args:=by rw[← hl2];exact List.mem_map.2 ⟨a,ha,rfl⟩
    exact⟨Tr.wJ cols row hro args aZ.2.2.2.2.2 _ hm,Tr.wO cols row args _ hm⟩
   have k:=MP cols CA cc row RA rc nD yv fI dO yA yc l (fun a ha=>(hzz a ha).1) (fun a ha=>(hzz a ha).2) W (by rw[hlen];exact aZ.2.1) (by rw[dN];exact h6.old) (hC.later hb) dT (hV.later hb) lX yX;rw[hl2,hlen] at k;unfold Tr.eval;exact k
theorem Tr.CW (dT:cols.length≤140737488355328)(lX:row.length≤140737488355328)(hro:∀v∈row,v.Ok):∀(ts:List Tr) (ys:List Ex) (w:World),Tr.iO ts→Tr.bJ w (Old w) ts ys→RC w w.heap.size CA cols→RV w w.heap.size RA row→∃l:List (Ex×(Val×Int)),l.map (·.1)=ys∧l.map (·.2)=Tr.fx cols row ts∧∀a∈l,qW w (.slice CA cols.length cc) (.slice RA row.length rc) a.1 a.2.1 a.2.2
 | [],ys,w,_,hat,_,_=>by unfold Tr.bJ at hat;subst hat;exact⟨[],rfl,by simp[Tr.fx],by simp⟩
 | t::ts,ys,w,aZ,hat,hC,hV=>by
   unfold Tr.bJ at hat;unfold Tr.iO at aZ;obtain⟨y,ys',rfl,h2,h3⟩:=hat;obtain⟨l,dN,hl2,yX⟩:=Tr.CW dT lX hro ts ys' w aZ.2 h3 hC hV;refine⟨(y,t.eval cols row)::l,by simp[dN],by simp[hl2,Tr.fx],fun a ha=>?_⟩;rcases List.mem_cons.1 ha with rfl | ha
   ·exact Tr.Io dT lX hro t y w aZ.1 h2 hC hV
   ·exact yX a ha
end
end
def gY (r:Val×Int):Bool×Int:=if r.2≠0 then(false,r.2)else if dC r.1.k 1=false then(false,40)else(r.1.n==1,0)
theorem Yw {w:World} {B:Nat} {A:Option Addr} {y:Ex} {ys:List Ex}(h:RE w B A (y::ys)):∃b off,A=some ⟨b,off,none⟩∧b < B∧cw w b off y:=by
 rcases h with h |⟨b,off,h1,h2,h3⟩
 ·cases h
 ·refine⟨b,off,h1,h2,?_⟩;have:=h3 0 y rfl;simpa using this
theorem MQ (A:Option Addr)(n c:Nat)(hn:0 < n)(Co:n≤1599289640356)(y:Ex)(ys:List Ex)(cV rV:Value)(r:Val×Int)(w:World)(hA:RE w w.heap.size A (y::ys))(hE:qW w cV rV y r.1 r.2):
  Calls Tryz.prog 13 #[.slice A n c,cV,rV] w fun e w'=>e=.returned (.tuple #[.bool (gY r).1,.int .i64 (gY r).2])∧Below w.heap.size w w':=by
 obtain⟨b,off,rfl,hb,hex⟩:=Yw hA;have HE:=hid hE;clear hA hE;have t0:(n==0)=false:=by simp;omega
 have t0':((n:Int)==0)=false:=by simp;omega
 unfold cw at hex;go_enter Tryz.func13,Tryz.ntmps13;go_wp2_with fail;refine(HE.out w (Below.refl _ _)).mono ?_;rintro e w1 ⟨rfl,b1⟩;clear hex t0 t0' HE;obtain⟨v,f⟩:=r;unfold cI;dsimp only;have hv:=ag.new w1 26 #[.int .u8 v.k,.int .i64 v.n,.string v.s];have hB:=ae.then b1 (aa w1 (.cells #[.int .u8 v.k,.int .i64 v.n,.string v.s] 26))
 clear b1;have cv:=ay hv;by_cases hf:f=0
 ·subst hf;go_wp2_with fail;have hg:=ag.new (w1.alloc (.cells #[.int .u8 v.k,.int .i64 v.n,.string v.s] 26)) 5 #[.int .u8 v.k,.int .u8 1];have bb:=aa (w1.alloc (.cells #[.int .u8 v.k,.int .i64 v.n,.string v.s] 26)) (.cells #[.int .u8 v.k,.int .u8 1] 5);rw[World.size_alloc] at hg;have g0:=hg.cell 0;have g1:=hg.cell 1;have glt:=hg.lt;simp only[List.getElem?_toArray,List.getElem?_cons_zero,List.getElem?_cons_succ] at g0 g1;refine(oM (w1.heap.size+1) 0 2 v.k 1 _ glt g0 g1).mono ?_;rintro e w2 ⟨rfl,b2⟩;replace hB:=ae.then (ae.then hB bb) b2
  replace hv:=(hv.later bb).later b2;clear bb b2 g0 g1 glt hg cv;have cv:=ay hv;cases hgo:dC v.k 1
  ·have HQ:=hid (show gY (v,0)=(false,40) by unfold gY;rw[if_neg (by simp),if_pos hgo]);go_wp2_with fail;exact bodyPost_ret (v:=.tuple #[.bool false,.int .i64 40]) (by simp[results,Tryz.results13,go_sem]) rfl ⟨by rw[HQ.out],hB⟩
  ·have HQ:=hid (show gY (v,0)=(v.n==1,0) by unfold gY;rw[if_neg (by simp),if_neg (by rw[hgo];simp)]);go_wp2_with fail;exact bodyPost_ret (v:=.tuple #[.bool (v.n==1),.int .i64 0]) (by simp[results,Tryz.results13,go_sem]) rfl ⟨by rw[HQ.out],hB⟩
 ·have t1:(f != 0)=true:=by simpa using hf
  have HQ:=hid (show gY (v,f)=(false,f) by unfold gY;rw[if_pos hf]);clear hf;go_wp2_with fail;exact bodyPost_ret (v:=.tuple #[.bool false,.int .i64 f]) (by simp[results,Tryz.results13,go_sem]) rfl ⟨by rw[HQ.out],hB⟩
def sx (op:Int):Int:=if op=1∨op=2∨op=21 then 0 else if op=3∨op=4∨op=18∨op=19∨op=20∨(22≤op∧op≤26)then 1 else if (5≤op∧op≤17)∨op=27∨op=28 then 2 else -1
def SR (x:Ex):Bool:=((x.n:Int)==sx x.op)&&((!(x.op==1)|| good x.v)&&(!(x.op==20)|| decide (1≤x.width∧x.width≤1099511627776)))
theorem wP:Tryz.prog.cellsOf 5=1:=by kernel_rfl
theorem tP:Tryz.prog.cellsOf 2=1:=by kernel_rfl
theorem nE:Tryz.prog.cellsOf 9=1:=by kernel_rfl
theorem oP:Tryz.prog.cellsOf 26=3:=by kernel_rfl
theorem MR {n:Int}(h:(Lit.int .u8 n).wf=true):0≤n∧n≤255:=by simpa [Lit.wf,IntKind.min,IntKind.max,IntKind.signed,IntKind.bits] using h
section
variable {H:Type} {enc:TypeId×Value→H} {w:World} {base:Nat} {spare:Nat→Bool} {held:Bool} {fuel:Nat} {cs:List Value} {x:DataW H×List MemPlace}
theorem Bh {n:Int}(h:(Lit.int .i64 n).wf=true): -9223372036854775808≤n∧n≤9223372036854775807:=by simpa [Lit.wf,IntKind.min,IntKind.max,IntKind.signed,IntKind.bits] using h
theorem CX (h:DataW.trod enc Tryz.prog w base spare held fuel 26 cs=some x):∃a:Val,cs=[.int .u8 a.k,.int .i64 a.n,.string a.s]∧a.Ok∧0≤a.k∧a.k≤255:=by
 obtain⟨xs,n,_,_,hl,hlen,hf⟩:=DataW.trod_struct Tryz.underlying26 h;rw[oP] at hl
 match cs,hl with
 | [c0,c1,c2],_=>
   have get:∀i,i < 3→∃y,xs[i]?=some y:=fun i hi=>⟨xs[i]'(by simp at hlen;omega),List.getElem?_eq_getElem _⟩
   obtain⟨y0,e0⟩:=get 0 (by omega);obtain⟨y1,e1⟩:=get 1 (by omega);obtain⟨y2,e2⟩:=get 2 (by omega);have t0:DataW.trod enc Tryz.prog w base spare held n 5 (([c0,c1,c2].drop 0).take (Tryz.prog.cellsOf 5))=some y0:=(hf 0 _ rfl).trans e0;have t1:DataW.trod enc Tryz.prog w base spare held n 2 (([c0,c1,c2].drop 1).take (Tryz.prog.cellsOf 2))=some y1:=(hf 1 _ rfl).trans e1;have t2:DataW.trod enc Tryz.prog w base spare held n 9 (([c0,c1,c2].drop 2).take (Tryz.prog.cellsOf 9))=some y2:=(hf 2 _ rfl).trans e2;rw[wP] at t0;rw[tP] at t1;rw[nE] at t2;simp only[List.drop_succ_cons,List.drop_zero,List.take_succ_cons,List.take_zero] at t0 t1 t2;obtain⟨n0,q0,_,f0⟩:=DataW.trod_int Tryz.underlying5 t0;obtain⟨n1,q1,_,f1⟩:=DataW.trod_int Tryz.underlying2 t1;obtain⟨s,q2,_,f2⟩:=DataW.trod_string Tryz.underlying9 t2;simp at q0 q1 q2;subst q0 q1 q2;exact⟨⟨n0,n1,s⟩,rfl,Bh f1,MR f0⟩
end
theorem pick {α:Type} {P:Nat→α→Prop}:∀n,(∀i,i < n→∃x,P i x)→∃l:List α,l.length=n∧∀i x,l[i]?=some x→P i x
 | 0,_=>⟨[],rfl,fun i x h=>by simp at h⟩
 | n+1,h=>by
   obtain⟨l,hl,hp⟩:=pick n fun i hi=>h i (by omega)
   obtain⟨y,hy⟩:=h n (by omega);refine⟨l++ [y],by simp[hl],fun i x hx=>?_⟩;rcases Nat.lt_trichotomy i n with hi | hi | hi
   ·rw[List.getElem?_append_left (by omega)] at hx;exact hp i x hx
   ·subst hi;rw[List.getElem?_append_right (by omega),hl] at hx;simp at hx;subst hx;exact hy
   ·rw[List.getElem?_eq_none (by simp;omega)] at hx;cases hx
theorem jH {w:World} {a:Addr} {v:Value}(h:w.cell? a=some v):a.block < w.heap.size∧a.spot=none:=by
 unfold World.cell? at h;split at h
 ·rename_i hb;refine⟨?_,?_⟩
  ·rcases Nat.lt_or_ge a.block w.heap.size with h' | h'
   ·exact h'
   ·rw[Array.getElem?_eq_none h'] at hb;cases hb
  ·split at h
   ·cases h
   ·rename_i hs;simpa using hs
 ·cases h
theorem qZ:Tryz.prog.cellsOf 34=7:=by kernel_rfl
theorem zO:Tryz.prog.cellsOf 43=2:=by kernel_rfl
theorem CY:Tryz.prog.cellsOf 22=1:=by kernel_rfl
theorem wQ:Tryz.prog.bytesOf 34=88:=by kernel_rfl
theorem JU:Tryz.prog.bytesOf 43=24:=by kernel_rfl
theorem JV:Tryz.prog.bytesOf 26=32:=by kernel_rfl
def wR (y:Ex):List Value:=[.int .u8 y.op,.int .u8 y.v.k,.int .i64 y.v.n,.string y.v.s,.string y.name,.int .i64 y.width,.slice y.A y.n y.c]
def CZ (x:ik):List Value:=[.string x.name,.int .u8 x.t]
theorem UM {w:World} {base K:Nat} {a:Addr} {cs:List Value}(h:w.cells? base a K=some cs):cs.length=K∧∀i,i < K→w.cell? (a.add i)=cs[i]?:=by
 unfold World.cells? at h;split at h
 ·exact⟨by simpa using mapM_some_length h,fun i hi=>mapM_some_get h i i (by simp[hi])⟩
 ·cases h
def eu {H:Type}(t:TypeId)(d:DataW H):Prop:=∀n∈d.weights Tryz.prog t,n≤reachBytes
section
variable {H:Type} {enc:TypeId×Value→H} {w:World} {base:Nat} {spare:Nat→Bool} {held:Bool}
theorem zP {e:TypeId}:∀ {l:List (DataW H)},(∀n∈DataW.weightsAll Tryz.prog e l,n≤reachBytes)→∀d∈l,eu e d
 | [],_,d,h=>by cases h
 | x::l,hw,d,h=>by
   unfold DataW.weightsAll at hw;rcases List.mem_cons.1 h with rfl | h
   ·exact fun n hn=>hw n (List.mem_append_left _ hn)
   ·exact zP (fun n hn=>hw n (List.mem_append_right _ hn)) d h
theorem Da {T e:TypeId} {es rs:List (DataW H)}(hT:Tryz.prog.underlying T=some (.slice e))(h:eu T (.slice es rs)):(es.length+rs.length)*Tryz.prog.bytesOf e≤reachBytes∧∀d∈es,eu e d:=by unfold eu at h;unfold DataW.weights at h;rw[hT] at h;dsimp only at h;exact⟨h _ (List.mem_cons_self ..),zP fun n hn=>h n (List.mem_cons_of_mem _ (List.mem_append_left _ hn))⟩
theorem FK {t:TypeId} {fs:Array Field} {ps:List (DataW H)}(ht:Tryz.prog.underlying t=some (.struct fs))(h:eu t (.agg ps)) {j:Nat} {f:Field} {d:DataW H}(hf:fs[j]?=some f)(hd:ps[j]?=some d):eu f.type d:=by unfold eu at h ⊢;unfold DataW.weights at h;rw[ht] at h;dsimp only at h;intro n hn;refine h n (DataW.weights_mem_each (j:=j) ?_ hd n hn);rw[List.getElem?_map,Array.getElem?_toList,hf];rfl
theorem nG {α:Type}(f:α→List Value)(P:α→Prop)(K:Nat) {T e:TypeId}(hT:Tryz.prog.underlying T=some (.slice e))(hc:Tryz.prog.cellsOf e=K)(hK:0 < K)(hf:∀x,(f x).length=K) {fuel:Nat} {cs:List Value} {x:DataW H×List MemPlace}
  (hel:∀m,m < fuel→∀cs x,DataW.trod enc Tryz.prog w base spare held m e cs=some x→eu e x.1→∃a,cs=f a∧P a) (h:DataW.trod enc Tryz.prog w base spare held fuel T cs=some x) (hw:eu T x.1):
  ∃(A:Option Addr) (l:List α) (c:Nat),cs=[.slice A l.length c]∧(∀a∈l,P a)∧l.length*Tryz.prog.bytesOf e≤reachBytes∧(l=[]∨∃b off,A=some ⟨b,off,none⟩∧b < w.heap.size∧∀i x j u,l[i]?=some x→(f x)[j]?=some u→w.cell? ⟨b,off+i*K+j,none⟩=some u):=by
 rcases DataW.trod_slice hT h with ⟨hcs,_⟩|⟨ad,len,cap,elems,rest,n,hn,hcs,hx,_,hl,hm,hlen,he,_,_⟩
 ·exact⟨none,[],0,hcs,by simp,by simp,.inl rfl⟩
 ·subst hx hcs;obtain⟨hbytes,UN⟩:=Da hT hw;rw[List.length_map,List.length_map,hlen] at hbytes;have hb2:len*Tryz.prog.bytesOf e≤reachBytes:=Nat.le_trans (Nat.mul_le_mul_right _ (by omega)) hbytes;rcases Nat.eq_zero_or_pos len with h0 | h0
  ·subst h0;exact⟨some ad,[],cap,rfl,by simp,by simp,.inl rfl⟩
  have tG:∀i,i < len→∃a:α,P a∧∀j,j < K→w.cell? ((ad.add (i*K)).add j)=(f a)[j]?:=by intro i hi;have h1:=he i hi;rw[List.getElem?_eq_getElem (by omega),hc] at h1;obtain⟨cs,h2,h3⟩:=Option.bind_eq_some_iff.1 h1;obtain⟨a,rfl,ha⟩:=hel n (by omega) cs _ h3 (UN _ (List.mem_map.2 ⟨_,List.getElem_mem _,rfl⟩));exact⟨a,ha,(UM h2).2⟩
  obtain⟨a0,_,hc0⟩:=tG 0 h0;have hsome:∃u,(f a0)[0]?=some u:=⟨(f a0)[0]'(by rw[hf];exact hK),List.getElem?_eq_getElem _⟩;obtain⟨u0,Jw⟩:=hsome;have hlt:=jH ((hc0 0 hK).trans Jw);obtain⟨b,off,spot⟩:=ad;have hs:spot=none:=by have:=hlt.2;simpa [Addr.add] using this
  subst hs;have hbl:b < w.heap.size:=by have:=hlt.1;simpa [Addr.add] using this
  obtain⟨l,Yx,hp⟩:=pick len (P:=fun i a=>P a∧∀j,j < K→w.cell? ⟨b,off+i*K+j,none⟩=(f a)[j]?) fun i hi=>by obtain⟨a,ha,hca⟩:=tG i hi;refine⟨a,ha,fun j hj=>?_⟩;have:=hca j hj;simp only[CR] at this;exact this
  subst Yx;refine⟨some ⟨b,off,none⟩,l,cap,rfl,fun a ha=>?_,hb2,.inr ⟨b,off,rfl,hbl,fun i x j u hx hu=>?_⟩⟩
  ·obtain⟨i,hi,rfl⟩:=List.getElem_of_mem ha;exact(hp i _ (List.getElem?_eq_getElem hi)).1
  ·have hj:j < K:=by
    rcases Nat.lt_or_ge j K with h' | h'
    ·exact h'
    ·rw[List.getElem?_eq_none (by rw[hf];exact h')] at hu;cases hu
   rw[(hp i x hx).2 j hj];exact hu
theorem oQ {S:Nat→Prop}:∀l:List (Ex×Tr),(∀p∈l,p.2.at_ w S p.1)→Tr.bJ w S (l.map (·.2)) (l.map (·.1))
 | [],_=>by simp[Tr.bJ]
 | p::l,h=>by simp only[List.map_cons];unfold Tr.bJ;exact⟨_,_,rfl,h p (by simp),oQ l fun q hq=>h q (by simp[hq])⟩
theorem oT:∀l:List (Ex×Tr),(∀p∈l,p.2.ok)→Tr.iO (l.map (·.2))
 | [],_=>by simp[Tr.iO]
 | p::l,h=>by simp only[List.map_cons];unfold Tr.iO;exact⟨h p (by simp),oT l fun q hq=>h q (by simp[hq])⟩
theorem JW:∀(fuel:Nat) (cs:List Value) (x:DataW H×List MemPlace),DataW.trod enc Tryz.prog w base spare held fuel 34 cs=some x→eu 34 x.1→∃p:Ex×Tr,cs=wR p.1∧p.2.at_ w (Old w) p.1∧p.2.ok:=by
 intro fuel;induction fuel using Nat.strongRecOn with
 | _ fuel ih=>
   intro cs x h hw;obtain⟨xs,n,hn,hx,hl,hlen,hf⟩:=DataW.trod_struct Tryz.underlying34 h;rw[qZ] at hl;subst hx
   match cs,hl with
   | [c0,c1,c2,c3,c4,c5,c6],_=>
     have get:∀i,i < 5→∃y,xs[i]?=some y:=fun i hi=>⟨xs[i]'(by simp at hlen;omega),List.getElem?_eq_getElem _⟩
     obtain⟨y0,e0⟩:=get 0 (by omega);obtain⟨y1,e1⟩:=get 1 (by omega);obtain⟨y2,e2⟩:=get 2 (by omega);obtain⟨y3,e3⟩:=get 3 (by omega);obtain⟨y4,e4⟩:=get 4 (by omega);have t0:DataW.trod enc Tryz.prog w base spare held n 5 (([c0,c1,c2,c3,c4,c5,c6].drop 0).take (Tryz.prog.cellsOf 5))=some y0:=(hf 0 _ rfl).trans e0;have t1:DataW.trod enc Tryz.prog w base spare held n 26 (([c0,c1,c2,c3,c4,c5,c6].drop 1).take (Tryz.prog.cellsOf 26))=some y1:=(hf 1 _ rfl).trans e1;have t2:DataW.trod enc Tryz.prog w base spare held n 9 (([c0,c1,c2,c3,c4,c5,c6].drop 4).take (Tryz.prog.cellsOf 9))=some y2:=(hf 2 _ rfl).trans e2;have t3:DataW.trod enc Tryz.prog w base spare held n 2 (([c0,c1,c2,c3,c4,c5,c6].drop 5).take (Tryz.prog.cellsOf 2))=some y3:=(hf 3 _ rfl).trans e3;have t4:DataW.trod enc Tryz.prog w base spare held n 22 (([c0,c1,c2,c3,c4,c5,c6].drop 6).take (Tryz.prog.cellsOf 22))=some y4:=(hf 4 _ rfl).trans e4;rw[wP] at t0;rw[oP] at t1;rw[nE] at t2;rw[tP] at t3;rw[CY] at t4;simp only[List.drop_succ_cons,List.drop_zero,List.take_succ_cons,List.take_zero] at t0 t1 t2 t3 t4;obtain⟨n0,q0,_,f0⟩:=DataW.trod_int Tryz.underlying5 t0;obtain⟨a,qa,ha,QM,hk2⟩:=CX t1;obtain⟨s,q2,_,f2⟩:=DataW.trod_string Tryz.underlying9 t2;obtain⟨n3,q3,_,f3⟩:=DataW.trod_int Tryz.underlying2 t3;have hl4:eu 22 y4.1:=by have h4:=FK (j:=4) (d:=y4.1) Tryz.underlying34 hw rfl (by rw[List.getElem?_map,e4];rfl);exact h4
     obtain⟨A,l,c,q4,hP,hby,dT⟩:=nG (fun p:Ex×Tr=>wR p.1) (fun p=>p.2.at_ w (Old w) p.1∧p.2.ok) 7 Tryz.underlying22 qZ (by omega) (fun _=>rfl) (fun m hm cs x h1 h2=>ih m (by omega) cs x h1 h2) t4 hl4;simp at q0 qa q2 q3 q4;obtain⟨rfl,rfl,rfl⟩:=qa;subst q0 q2 q3 q4;rw[wQ] at hby;have Yx:l.length≤1599289640356:=by unfold reachBytes at hby;omega
     refine⟨(⟨n0,a,s,n3,A,l.length,c⟩,.mk n0 a s n3 (l.map (·.2))),rfl,?_,?_⟩
     ·dsimp only;unfold Tr.at_;refine⟨rfl,rfl,rfl,rfl,by simp,l.map (·.1),?_,oQ l fun p hp=>(hP p hp).1⟩;rcases dT with dT |⟨b,off,rfl,hb,dT⟩
      ·exact .inl (by simp[dT])
      ·refine .inr ⟨b,off,rfl,hb,fun i y hy=>?_⟩;obtain⟨p,hp,rfl⟩:∃p,l[i]?=some p∧p.1=y:=by simpa [List.getElem?_map] using hy
       have k:=fun j u hu=>dT i p j u hp hu
       exact⟨k 0 _ rfl,k 1 _ rfl,k 2 _ rfl,k 3 _ rfl,k 4 _ rfl,k 5 _ rfl,k 6 _ rfl⟩
     ·dsimp only;unfold Tr.ok;exact⟨ha,by simpa using Yx,MR f0,Bh f3,⟨QM,hk2⟩,oT l fun p hp=>(hP p hp).2⟩
theorem MS {fuel:Nat} {cs:List Value} {x:DataW H×List MemPlace}(h:DataW.trod enc Tryz.prog w base spare held fuel 43 cs=some x):∃a:ik,cs=CZ a∧0≤a.t∧a.t≤255:=by
 obtain⟨y0,y1,n,_,hl,t0,t1⟩:=trod_struct2 Tryz.underlying43 h;rw[zO] at hl
 match cs,hl with
 | [c0,c1],_=>simp only[nE,wP,List.drop_succ_cons,List.drop_zero,List.take_succ_cons,List.take_zero] at t0 t1;obtain⟨s,q0,_,f0⟩:=DataW.trod_string Tryz.underlying9 t0;obtain⟨n1,q1,_,f1⟩:=DataW.trod_int Tryz.underlying5 t1;simp at q0 q1;subst q0 q1;exact⟨⟨s,n1⟩,rfl,MR f1⟩
theorem JX {fuel:Nat} {cs:List Value} {x:DataW H×List MemPlace}(h:DataW.trod enc Tryz.prog w base spare held fuel 37 cs=some x)(hw:eu 37 x.1):
  ∃A l c,cs=[.slice A l.length c]∧RC w w.heap.size A l∧l.length≤140737488355328∧∀a∈l,0≤a.t∧a.t≤255:=by
 obtain⟨A,l,c,q,hP,hby,dT⟩:=nG CZ (fun a=>0≤a.t∧a.t≤255) 2 Tryz.underlying37 zO (by omega) (fun _=>rfl) (fun m hm cs x h1 _=>MS h1) h hw;rw[JU] at hby;refine⟨A,l,c,q,?_,by unfold reachBytes at hby;omega,hP⟩;rcases dT with dT |⟨b,off,rfl,hb,dT⟩
 ·exact .inl dT
 ·exact .inr ⟨b,off,rfl,hb,fun i y hy=>⟨dT i y 0 _ hy rfl,dT i y 1 _ hy rfl⟩⟩
theorem JY {fuel:Nat} {cs:List Value} {x:DataW H×List MemPlace}(h:DataW.trod enc Tryz.prog w base spare held fuel 38 cs=some x)(hw:eu 38 x.1):
  ∃A l c,cs=[.slice A l.length c]∧RV w w.heap.size A l∧l.length≤140737488355328∧∀a∈l,a.Ok∧0≤a.k∧a.k≤255:=by
 obtain⟨A,l,c,q,hP,hby,dT⟩:=nG dD (fun a=>a.Ok∧0≤a.k∧a.k≤255) 3 Tryz.underlying38 oP (by omega) (fun _=>rfl) (fun m hm cs x h1 _=>CX h1) h hw;rw[JV] at hby;refine⟨A,l,c,q,?_,by unfold reachBytes at hby;omega,hP⟩;rcases dT with dT |⟨b,off,rfl,hb,dT⟩
 ·exact .inl dT
 ·exact .inr ⟨b,off,rfl,hb,fun i y hy=>⟨dT i y 0 _ hy rfl,dT i y 1 _ hy rfl,dT i y 2 _ hy rfl⟩⟩
end
section
variable {H:Type} {enc:TypeId×Value→H} {W:World} {base:Nat} {v:Value} {d:DataW H} {p:List MemPlace}
theorem JZ (ok:Value.okWide Tryz.prog W .any base 37 v)(k:DataW.Trod enc Tryz.prog W 0 (fun _=>true) true 37 v d p)(hw:eu 37 d):
  ∃A l c,v=.slice A l.length c∧RC W W.heap.size A l∧l.length≤140737488355328∧∀a∈l,0≤a.t∧a.t≤255:=by
 obtain⟨a,len,cap,rfl⟩:=okWide_slice Tryz.underlying37 ok;obtain⟨fuel,hf⟩:=k;obtain⟨A,l,c,q,h⟩:=JX hf hw;refine⟨A,l,c,?_,h⟩;simp[Value.cells] at q;obtain⟨rfl,rfl,rfl⟩:=q;rfl
theorem Ka (ok:Value.okWide Tryz.prog W .any base 38 v)(k:DataW.Trod enc Tryz.prog W 0 (fun _=>true) true 38 v d p)(hw:eu 38 d):
  ∃A l c,v=.slice A l.length c∧RV W W.heap.size A l∧l.length≤140737488355328∧∀a∈l,a.Ok∧0≤a.k∧a.k≤255:=by
 obtain⟨a,len,cap,rfl⟩:=okWide_slice Tryz.underlying38 ok;obtain⟨fuel,hf⟩:=k;obtain⟨A,l,c,q,h⟩:=JY hf hw;refine⟨A,l,c,?_,h⟩;simp[Value.cells] at q;obtain⟨rfl,rfl,rfl⟩:=q;rfl
end
def Tr.op:Tr→Int | .mk op _ _ _ _=>op
def Tr.v:Tr→Val | .mk _ v _ _ _=>v
def Tr.name:Tr→ByteArray | .mk _ _ name _ _=>name
def Ip (n a b m:Int):Int:=wrap64 (wrap64 (wrap64 (wrap64 (n+1)+wrap64 (wrap64 (a / 5000)*2000))+wrap64 (wrap64 (b / 5000)*2000))+m)
mutual
def Tr.size:Tr→Int
 | .mk op v name width args=>Tr.oq 0 args
def Tr.oq:Int→List Tr→Int
 | n,[]=>n
 | n,.mk op v name width args::ts=>if n < 2000 then Tr.oq (Ip n name.size v.s.size (Tr.oq 0 args)) ts else n
end
theorem Tr.bJ.get {w:World} {S:Nat→Prop}:∀ {ts:List Tr} {ys:List Ex} {i:Nat} {t:Tr},Tr.bJ w S ts ys→ts[i]?=some t→∃y,ys[i]?=some y∧t.at_ w S y
 | [],ys,i,t,h,ht=>by simp at ht
 | x::ts,ys,0,t,h,ht=>by unfold Tr.bJ at h;obtain⟨y,ys',rfl,h2,h3⟩:=h;simp at ht;subst ht;exact⟨y,rfl,h2⟩
 | x::ts,ys,i+1,t,h,ht=>by unfold Tr.bJ at h;obtain⟨y,ys',rfl,h2,h3⟩:=h;have:=Tr.bJ.get h3 (i:=i) (t:=t) (by simpa using ht);simpa using this
def FL (w:World)(y:Ex)(n:Int):Prop:=∀W,Below w.heap.size w W→Calls Tryz.prog 6 #[.slice y.A y.n y.c] W fun e w'=>e=.returned (.int .i64 n)∧Below W.heap.size W w'
theorem Iq (A:Option Addr)(c:Nat)(ts:List Tr)(ys:List Ex)(w:World)(hl:ts.length≤1599289640356)(hall:Tr.bJ w (Old w) ts ys)(hA:RE w w.heap.size A ys)(hE:∀(i:Nat) (t:Tr) (y:Ex),ts[i]?=some t→ys[i]?=some y→FL w y t.size):
  Calls Tryz.prog 6 #[.slice A ts.length c] w fun e w'=>e=.returned (.int .i64 (Tr.oq 0 ts))∧Below w.heap.size w w':=by
 have HA:=hid hA;have HE:=hid hE;have HL:=hid hall;clear hA hE hall;go_enter Tryz.func6,Tryz.ntmps6;go_wp2_with fail;go_loopw [3,4] (fun nv i wr=>∃(k:Nat) (n:Int),k≤ts.length∧i=.int .i64 k∧nv=.int .i64 n∧Tr.oq 0 ts=Tr.oq n (ts.drop k)∧Below w.heap.size w wr) (fun _ i _=>ts.length - (intOf i).toNat);case atStart=>exact⟨0,0,Nat.zero_le _,rfl,rfl,rfl,Below.refl _ _⟩
 case round=>
  obtain⟨k,n,hk,rfl,rfl,hF,hb⟩:=hrel;have HF:=hid hF;clear hF;by_cases hlt:k < ts.length
  ·have HD:=hid (show ts.drop k=ts[k]::ts.drop (k+1)from List.drop_eq_getElem_cons hlt);obtain⟨y,hy,hat⟩:=HL.out.get (List.getElem?_eq_getElem hlt);have hsz:=HE.out k _ y (List.getElem?_eq_getElem hlt) hy;by_cases h2:n < 2000
   ·have M3:k < ys.length:=by
     rcases Nat.lt_or_ge k ys.length with h | h
     ·exact h
     ·rw[List.getElem?_eq_none h] at hy;cases hy
    obtain⟨b,off,rfl,Fe,hex⟩:=(HA.out.below hb).at_ M3;have oO:ys[k]=y:=by rw[List.getElem?_eq_getElem M3] at hy;simpa using hy
    rw[oO] at hex;clear oO hy M3;generalize ts[k]=t at*;obtain⟨top,tv,Db,wS,targs⟩:=t;unfold Tr.at_ at hat;have h4:=hat.2.1;have h5:=hat.2.2.1;clear hat;have HG:=hid (show Tr.oq n (.mk top tv Db wS targs::ts.drop (k+1))=Tr.oq (Ip n y.name.size y.v.s.size (Tr.size (.mk top tv Db wS targs))) (ts.drop (k+1)) by
     rw[h4,h5]
     conv=>lhs;unfold Tr.oq
     rw[if_pos h2]
     rfl)
    clear h4 h5;generalize Tr.size (.mk top tv Db wS targs)=m at*;have t1:=decide_eq_true h2;have F6:=fun x:Ext wr.heap.size wr=>(hex.keep (w':=x.w) fun o=>x.h.cell (p:=⟨b,o,none⟩) (Nat.lt_of_lt_of_le Fe hb.size))
    unfold cw at F6;have M4:=fun x:Ext wr.heap.size wr=>hsz x.w (ae.then hb x.h)
    go_wp2_with fail;refine bD 28 wr.heap.size wr (Below.refl _ _) (by kernel_rfl) (by kernel_rfl) (by kernel_rfl) (by kernel_rfl) ?_;simp only[List.take_succ_cons,List.take_zero,List.drop_succ_cons,List.drop_zero];repeat (go_big_quiet_step (fail))
    go_big_quiet_step ((go_at_call 6;exact aT (Nat.le_refl _) (M4 _)));repeat (go_big_quiet_step (fail))
    refine wpQuiet_nil ?_;rintro V4 ⟨x2,hx2⟩;have hW:=x2.h;rw[← hx2] at hW;clear hx2 x2 F6 hex;go_wp2_with fail;go_roundw;case rel=>refine⟨k+1,Ip n y.name.size y.v.s.size m,hlt,by go_num,by unfold Ip;rfl,?_,ae.then hb hW⟩;rw[HF.out,HD.out];exact HG.out
    case measure=>simp[intOf];omega
   ·have t1:=decide_eq_false h2;generalize ts[k]=t at*;obtain⟨top,tv,Db,wS,targs⟩:=t;have HG:=hid (show Tr.oq n (.mk top tv Db wS targs::ts.drop (k+1))=n by
     unfold Tr.oq
     rw[if_neg h2])
    clear hsz hat hy;go_wp2_with fail;go_ret;refine⟨?_,hb⟩;rw[HF.out,HD.out,HG.out];rfl
  ·go_wp2_with fail;go_ret;refine⟨?_,hb⟩;rw[HF.out,List.drop_eq_nil_of_le (by omega)];unfold Tr.oq;rfl
mutual
theorem Tr.QN:∀(t:Tr) (y:Ex) (w:World),t.ok→t.at_ w (Old w) y→FL w y t.size
 | .mk op v name width args,y,w,aZ,hat=>by intro W hb;have kI:=hat.later hb;unfold Tr.at_ at kI;obtain⟨h1,h2,h3,h4,h5,ys,h6,h7⟩:=kI;unfold Tr.ok at aZ;have k:=Iq y.A y.c args ys W aZ.2.1 h7 h6.old (Tr.wT args ys W aZ.2.2.2.2.2 h7);rw[h5];unfold Tr.size;exact k
theorem Tr.wT:∀(ts:List Tr) (ys:List Ex) (w:World),Tr.iO ts→Tr.bJ w (Old w) ts ys→∀(i:Nat) (t:Tr) (y:Ex),ts[i]?=some t→ys[i]?=some y→FL w y t.size
 | [],ys,w,_,_,i,t,y,ht,_=>by simp at ht
 | x::ts,ys,w,aZ,hat,i,t,y,ht,hy=>by
   unfold Tr.bJ at hat;unfold Tr.iO at aZ;obtain⟨y',ys',rfl,h2,h3⟩:=hat
   match i,ht,hy with
   | 0,ht,hy=>simp at ht hy;subst ht hy;exact Tr.QN x y' w aZ.1 h2
   | i+1,ht,hy=>exact Tr.wT ts ys' w aZ.2 h3 i t y (by simpa using ht) (by simpa using hy)
end
end Go.Proofs.YtfmbcoeallmnnaaGreatDoor
