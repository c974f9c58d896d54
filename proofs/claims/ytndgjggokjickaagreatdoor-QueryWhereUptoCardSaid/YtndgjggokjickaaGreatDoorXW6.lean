/- Parts of the proof. -/
import Derived.Lib.AppendZerosOnto
import Derived.Lib.Overlaps
import Derived.Test.YtndgjggokjickaaGreatDoorXW5
namespace Go.Proofs.YtndgjggokjickaaGreatDoor.R
variable{p:Prop}
set_option maxHeartbeats 90000000
set_option maxRecDepth 100000
open Go.ChangeShapes Go.WideShapes Go.ChangeAt Go.RowKit List
set_option linter.unusedVariables false
set_option linter.unusedSimpArgs false
structure ItC (ρ:dt) (w:World) (xs:List (Tr×ByteArray)) (r:dH) (k:Nat) (wr:World) (A:Option Addr) (n c:Nat) (acc ys:List (Tr×ByteArray)) (l:dH):Prop where
 at_:PuA rp 48 ρ w wr l 0 (.slice A n c) acc [.slice A n c,au,.bool false,az,az,az,az,az] {} {}
 more:SK l ys r
 aO:acc++ys=xs
 len:n=acc.length
 le:ys.length<=k
theorem aff (s:ByteArray)(l:dH)(ρ:dt)(w:World)(h:ρ.at w (.good l) false):ar 87 #[ρ.ptr,.string s] w λ e w'=>∃b,b=dI s.data.toList l/\e=.returned (.bool b)/\eG ρ w w' (.good (if b=true then l.tail else l)) false:=by
 cases hb:dI s.data.toList l with
 | false=>exact(cq ρ w _ false h s hb).mono λ e w' ⟨h1,h2⟩=>⟨false,rfl,h1,h2⟩
 | true=>exact(nT ρ w _ false h s hb).mono λ e w' ⟨h1,h2⟩=>⟨true,rfl,h1,h2⟩
variable{s:ByteArray}{l r:dH}{W:List Tr}
theorem D9(h:acs s.data.toList l W r)(ρ:dt)(w:World)(hat:ρ.at w (.good l) false):ar 142 #[ρ.ptr,.string s] w (SlW ρ w W r):=by
 cases h with
 | none h=>exact FW h ρ w hat
 | some h H=>exact Pu h H ρ w hat
variable{k0 kf nm:Wd}{l1 l2 l3 l4:dH}{xs:List (Tr×ByteArray)}{bT group:List Tr}{order:List (Tr×Bool)}{lim:List Int}
theorem zhI.Kb8(h:p:=by
 have HP:=LQ HS.ae.res { items:=Et,bS:=bS,bT:=⟨FY,FZ,Gb⟩,group:=sg,having:=⟨LS,LU,LV⟩,order:=so,dw:=Sl.nil };have HR:=dx HP;unfold zR nH at HR;obtain⟨r0,r1,r2,r3,r4,r5,r6,r7⟩:=HR;refine bodyPost_ret (v:=quV { items:=Et,bS:=bS,bT:=⟨FY,FZ,Gb⟩,group:=sg,having:=⟨LS,LU,LV⟩,order:=so,dw:=Sl.nil }) Zhd rfl ?_
 ·refine⟨{ items:=Et,bS:=bS,bT:=⟨FY,FZ,Gb⟩,group:=sg,having:=⟨LS,LU,LV⟩,order:=so,dw:=Sl.nil },rfl,?_,HS.ae.did.zR eh (Nat.le_refl _) { items:=Et,bS:=bS,bT:=⟨FY,FZ,Gb⟩,group:=sg,having:=⟨LS,LU,LV⟩,order:=so,dw:=Sl.nil }⟩;rw[ow.ae,<- KK.ae];exact Qu.at_.keep (jd WC) (HS.ae.at_.zR WC { items:=Et,bS:=bS,bT:=⟨FY,FZ,Gb⟩,group:=sg,having:=⟨LS,LU,LV⟩,order:=so,dw:=Sl.nil })):p:=h
theorem zhJ.Kb8(h:p:=by
 have HP:=LQ HS.ae.res { items:=Et,bS:=bS,bT:=⟨FY,FZ,Gb⟩,group:=sg,having:=⟨LS,LU,LV⟩,order:=so,dw:=⟨some ⟨Vb.heap.size,0,none⟩,1,1⟩};have HR:=dx HP;unfold zR nH at HR;obtain⟨r0,r1,r2,r3,r4,r5,r6,r7⟩:=HR;refine bodyPost_ret (v:=quV { items:=Et,bS:=bS,bT:=⟨FY,FZ,Gb⟩,group:=sg,having:=⟨LS,LU,LV⟩,order:=so,dw:=⟨some ⟨Vb.heap.size,0,none⟩,1,1⟩}) Zhd rfl ?_
 ·refine⟨{ items:=Et,bS:=bS,bT:=⟨FY,FZ,Gb⟩,group:=sg,having:=⟨LS,LU,LV⟩,order:=so,dw:=⟨some ⟨Vb.heap.size,0,none⟩,1,1⟩},rfl,?_,HS.ae.did.zR eh (Nat.le_refl _) { items:=Et,bS:=bS,bT:=⟨FY,FZ,Gb⟩,group:=sg,having:=⟨LS,LU,LV⟩,order:=so,dw:=⟨some ⟨Vb.heap.size,0,none⟩,1,1⟩}⟩;rw[ow.ae,<- KK.ae,<- hk.ae];exact Qu.at_.keep (jd WC) (HS.ae.at_.zR WC { items:=Et,bS:=bS,bT:=⟨FY,FZ,Gb⟩,group:=sg,having:=⟨LS,LU,LV⟩,order:=so,dw:=⟨some ⟨Vb.heap.size,0,none⟩,1,1⟩})):p:=h
theorem zcT.Kax(h:p:=by
 have HI0:=aa (Ce ha0 H0);have HM0:=aa Np;clear hF ih hit q1 q2 q3 q4 q5 Au Tn C3 hz Nj ha0 H0 Np;have hb2:=ai.then (ai.then (ah w quZ) (ah _ quZ)) (ah _ (.cells (bK [fk]) 9));have h0:=h.later hb2;have HQ:=aa (((aB.new w 27 #[az,au,.bool false,az,az,az,az,az]).alloc quZ).alloc (.cells (bK [fk]) 9));have hL0:=aB.new (w.alloc quZ) 27 #[az,au,.bool false,az,az,az,az,az];rw[World.size_alloc] at hL0;have HL:=aa (hL0.alloc (.cells (bK [fk]) 9));have hS0:=aB.new ((w.alloc quZ).alloc quZ) 9 (bK [fk]);rw[World.size_alloc,World.size_alloc] at hS0;clear hL0;unfold quZ at*;go_enter Tryz.func134,Tryz.ntmps134;go_wp2_with fail;refine(mb HF.ae ρ _ h0 (w.heap.size+2) hS0 WC).mono ?_;rintro e w1 ⟨rfl,d1⟩;have HA:=aa (show PuA rp 48 ρ w w1 l 0 (az) [] [az,au,.bool false,az,az,az,az,az] {} {} from⟨km.nil rp _ w1 _,(eG.cY h hb2).trans d1,HL.ae.grown d1.grown Tab,HQ.ae.grown d1.grown Tab,Qu.C6 _ _,rfl⟩);clear HL HQ hS0 h0 d1 hb2;go_wp2_with fail;refine(cq ρ w1 _ _ HA.ae.did.at_ ⟨#[42]⟩ IH.ae).mono ?_;rintro e w3 ⟨rfl,d3⟩;have Pz:=aa (HA.ae.Es eh d3);clear d3 HA;go_wp2_with fail;refine Py (E:=rp) (val:=itV) (T:=48) (q:=3) (d0:=10) (d1:=11) (d2:=12) (d3:=13) (d4:=14) (d5:=15) (d6:=16) (F:=178) 22 22 Pz.ae eh Tac WC (λ w' hw=>HI0.ae ρ w' hw) Va Va Va Va rfl rfl ?_ ?_ ?_ ?_ ?_ ?_ ?_ Tryz.underlying22 FX rfl Taa (λ _=>rfl) (by intro y u hu;replace hu:u∈SG y:=hu;simp[SG,bF] at hu;rcases hu with rfl | rfl | rfl | rfl | rfl | rfl | rfl | rfl <;> rfl) ?_
 ·exact Zb6
 ·exact Zb6
 ·exact Zds
 ·exact Zb6
 ·exact Zes
 ·exact ZfK
 ·exact ZfI
 intro y s v' W A4 cf hxf;obtain⟨⟨A,n,c⟩,Kx,Nu,_⟩:=A4.row.sl (B':=w.heap.size) WC;replace Kx:v'=.slice A n c:=Kx;replace Nu:n=1:=Nu;subst Kx;have HI:=aa (show ItC ρ w ((x0,ByteArray.empty)::ys0) (kf::nm::l1) ys0.length (W.setCell ⟨w.heap.size+1,0,none⟩ (.slice A n c)) A n c [(x0,ByteArray.empty)] ys0 (c0::l0)from⟨A4,HM0.ae,rfl,Nu,Nat.le_refl _⟩);clear A4 Nu HM0 HI0 Pz;simp only[Act.put,Uac];go_wp2_with fail;clear hxf cf;generalize W.setCell ⟨w.heap.size+1,0,none⟩ (.slice A n c)=W4 at*;generalize hXS:(x0,ByteArray.empty)::ys0=xs at*;have ow:=aa hXS;clear hXS;generalize ys0.length=kk at*;generalize [(x0,ByteArray.empty)]=aAx at*;generalize c0::l0=lc at*;go_loopg [] kk (λ k wr=>∃A n c acc ys l',ItC ρ w xs (kf::nm::l1) k wr A n c acc ys l');case atStart=>exact⟨_,_,_,_,_,_,HI.ae⟩
 case round=>
  obtain⟨A2,n2,c2,acc,ys,l',hE⟩:=hrel;have hlen:acc.length<=64:=by have:=Q1.ae;rw[<- hE.aO,length_append] at this;omega
  have x0:=hE.at_.blk.cell 0;simp only[Uaa] at x0;have Ns:=hE.at_.blk.lt;have HN:=aa hE.len;have HE:=aa hE;have UC:=aa hlen;clear hE HI hlen;go_wp2_with fail;rcases HE.ae.more with ⟨hc⟩|⟨hc,hit⟩
  ·refine(Calls.mono (P:=Tryz.prog) (by rw[HN.ae];exact IQ hc acc.length UC.ae ρ wr HE.ae.at_.did.at_) ?_);rintro e w8 ⟨rfl,d8⟩;have hA:=HE.ae.at_.Es eh d8;obtain⟨Et,amM,hn8,LR⟩:=hA.row.sl (B':=w.heap.size+2) (Nat.le_refl _);clear hn8;have hax:acc=xs:=by have:=HE.ae.aO;rwa [append_nil] at this
   have UK:=aa (hA.done (m':= { items:=Et }) (d':= { items:=xs }) (by rw[amM];rfl) { Qu.C6 w8 _ with items:=hax▸LR });clear LR amM hA d8 hax hc;have Xt:=UK.ae.blk.lt;have bf:=ah w8 (.cells (bK [xz]) 9);have HQF:=aa (UK.ae.later bf);clear HE UK;go_wp2_with fail;refine(mb HFN.ae ρ _ HQF.ae.did.at_ w8.heap.size (aB.new _ _ _) WC).mono ?_;rintro e w4 ⟨rfl,d4⟩;have yS:=aa (HQF.ae.Es eh d4);clear HQF d4 bf;go_wp2_with fail;refine(cq ρ _ _ _ yS.ae.did.at_ ⟨#[111,110,108,121]⟩ Q3.ae).mono ?_;rintro e w5 ⟨rfl,d5⟩;have hQ3:=yS.ae.Es eh d5;have D8:=aa (hQ3.set (m':= { items:=Et }) (d':= { items:=xs }) eh 2 (.bool false) rfl hQ3.at_);have hf2:=hQ3.blk.frozen 2;have hc2:=hQ3.blk.cell 2;clear hQ3 d5 yS;go_wp2_with fail;clear hf2 hc2;generalize w5.setCell ⟨w.heap.size+1,2,none⟩ (.bool false)=W6 at*;refine(Ca Q4.ae Q5.ae ρ _ D8.ae.did.at_).mono ?_;rintro e w6 ⟨bS,amO,rfl,d6⟩;have KK:=aa amO;clear amO;have hQ5:=D8.ae.Es eh d6;have zP:=aa (hQ5.set (m':= { items:=Et,bS:=bS }) (d':= { items:=xs,bS:=bS }) eh 1 (.string bS) rfl { hQ5.at_ with bS:=rfl });have hf1:=hQ5.blk.frozen 1;have hc1:=hQ5.blk.cell 1;clear hQ5 d6 D8;go_wp2_with fail;clear hf1 hc1;generalize w6.setCell ⟨w.heap.size+1,1,none⟩ (.string bS)=W7 at*;refine(D9 (s:=⟨#[119,104,101,114,101]⟩) oy.ae ρ _ zP.ae.did.at_).mono ?_;rintro e w7 ⟨⟨FY,FZ,Gb⟩,rfl,hsw,d7⟩;have hs7:=zP.ae.did.size;have hq7:=zP.ae.blk.lt;have hQ7:=zP.ae.Es eh d7;have IJ:=aa (hQ7.set (m':= { items:=Et,bS:=bS,bT:=⟨FY,FZ,Gb⟩}) (d':= { items:=xs,bS:=bS,bT:=bT }) eh 3 (.slice FY FZ Gb) rfl { hQ7.at_ with bT:=El.lies.more hsw WC})
   have hf3:=hQ7.blk.frozen 3;have hc3:=hQ7.blk.cell 3;clear hQ7 d7 hsw zP;unfold nH at*;go_upto_if 42 with fail;clear hf3 hc3;generalize w7.setCell ⟨w.heap.size+1,3,none⟩ (.slice FY FZ Gb)=W8 at*;refine(aff ⟨#[103,114,111,117,112]⟩ l2 ρ _ IJ.ae.did.at_).mono ?_;rintro e w8 ⟨bg,hbg,rfl,d8⟩;have HBG:=aa hbg;have SD:=aa d8;clear hbg d8;go_upto_if 42 with fail;go_cut [] (λ wx=>∃sg,Xw ρ w wx l3 { items:=Et,bS:=bS,bT:=⟨FY,FZ,Gb⟩,group:=sg } { items:=xs,bS:=bS,bT:=bT,group:=group })
   case first=>
    rcases F2.ae with ⟨hg⟩|⟨hk,hb,hc,H⟩
    ·obtain rfl:bg=false:=HBG.ae.trans hg;have HQ9:=aa (IJ.ae.Es eh SD.ae);clear SD hg IJ;go_wp2_with fail;go_meet;exact⟨_,HQ9.ae⟩
    ·obtain rfl:bg=true:=HBG.ae.trans hk;have d8:=SD.ae;replace hb:=aa hb;replace hc:=aa hc;have HQ9:=aa ((IJ.ae.Es eh d8).later (ah w8 (.cells (bK [OO]) 9)));have hw8:=d8.size;have hs8:=IJ.ae.did.size;clear d8 SD hk IJ;go_wp2_with fail;refine(mb hb.ae ρ _ HQ9.ae.did.at_ w8.heap.size (aB.new _ _ _) WC).mono ?_;rintro e w9 ⟨rfl,d9⟩;have xK:=aa (HQ9.ae.Es eh d9);clear d9 HQ9;go_wp2_with fail;refine(Ve hc.ae H ρ _ xK.ae.did.at_).mono ?_;rintro e uj ⟨⟨sgA,Fl,sgc⟩,rfl,hsg,d10⟩;have IK:=xK.ae.blk.lt;have Cf:=xK.ae.Es eh d10;have IU:=aa (Cf.set (m':= { items:=Et,bS:=bS,bT:=⟨FY,FZ,Gb⟩,group:=⟨sgA,Fl,sgc⟩}) (d':= { items:=xs,bS:=bS,bT:=bT,group:=[_] }) eh 4 (.slice sgA Fl sgc) rfl { Cf.at_ with group:=El.lies.more hsg WC});have hf4:=Cf.blk.frozen 4;have hc4:=Cf.blk.cell 4;clear Cf d10 hsg xK;unfold nH;go_wp2_with fail;go_meet;exact⟨_,IU.ae⟩
   case rest=>
    obtain⟨sg,hQ⟩:=hcut;have HQ9:=aa hQ;clear hQ IJ SD;go_wp2_with fail;refine(FW (s:=⟨#[104,97,118,105,110,103]⟩) Ag.ae ρ _ HQ9.ae.did.at_).mono ?_;rintro e w11 ⟨⟨LS,LU,LV⟩,rfl,hsh,d11⟩;have aAy:=HQ9.ae.blk.lt;have Cf:=HQ9.ae.Es eh d11;have IU:=aa (Cf.set (m':= { items:=Et,bS:=bS,bT:=⟨FY,FZ,Gb⟩,group:=sg,having:=⟨LS,LU,LV⟩}) (d':= { items:=xs,bS:=bS,bT:=bT,group:=group }) eh 5 (.slice LS LU LV) rfl { Cf.at_ with having:=El.lies.more hsh WC});have hf5:=Cf.blk.frozen 5;have hc5:=Cf.blk.cell 5;clear Cf d11 hsh HQ9;unfold nH;go_upto_if 53 with fail;clear hf5 hc5;generalize w11.setCell ⟨w.heap.size+1,5,none⟩ (.slice LS LU LV)=W12 at*;refine(aff ⟨#[111,114,100,101,114]⟩ l3 ρ _ IU.ae.did.at_).mono ?_;rintro e w12 ⟨bo,Cg,rfl,d12⟩;have HBO:=aa Cg;have E0:=aa d12;clear Cg d12;go_upto_if 53 with fail;go_cut [] (λ wx=>∃so,Xw ρ w wx l4 { items:=Et,bS:=bS,bT:=⟨FY,FZ,Gb⟩,group:=sg,having:=⟨LS,LU,LV⟩,order:=so } { items:=xs,bS:=bS,bT:=bT,group:=group,order:=order })
    case first=>
     rcases gX.ae with ⟨hg⟩|⟨hk,hb,hd,hc,H⟩
     ·obtain rfl:bo=false:=HBO.ae.trans hg;have zS:=aa (IU.ae.Es eh E0.ae);clear E0 hg IU;go_wp2_with fail;go_meet;exact⟨_,zS.ae⟩
     ·obtain rfl:bo=true:=HBO.ae.trans hk;have d12:=E0.ae;replace hb:=aa hb;replace hc:=aa hc;have HOD:=aa (Pv hd H);have zS:=aa ((IU.ae.Es eh d12).later (ah w12 (.cells (bK [OO]) 9)));have aAB:=IU.ae.did.size;have aAC:=d12.size;clear d12 E0 hk hd H IU;go_wp2_with fail;refine(mb hb.ae ρ _ zS.ae.did.at_ w12.heap.size (aB.new _ _ _) WC).mono ?_;rintro e SF ⟨rfl,d13⟩;have E1:=zS.ae.Es eh d13;have HP:=aa (show PuA sB 117 ρ w SF _ 6 (az) [] _ { items:=Et,bS:=bS,bT:=⟨FY,FZ,Gb⟩,group:=sg,having:=⟨LS,LU,LV⟩} { items:=xs,bS:=bS,bT:=bT,group:=group } from⟨km.nil sB _ SF _,E1.did,E1.blk,E1.res,Qu.at_.keep (λ b hb=>⟨λ _=>rfl,hb.1,hb.2,by simp[Value.ownBlock]⟩) E1.at_,rfl⟩);clear E1 d13 zS;go_wp2_with fail;refine Py (E:=sB) (val:=orV) (T:=117) (q:=3) (d0:=57) (d1:=58) (d2:=59) (d3:=60) (d4:=61) (d5:=62) (d6:=63) (F:=180) 24 24 HP.ae eh Tac WC (λ w' hw=>HOD.ae ρ w' hw) Va Va Va Va rfl rfl ?_ ?_ ?_ ?_ ?_ ?_ ?_ Tryz.underlying24 Px rfl Taa (λ _=>rfl) (by intro y u hu;replace hu:u∈D4 y:=hu;simp[D4,bF] at hu;rcases hu with rfl | rfl | rfl | rfl | rfl | rfl | rfl | rfl <;> rfl) ?_
      ·exact Zb6
      ·exact Zb6
      ·exact Zds
      ·exact Zb6
      ·exact Zes
      ·intro ρ' w' y' h';show _=Result.ok _ (w'.alloc (.cells (D4 y').toArray _));simp[go_sem,h',orV,D4,bF]
      ·exact ZfI
      intro y s v' W A4 cf hxf;obtain⟨⟨A,n,c⟩,Kx,Nu,LR⟩:=A4.row.sl (B':=w.heap.size+2) (Nat.le_refl _);replace Kx:v'=.slice A n c:=Kx;replace Nu:n=1:=Nu;subst Kx Nu;have acu:=aa (A4.done (m':= { items:=Et,bS:=bS,bT:=⟨FY,FZ,Gb⟩,group:=sg,having:=⟨LS,LU,LV⟩,order:=⟨A,1,c⟩}) (d':= { items:=xs,bS:=bS,bT:=bT,group:=group,order:=[_] }) rfl { Qu.at_.keep (LN (Nat.le_refl _)) A4.at_ with order:=LR });clear A4 LR HP HOD;simp only[Act.put,Uac];go_wp2_with fail;clear hxf cf;generalize atD:W.setCell ⟨w.heap.size+1,6,none⟩ (.slice A 1 c)=W16 at*;clear atD;go_loopg [] 0 (λ k wr=>wr=W16);case atStart=>exact rfl
      case round=>subst hrel;have x6:=acu.ae.blk.cell 6;unfold LH nH at x6;simp only[Uaa] at x6;go_wp2_with fail;refine(IQ hc.ae 1 WC ρ _ acu.ae.did.at_).mono ?_;rintro e w17 ⟨rfl,d17⟩;have atE:=aa (acu.ae.Es eh d17);clear d17 acu;go_wp2_with fail;go_meet;exact⟨_,atE.ae⟩
    case rest=>
     obtain⟨so,hQ⟩:=hcut;have zS:=aa hQ;clear hQ IU E0;go_wp2_with fail;rcases G9.ae with ⟨hg⟩|⟨hk,hn⟩
     ·refine(cq ρ _ _ _ zS.ae.did.at_ ⟨#[108,105,109,105,116]⟩ hg).mono ?_;rintro e Vb ⟨rfl,d14⟩;have HS:=aa (zS.ae.Es eh d14);clear d14 hg zS;open zhI in exact ZfN
     ·refine(nT ρ _ _ _ zS.ae.did.at_ ⟨#[108,105,109,105,116]⟩ hk).mono ?_;rintro e SF ⟨rfl,d13⟩;have acv:=aa (zS.ae.Es eh d13);replace hn:=aa hn;clear d13 hk zS;go_wp2_with fail;refine(LB hn.ae ρ _ acv.ae.did.at_).mono ?_;rintro e Vb ⟨k,hk,hk0,DR,rfl,d14⟩;replace hk:=aa hk;have b15:=ah Vb (.cells #[af k] 2);have E3:=(acv.ae.Es eh d14).later b15;have amB:=(acv.ae.Es eh d14).blk.lt;have hf7:=E3.blk.frozen 7;have hc7:=E3.blk.cell 7;have HS:=aa (E3.set (m':= { items:=Et,bS:=bS,bT:=⟨FY,FZ,Gb⟩,group:=sg,having:=⟨LS,LU,LV⟩,order:=so,dw:=⟨some ⟨Vb.heap.size,0,none⟩,1,1⟩}) (d':= { items:=xs,bS:=bS,bT:=bT,group:=group,order:=order,dw:=[k] }) eh 7 (aI Vb.heap.size 1 1) rfl { E3.at_ with dw:=acr (aB.new Vb _ _) ⟨by omega,by simp⟩});clear E3 d14 b15 amB acv;open zhJ in exact ZfN
  ·obtain⟨x9,ys9,c9,l9,rfl,H9,ha9,hm9⟩:=hit.first
   refine(Calls.mono (P:=Tryz.prog) (by rw[HN.ae];exact D7 hc acc.length UC.ae ρ wr HE.ae.at_.did.at_) ?_);rintro e w8 ⟨rfl,d8⟩;have HI9:=aa (Ce ha9 H9);have HM9:=aa hm9;have HA8:=aa (HE.ae.at_.Es eh d8);clear d8 hc hit H9 ha9 hm9;go_wp2_with fail;refine Py (E:=rp) (val:=itV) (T:=48) (q:=3) (d0:=22) (d1:=23) (d2:=24) (d3:=25) (d4:=26) (d5:=27) (d6:=28) (F:=178) 22 22 HA8.ae eh UC.ae WC (λ w' hw=>HI9.ae ρ w' hw) Va Va Va Va rfl rfl ?_ ?_ ?_ ?_ ?_ ?_ ?_ Tryz.underlying22 FX rfl Taa (λ _=>rfl) (by intro y u hu;replace hu:u∈SG y:=hu;simp[SG,bF] at hu;rcases hu with rfl | rfl | rfl | rfl | rfl | rfl | rfl | rfl <;> rfl) ?_
   ·exact Zb6
   ·exact Zb6
   ·exact Zds
   ·exact Zb6
   ·exact Zes
   ·exact ZfK
   ·exact ZfI
   intro y s v' W A4 cf hxf;obtain⟨⟨A9,n9,c10⟩,Kx,Nu,_⟩:=A4.row.sl (B':=w.heap.size) WC;replace Kx:v'=.slice A9 n9 c10:=Kx;subst Kx;have HI9:=aa (show ItC ρ w xs (kf::nm::l1) ys9.length (W.setCell ⟨w.heap.size+1,0,none⟩ (.slice A9 n9 c10)) A9 n9 c10 (acc++ [(x9,ByteArray.empty)]) ys9 (c9::l9)from⟨A4,HM9.ae,by rw[append_assoc];exact HE.ae.aO,Nu,Nat.le_refl _⟩);clear A4 Nu;simp only[Act.put,Uac];go_wp2_with fail;go_roundg ys9.length;case measure=>have:=HE.ae.le;rw[length_cons] at this;omega
   case rel=>exact⟨_,_,_,_,_,_,HI9.ae⟩):p:=h
theorem Aw(hF:iV fk k0=true)(ih:dI xA l=false)(hit:uo l xs (kf::nm::l1))(q1:xs.length<=64)(q2:iV xz kf=true)(q3:iV agY nm=false)(q4:nm.k=1)(q5:sY nm.s=false)(Au:acs Iu l1 bT l2)(Tn:ahz l2 group l3)(C3:dI Zp l3=false)(hz:ahA l3 order l4)(Nj:ahB l4 lim r)(ρ:dt)(w:World)(h:ρ.at w (.good (k0::l)) false):
  ar 134 #[ρ.ptr] w λ e w'=>∃y:xM,e=.returned (quV y)/\Qu.at_ w' (jm w.heap.size w') { items:=xs,bS:=⟨nm.s.toArray⟩,bT:=bT,group:=group,order:=order,dw:=lim } y/\eG ρ w w' (.good r) false:=by
 have eh:=h.FP;obtain⟨x0,ys0,c0,l0,rfl,H0,ha0,Np⟩:=hit.first
 open zcT in exact Zbb
end Go.Proofs.YtndgjggokjickaaGreatDoor.R
namespace Go.Proofs.YtndgjggokjickaaGreatDoor
set_option maxHeartbeats 90000000
set_option maxRecDepth 100000
open Go.ChangeShapes Go.WideShapes Go.ChangeAt Go.RowKit List
set_option linter.unusedVariables false
set_option linter.unusedSimpArgs false
theorem ub (y:Ex):(bF y).length=7:=rfl
theorem PB (b o j:Nat):(Addr.add ⟨b,o,none⟩ j)=⟨b,o+j,none⟩:=by unfold Addr.add;split <;> simp_all
variable{α:Type}{f:α->List Value}
theorem Ch{size:Nat}(hf:∀x,(f x).length=size)(h0:0 < size):∀(l:List α) (j:Nat) (u:Value),(l.flatMap f)[j]?=some u->∃k r x,j=k*size+r/\r < size/\l[k]?=some x/\(f x)[r]?=some u
 | [],j,u,h=>by simp at h
 | y::l,j,u,h=>by
   rw[flatMap_cons] at h;by_cases hj:j < size
   ·rw[getElem?_append_left (by rw[hf];exact hj)] at h;exact⟨0,j,y,by omega,hj,rfl,h⟩
   ·rw[getElem?_append_right (by rw[hf];omega),hf] at h;obtain⟨k,r,x,h1,hr,h2,h3⟩:=Ch hf h0 l _ u h;exact⟨k+1,r,x,by rw[Nat.succ_mul];omega,hr,by simpa using h2,h3⟩
theorem afg:∀ys:List Ex,(ys.flatMap bF).length=ys.length*7
 | []=>rfl
 | y::ys=>by rw[flatMap_cons,length_append,afg ys,ub,length_cons];omega
variable{w:World}{b r:Nat}{x:Ex}{u:Value}
theorem acw{off:Nat}  (h:cw w b off x)(hr:r < 7)(hu:(bF x)[r]?=some u):w.cell? ⟨b,off+r,none⟩=some u:=by
 unfold cw at h;obtain⟨c0,c1,c2,c3,c4,c5,c6⟩:=h;unfold bF at hu
 match r,hr with
 | 0,_=>rw[<- hu];exact c0
 | 1,_=>rw[<- hu];exact c1
 | 2,_=>rw[<- hu];exact c2
 | 3,_=>rw[<- hu];exact c3
 | 4,_=>rw[<- hu];exact c4
 | 5,_=>rw[<- hu];exact c5
 | 6,_=>rw[<- hu];exact c6
variable{B:Nat}
theorem RE.reads{A:Option Addr} {ys:List Ex}(h:RE w B A ys):Reads w B 7 A ys.length (ys.flatMap bF):=by
 refine⟨afg ys,λ hn=>?_⟩;rcases h with h |⟨b,off,hA,hb,hc⟩
 ·subst h;simp at hn
 ·refine⟨⟨b,off,none⟩,hA,hb,λ j u hu=>?_⟩;obtain⟨k,r,x,rfl,hr,h2,h3⟩:=Ch ub WC ys j u hu;rw[PB,<- Nat.add_assoc];exact acw (hc k x h2) hr h3
theorem PD:∀(ys:List Ex),∀u∈ys.flatMap bF,u.oneCell'=true:=by
 intro ys u hu;obtain⟨y,_,hu⟩:=List.mem_flatMap.1 hu;simp[bF] at hu;rcases hu with rfl | rfl | rfl | rfl | rfl | rfl | rfl <;> rfl
structure tI where
 A:Option Addr
 c:Nat
 ys:List Ex
def RL (w:World)(B:Nat)(P:Option Addr)(l:List tI):Prop:=∃b off,P=some ⟨b,off,none⟩/\b < B/\∀i x,l[i]?=some x->w.cell? ⟨b,off+i,none⟩=some (.slice x.A x.ys.length x.c)/\RE w B x.A x.ys
variable{w':World}{P:Option Addr}{l:List tI}
theorem RL.later(h:RL w w.heap.size P l)(hb:aj w w'):RL w' w'.heap.size P l:=by obtain⟨b,off,h1,h2,h3⟩:=h;exact⟨b,off,h1,Nat.lt_of_lt_of_le h2 hb.size,λ i x hx=>⟨(hb.cell (p:=⟨b,off+i,none⟩) h2).trans (h3 i x hx).1,(h3 i x hx).2.later hb⟩⟩
def lr (l:List tI):Nat:=(l.map λ x=>x.ys.length).sum
theorem Gc (l:List tI)(x:tI):lr (l++ [x])=lr l+x.ys.length:=by simp[lr]
theorem Gd (l:List tI)(k:Nat):lr (l.take k)<=lr l:=by
 have:lr l=lr (l.take k)+lr (l.drop k):=by unfold lr;rw[<- sum_append_nat,<- map_append,take_append_drop]
 omega
theorem uq (P:Option Addr)(c:Nat)(l:List tI)(w:World)(hn:l.length<=1000)(hl:lr l<=1000000)(Kx:RL w w.heap.size P l):
  ar 35 #[.slice P l.length c] w λ e w'=>∃v,e=.returned v/\aF bF 46 7 w' w.heap.size v (l.flatMap tI.ys)/\aj w w':=by
 have HR:=aa Kx;have zL:=aa hl;clear Kx hl;go_enter Tryz.func35,Tryz.ntmps35;go_wp2_with fail;go_loop [3,11] (λ s i=>∃k:Nat,k<=l.length/\i=af k/\s=af (lr (l.take k):Nat)) (λ _ i=>l.length - (intOf i).toNat);case atStart=>exact⟨0,Nat.zero_le _,rfl,rfl⟩
 case round=>
  obtain⟨k,hk,rfl,rfl⟩:=hrel;by_cases hlt:k < l.length
  ·obtain⟨b,off,rfl,hb,hc⟩:=id HR.ae;have hx:=(hc k l[k] (getElem?_eq_getElem hlt)).1;have nt:=aa (show lr (l.take (k+1))=lr (l.take k)+l[k].ys.length by rw[take_add_one,getElem?_eq_getElem hlt];exact Gc _ _);have h1:=Gd l (k+1);have h2:=nt.ae;have h3:=zL.ae;generalize l[k]=x at*;have h4:lr (l.take k)+x.ys.length<=1000000:=by omega
   generalize lr (l.take k)=s0 at*;have t1:decide ((s0:Int)+(x.ys.length:Int)< 0)=false:=decide_eq_false WC;clear hc h1 h2 h3;go_wp2_with fail;go_round;case rel=>exact⟨k+1,hlt,by go_num,by rw[nt.ae];simp⟩
   case measure=>exact Za0
  ·have fw:k=l.length:=by omega
   subst fw;have lN:lr (l.take l.length)=lr l:=by rw[take_length]
   rw[lN];have hgr:=Zl (lr l) zL.ae w;have xO:=aa hgr;clear hgr lN hlt hk;go_wp2_with fail;refine xO.ae.mono ?_;rintro e w1 ⟨v1,rfl,hR,Wo⟩;have xP:=aa hR;have GQ:=aa Wo;clear hR Wo xO;go_wp2_with fail;go_loopw [6,27] (λ v i wr=>∃k:Nat,k<=l.length/\i=af k/\aF bF 46 7 wr w.heap.size v ((l.take k).flatMap tI.ys)/\aj w wr) (λ _ i _=>l.length - (intOf i).toNat);case atStart=>exact⟨0,Nat.zero_le _,rfl,xP.ae,GQ.ae⟩
   case round=>
    clear xP GQ;obtain⟨k,hk,rfl,hp,hb⟩:=hrel;have HK:=aa hp;clear hp;by_cases hlt:k < l.length
    ·have hRL:=HR.ae.later hb;obtain⟨b,off,rfl,kz,hc⟩:=hRL;have hx:=hc k l[k] (getElem?_eq_getElem hlt);have nt:=aa (show(l.take (k+1)).flatMap tI.ys=(l.take k).flatMap tI.ys++l[k].ys by rw[take_add_one,getElem?_eq_getElem hlt,flatMap_append];simp)
     have hle:((l.take k).flatMap tI.ys).length+l[k].ys.length<=1000000:=by
      have h1:=Gd l (k+1);have h2:lr (l.take (k+1))=lr (l.take k)+l[k].ys.length:=by rw[take_add_one,getElem?_eq_getElem hlt];exact Gc _ _
      have h3:=zL.ae;have h4:((l.take k).flatMap tI.ys).length=lr (l.take k):=by rw[length_flatMap];rfl
      omega
     generalize l[k]=x at*;generalize (l.take k).flatMap tI.ys=ys at*;obtain⟨hx1,hx2⟩:=hx;have ur:=aa hx2.reads;have hbase:=hb.size;clear hc hx2;obtain⟨i0,kR,hg4,ox,HZ⟩:=info_parts fL;have HI:=aa kR;have JT:=aa hg4;have Gn:=aa ox;have qu:=aa HZ;clear kR hg4 ox HZ;go_wp2_with (first
      |(at_builtin
        refine cN wr rfl (.tmp 31) (.tmp 32) 23 rfl w.heap.size 46 i0 _ 7 88 Tryz.underlying23 HI.ae JT.ae Gn.ae qu.ae rfl WC _ ys.length (ys.flatMap bF) rfl HK.ae wr.heap.size x.A x.ys.length x.c (x.ys.flatMap bF) rfl ur.ae (PD _) Tam WC hbase ?_
        intro v4 w4 o4 g4 _
        have b4:=bj HK.ae g4 hbase
        have O4:=aa o4
        clear o4 g4 HK))
     go_roundw;case rel=>refine⟨k+1,hlt,by go_num,?_,hb.trans b4⟩;rw[nt.ae];unfold aF;rw[length_append,flatMap_append];exact O4.ae
     case measure=>exact Za0
    ·have fw:k=l.length:=by omega
     subst fw;rw[take_length] at HK;go_wp2_with fail;go_ret;exact⟨_,rfl,HK.ae,hb⟩
end Go.Proofs.YtndgjggokjickaaGreatDoor
namespace Go.Proofs.YtndgjggokjickaaGreatDoor.R
set_option maxHeartbeats 90000000
set_option maxRecDepth 100000
open Go.ChangeShapes Go.WideShapes Go.ChangeAt Go.RowKit List
set_option linter.unusedVariables false
set_option linter.unusedSimpArgs false
theorem sL (m:C7):(sK m).toArray.size=28:=rfl
theorem PE (m:C7):(sK m).toArray.all (·.oneCell')=true:=by simp[sK,LH,C8,nH,Value.oneCell']
theorem px:(Tryz.prog.info? 64).map (·.size)=some 28:=by exact Zgn
section
variable {w wr wr':World} {S:Nat->Prop} {v v':Value} {acc l:List Tr} {B:Nat}
end
section
variable {P:Program} {J:List Value->World->Prop} {w0:World} {Q:Exit->Act->World->Prop} {a0:Act} {id:Nat} {o0 o1 o2 o3 o4 o5 o6 o7 o8 o9 qz:Oper} {q s d0 d1 d2 d3 d4 d5 d6 d7 d8 d9:Tmp} {pq v0 p1 p2 p3 s1 s2 s3:Value} {A1 A2 A3:Addr}
end
end Go.Proofs.YtndgjggokjickaaGreatDoor.R
namespace Go.Proofs.YtndgjggokjickaaGreatDoor
open List
set_option maxHeartbeats 90000000
set_option maxRecDepth 100000
open Go.RowKit
set_option linter.unusedVariables false
def E4 (o0 o1 o2 o3 o4 o5 o6 o7 o8 o9:Oper)(q s d0 d1 d2 d3 d4 d5 d6 d7 d8 d9:Tmp):Bool:=
 (tmpsOf o0== [s])&&(cW [o0,o1,o2,o3,o4,o5,o6,o7,o8,o9] o0 s==none)&&(tmpsOf o1== [q])&&(cW [o0,o1,o2,o3,o4,o5,o6,o7,o8,o9] o1 q==none)&&(tmpsOf o2== [d1])&&(cW [o0,o1,o2,o3,o4,o5,o6,o7,o8,o9] o2 d1==some 1)&&(tmpsOf o3== [d0,d2])&&(cW [o0,o1,o2,o3,o4,o5,o6,o7,o8,o9] o3 d0==some 0)&&(cW [o0,o1,o2,o3,o4,o5,o6,o7,o8,o9] o3 d2==some 2)&&(tmpsOf o4== [q])&&(cW [o0,o1,o2,o3,o4,o5,o6,o7,o8,o9] o4 q==none)&&(tmpsOf o5== [d4])&&(cW [o0,o1,o2,o3,o4,o5,o6,o7,o8,o9] o5 d4==some 4)&&(tmpsOf o6== [d3,d5])&&(cW [o0,o1,o2,o3,o4,o5,o6,o7,o8,o9] o6 d3==some 3)&&(cW [o0,o1,o2,o3,o4,o5,o6,o7,o8,o9] o6 d5==some 5)&&(tmpsOf o7== [q])&&(cW [o0,o1,o2,o3,o4,o5,o6,o7,o8,o9] o7 q==none)&&(tmpsOf o8== [d7])&&(cW [o0,o1,o2,o3,o4,o5,o6,o7,o8,o9] o8 d7==some 7)&&(tmpsOf o9== [d6,d8])&&(cW [o0,o1,o2,o3,o4,o5,o6,o7,o8,o9] o9 d6==some 6)&&(cW [o0,o1,o2,o3,o4,o5,o6,o7,o8,o9] o9 d8==some 8)&&(o0.dst==some d0)&&(o1.dst==some d1)&&(o2.dst==some d2)&&(o3.dst==some d3)&&(o4.dst==some d4)&&(o5.dst==some d5)&&(o6.dst==some d6)&&(o7.dst==some d7)&&(o8.dst==some d8)&&(o9.dst==some d9)&& o0.guard.isNone && o1.guard.isNone && o2.guard.isNone && o3.guard.isNone && o4.guard.isNone && o5.guard.isNone && o6.guard.isNone && o7.guard.isNone && o8.guard.isNone && o9.guard.isNone
section
variable {P:Program} {J:List Value->World->Prop} {w0:World} {Q:Exit->Act->World->Prop} {a0:Act} {id:Nat} {o0 o1 o2 o3 o4 o5 o6 o7 o8 o9 qz:Oper} {q s d0 d1 d2 d3 d4 d5 d6 d7 d8 d9:Tmp} {pq v0 p1 p2 p3 s1 s2 s3:Value} {A1 A2 A3:Addr}
theorem LW (t:TypeId)
  (nK:∀vs w,J vs w->J vs w.drew) (hJ:J [] w0)
  (hm:P.follows .mixedOrders=true) (aZ:dN [o0,o1,o2,o3,o4,o5,o6,o7,o8,o9] a0.tmps.size [o0,o1,o2,o3,o4,o5,o6,o7,o8,o9] 0=true) (hz:eL ([o0,o1,o2,o3,o4,o5,o6,o7,o8,o9]++ [qz]) [qz] 10=true) (hch:lg [o0,o1,o2,o3,o4,o5,o6,o7,o8,o9] [3,6,9]=true) (BW:E4 o0 o1 o2 o3 o4 o5 o6 o7 o8 o9 q s d0 d1 d2 d3 d4 d5 d6 d7 d8 d9=true)
  (hq:a0.eval (.tmp q)=pq) (h0:a0.eval (.tmp s)=v0)
  (En:∀ρ w,ρ (.tmp s)=v0->(execOp ρ o0).run P w=.ok (.value v0) w)
  (hfa:∀ρ w,ρ (.tmp q)=pq->(execOp ρ o1).run P w=.ok (.value p1) w) (ZU:∀ρ w,ρ (.tmp q)=pq->(execOp ρ o4).run P w=.ok (.value p2) w) (hf3:∀ρ w,ρ (.tmp q)=pq->(execOp ρ o7).run P w=.ok (.value p3) w)
  (KK:∀vs w,J vs w->w.cell? A1=some s1/\w.cell? A2=some s2/\w.cell? A3=some s3)
  (ft:∀ρ w,ρ (.tmp d1)=p1->w.cell? A1=some s1->(execOp ρ o2).run P w=.ok (.value s1) w) (hl2:∀ρ w,ρ (.tmp d4)=p2->w.cell? A2=some s2->(execOp ρ o5).run P w=.ok (.value s2) w) (tT:∀ρ w,ρ (.tmp d7)=p3->w.cell? A3=some s3->(execOp ρ o8).run P w=.ok (.value s3) w)
  (atI:∀ρ w v x v' w',ρ (.tmp d0)=v->ρ (.tmp d2)=x->(Builtin.append_ #[t,t] t #[v,x]).run P w=.ok v' w'->(execOp ρ o3).run P w=.ok (.value v') w')
  (atJ:∀ρ w v x v' w',ρ (.tmp d3)=v->ρ (.tmp d5)=x->(Builtin.append_ #[t,t] t #[v,x]).run P w=.ok v' w'->(execOp ρ o6).run P w=.ok (.value v') w')
  (atK:∀ρ w v x v' w',ρ (.tmp d6)=v->ρ (.tmp d8)=x->(Builtin.append_ #[t,t] t #[v,x]).run P w=.ok v' w'->(execOp ρ o9).run P w=.ok (.value v') w')
  (ha1:∀w,J [] w->∃v' w',(Builtin.append_ #[t,t] t #[v0,s1]).run P w=.ok v' w'/\J [v'] w')
  (ha2:∀a w,J [a] w->∃v' w',(Builtin.append_ #[t,t] t #[a,s2]).run P w=.ok v' w'/\J [a,v'] w')
  (ha3:∀a b w,J [a,b] w->∃v' w',(Builtin.append_ #[t,t] t #[b,s3]).run P w=.ok v' w'/\J [a,b,v'] w')
  (lZ:∀a b c W,J [a,b,c] W->wpList P [o0,o1,o2,o3,o4,o5,o6,o7,o8,o9,qz].toArray Q [qz] ((((((((((a0.put (some d0) v0).put (some d1) p1).put (some d2) s1).put (some d3) a).put (some d4) p2).put (some d5) s2).put (some d6) b).put (some d7) p3).put (some d8) s3).put (some d9) c) W):
  (Code.region id [o0,o1,o2,o3,o4,o5,o6,o7,o8,o9,qz].toArray true).wp P Q a0 w0:=by
 simp only[E4,Bool.and_eq_true,beq_iff_eq,Option.isNone_iff_eq_none] at BW;obtain⟨⟨⟨⟨⟨⟨⟨⟨⟨⟨⟨⟨⟨⟨⟨⟨⟨⟨⟨⟨⟨⟨⟨⟨⟨⟨⟨⟨⟨⟨⟨⟨⟨⟨⟨⟨⟨⟨⟨⟨⟨⟨t2,m0⟩,t0⟩,s0⟩,t1⟩,m2⟩,t3⟩,m3⟩,m3'⟩,t6⟩,s6⟩,t4⟩,s4⟩,LT⟩,m6⟩,m6'⟩,t7⟩,m7⟩,t8⟩,m8⟩,t9⟩,m9⟩,s5'⟩,e0⟩,e1⟩,e2⟩,e3⟩,e4⟩,e5⟩,e6⟩,e7⟩,e8⟩,e9⟩,g2⟩,g0⟩,Lw⟩,g3⟩,g6⟩,Kx⟩,g4⟩,g7⟩,g8⟩,g5⟩:=BW;refine oQ [qz] [o0,o1,o2,o3,o4,o5,o6,o7,o8,o9] rfl (λ i=>if i=0 then v0 else if i=1 then p1 else if i=2 then s1 else if i=4 then p2 else if i=5 then s2 else if i=7 then p3 else s3) [3,6,9] J nK hJ hm aZ hz hch Taa rfl ?_ ?_
 ·refine⟨Zdj,Zdg,?_,?_,Zdk,?_,?_,?_,?_,?_,trivial⟩
  ·intro ρ w vs hc hG hr;rw[t1] at hr;have r0:=hr.1;simp only[m2] at r0;exact⟨Lw,ft ρ w r0 (KK _ _ hG).1⟩
  ·intro ρ w vs hc hG hr;rw[t3] at hr;have r0:=hr.1;simp only[m3] at r0;have r1:=hr.2.1;simp only[m3'] at r1;refine⟨g3,?_⟩;show vs.length=0->_;intro hl;obtain rfl:=eq_nil_of_length_eq_zero hl;obtain⟨v',w',hrun,hj⟩:=ha1 w hG;exact aq (atI ρ w _ _ v' w' r0 r1 hrun) hj
  ·intro ρ w vs hc hG hr;rw[t4] at hr;have r0:=hr.1;simp only[s4] at r0;exact⟨Kx,hl2 ρ w r0 (KK _ _ hG).2.1⟩
  ·intro ρ w vs hc hG hr;rw[LT] at hr;have r0:=hr.1;simp only[m6] at r0;have r1:=hr.2.1;simp only[m6'] at r1;refine⟨g4,?_⟩;show vs.length=1->_;intro hl
   match vs,hl with
   | [a],_=>have r0:some a=some (ρ (.tmp d3)):=r0;injection r0 with r0;obtain⟨v',w',hrun,hj⟩:=ha2 a w hG;exact aq (atJ ρ w _ _ v' w' r0.symm r1 hrun) hj
  ·intro ρ w vs hc hG hr;rw[t7] at hr;have r0:=hr.1;simp only[m7] at r0;exact⟨g7,hf3 ρ w (r0.trans hq)⟩
  ·intro ρ w vs hc hG hr;rw[t8] at hr;have r0:=hr.1;simp only[m8] at r0;exact⟨g8,tT ρ w r0 (KK _ _ hG).2.2⟩
  ·intro ρ w vs hc hG hr;rw[t9] at hr;have r0:=hr.1;simp only[m9] at r0;have r1:=hr.2.1;simp only[s5'] at r1;refine⟨g5,?_⟩;show vs.length=2->_;intro hl
   match vs,hl with
   | [a,b],_=>have r0:some b=some (ρ (.tmp d6)):=r0;injection r0 with r0;obtain⟨v',w',hrun,hj⟩:=ha3 a b w hG;exact aq (atK ρ w _ _ v' w' r0.symm r1 hrun) hj
 ·intro vs w hl hG
  match vs,hl with
  | [a,b,c],_=>simp only[bD,e0,e1,e2,e3,e4,e5,e6,e7,e8,e9];intro a0' z0 a1 z1 a2 z2 a3 z3 a4 LE a5 Ly a6 z4 a7 z7 a8 z8 a9 z5;have z0:a0'=v0:=z0;have z1:a1=p1:=z1;have z2:a2=s1:=z2;have z3:some a=some a3:=z3;have LE:a4=p2:=LE;have Ly:a5=s2:=Ly;have z4:some b=some a6:=z4;have z7:a7=p3:=z7;have z8:a8=s3:=z8;have z5:some c=some a9:=z5;injection z3 with z3;injection z4 with z4;injection z5 with z5;rw[z0,z1,z2,<- z3,LE,Ly,<- z4,z7,z8,<- z5];exact lZ a b c w hG
end
end Go.Proofs.YtndgjggokjickaaGreatDoor
namespace Go.Proofs.YtndgjggokjickaaGreatDoor.R
set_option maxHeartbeats 90000000
set_option maxRecDepth 100000
open Go.ChangeShapes Go.WideShapes Go.ChangeAt Go.RowKit List
set_option linter.unusedVariables false
set_option linter.unusedSimpArgs false
def st0:Array Value:=(sK {}).toArray
section
variable {ρ:dt} {w wr w2:World} {big:Bool} {P:Ps St} {σ yQ:ck} {q b:Nat} {m:C7} {d:St}
end
section
variable {ρ:dt} {w wr w2:World} {big:Bool} {P:Ps St} {σ yQ:ck} {q b:Nat} {m:C7} {d:St}
end
theorem Ge (w:World)(q:Nat)(cs:Array Value):w.grownBy (w.setRow q cs) (some q):=
 ⟨rfl,rfl,rfl,by simp,λ i hi hne=>setRow_other w q i cs (λ e=>hne Tbd)⟩
variable{B q:Nat}
theorem SL(w:World)(hq:q < B)(cs:Array Value):∀b,jm B w b->(∀o,(w.setRow q cs).cell? ⟨b,o,none⟩=w.cell? ⟨b,o,none⟩)/\jm B (w.setRow q cs) b:=λ b hb=>
 ⟨cell_of_heap (setRow_other w q b cs (by have:=hb.1;omega)),hb.1,by rw[size_setRow];exact hb.2⟩
variable{w:World}{T:TypeId}{old:Array Value}
theorem _root_.Go.Proofs.YtndgjggokjickaaGreatDoor.aB.row(h:aB w q T old)(cs:Array Value):aB (w.setRow q cs) q T cs:=setRow_heap w q old cs T (0,0) h
variable{b:Nat}
theorem _root_.Go.Proofs.YtndgjggokjickaaGreatDoor.aB.acx(h:aB w b T old)(hq:b≠q)(cs:Array Value):aB (w.setRow q cs) b T old:=(setRow_other w q b cs hq).trans h
variable{P:Program}{fn:Func}{u v:Tmp}
theorem IV{p:Tmp} {ty:TypeId}(h:fn.results= #[.cell p ty,.tmp u,.tmp v])(tmps:Array Value)(w:World)(g:Nat)(t:TypeId)(cs:Array Value)(fr:Nat×Nat)(d:TypeDesc)(x y:Value)
  (hp:tmps.getD p undef=aw g) (hg:w.heap[g]?=some (.cells cs t fr))
  (hu:P.underlying ty=some d) (hd:(match d with | .struct _ | .array _ _=>true | _=>false)=true) (hi:(P.info? ty).map (·.size)=some cs.size) (hx:tmps.getD u undef=x) (hy:tmps.getD v undef=y):
  (results fn tmps).run P w=.ok (.tuple #[.agg cs,x,y]) w:=by
 have hp':tmps[p]?.getD undef=aw g:=by simpa using hp
 have hx':tmps[u]?.getD undef=x:=by simpa using hx
 have hy':tmps[v]?.getD undef=y:=by simpa using hy
 simp[results,h,hp',hx',hy',asAddr,Sem.run_bind,run_loadVar_row w g t ty cs fr d hg hu hd hi,Result.andThen]
variable{ρ:dt}{W:World}{σ:ck}{big:Bool}
theorem eG.row(h:eG ρ W w σ big)(hW:ρ.g < W.heap.size)(hq:W.heap.size<=q)(cs:Array Value):eG ρ W (w.setRow q cs) σ big:=
 h.own hW (Ge w q cs) (λ G e=>by injection e with e;omega)
variable{gl:Nat}{l:List qY}
theorem dt.start{c:Nat} (zT:gl < w.heap.size)(hc:∀k t,l[k]?=some t->w.cell? ⟨gl,k*4,none⟩=some (ag t.w.k)/\w.cell? ⟨gl,k*4+1,none⟩=some (.string ⟨t.w.s.toArray⟩)/\w.cell? ⟨gl,k*4+2,none⟩=some (af t.w.n)/\w.cell? ⟨gl,k*4+3,none⟩=some (af t.p))
  (he:yM (l.map (·.w))) (hlen:l.length<=4097) (hwd:∀t∈l,aco t.w):
  (⟨w.heap.size,gl,c,l⟩:dt).at (w.alloc (.cells #[aI gl l.length c,af 0,af (-1),.bool false] 169)) (.good (l.map (·.w))) false:=by
 have hb:=aB.new w 169 #[aI gl l.length c,af 0,af (-1),.bool false];refine⟨?_,zT,?_,⟨suffix_refl _,he⟩,?_,λ t ht=>(hwd t ht).1⟩
 ·have e:(⟨w.heap.size,gl,c,l⟩:dt).cells (.good (l.map (·.w))) false= #[aI gl l.length c,af 0,af (-1),.bool false]:=by simp[dt.cells,dt.n,dt.bad,ck.left]
  rw[e];exact hb
 ·intro k t hk;have c:=λ o=>World.cell?_alloc_lt w (.cells #[aI gl l.length c,af 0,af (-1),.bool false] 169) ⟨gl,o,none⟩ zT
  obtain⟨h1,h2,h3,h4⟩:=hc k t hk;exact⟨(c _).trans h1,(c _).trans h2,(c _).trans h3,(c _).trans h4⟩
 ·show l.length<=5000;omega
theorem LY(w:World)(o:Obj)(cs:Array Value):∀b,jm B w b->(∀i,((w.alloc o).setRow w.heap.size cs).cell? ⟨b,i,none⟩=w.cell? ⟨b,i,none⟩)/\jm B ((w.alloc o).setRow w.heap.size cs) b:=λ b hb=>
 ⟨cell_of_heap ((setRow_other _ w.heap.size b cs (by have:=hb.2;omega)).trans (Below.heap_alloc w o b hb.2)),hb.1,by rw[size_setRow];have:=hb.2;simp;omega⟩
section
variable {t:Wd} {r:dH}
end
section
variable {α:Type} {E:El α} {T:TypeId} {lng:α->Bool} {el:Ps α} {ρ:dt} {w wr w8:World} {big bg:Bool} {P:Ps St} {σ0 σ yQ:ck} {q b i k:Nat} {m:C7} {d:St} {w1 gG w2 W:World} {y:E.β} {v v':Value} {acc:List α} {cs:Array Value}
end
end Go.Proofs.YtndgjggokjickaaGreatDoor.R
namespace Go.Proofs.YtndgjggokjickaaGreatDoor
variable{p:Prop}
set_option maxHeartbeats 90000000
set_option maxRecDepth 100000
open Go.ChangeShapes Go.WideShapes Go.ChangeAt Go.RowKit List
set_option linter.unusedVariables false
set_option linter.unusedSimpArgs false
def Gf (v:R.Val):Val:=⟨v.k,v.n,v.s⟩
mutual
def pZ:R.Tr->Tr
 | .mk op v name width args=> .mk op (Gf v) name width (gK args)
def gK:List R.Tr->List Tr
 | []=> []
 | t::ts=>pZ t::gK ts
end
def Eu (y:R.Ex):Ex:=⟨y.op,Gf y.v,y.name,y.width,y.A,y.n,y.c⟩
theorem lu:∀ts:List R.Tr,(gK ts).length=ts.length
 | []=>by simp[gK]
 | t::ts=>by simp[gK,lu ts]
variable{w:World}{S:Nat->Prop}
theorem afh{A:Option Addr} {ys:List R.Ex}(h:R.RL R.bF 7 w S A ys):Yj w S A (ys.map Eu):=by
 rcases h with rfl |⟨b,off,Kx,h2,h3⟩
 ·exact .inl rfl
 ·refine .inr ⟨b,off,Kx,h2,λ i x h1=>?_⟩;rw[getElem?_map] at h1
  cases hy:ys[i]? with
  | none=>rw[hy] at h1;cases h1
  | some y=>rw[hy] at h1;injection h1 with h1;subst h1;have k:=h3 i y;exact⟨k 0 _ hy rfl,k 1 _ hy rfl,k 2 _ hy rfl,k 3 _ hy rfl,k 4 _ hy rfl,k 5 _ hy rfl,k 6 _ hy rfl⟩
mutual
theorem SM {w:World} {S:Nat->Prop}:∀(t:R.Tr) (y:R.Ex),t.at_ w S y->(pZ t).at_ w S (Eu y)
 | .mk op v name width args,y,h=>by unfold R.Tr.at_ at h;obtain⟨h1,h2,h3,h4,h5,ys,h6,h7⟩:=h;unfold pZ Tr.at_;exact⟨h1,by rw[<- h2];rfl,h3,h4,by rw[lu];exact h5,ys.map Eu,afh h6,xQ args ys h7⟩
theorem xQ {w:World} {S:Nat->Prop}:∀(ts:List R.Tr) (ys:List R.Ex),R.Tr.aO w S ts ys->Tr.aO w S (gK ts) (ys.map Eu)
 | [],ys,h=>by unfold R.Tr.aO at h;subst h;unfold gK Tr.aO;rfl
 | t::ts,ys,h=>by unfold R.Tr.aO at h;obtain⟨y,ys',rfl,h1,h2⟩:=h;unfold gK Tr.aO;exact⟨Eu y,ys'.map Eu,rfl,SM t y h1,xQ ts ys' h2⟩
end
theorem LZ:∀ {ts:List R.Tr} {ys:List R.Ex},R.mr (R.Tr.at_ w S) ts ys->R.Tr.aO w S ts ys
 | _,_,.nil=>by unfold R.Tr.aO;rfl
 | _,_,.cons h k=>by unfold R.Tr.aO;exact⟨_,_,rfl,h,LZ k⟩
variable{n:Nat}
theorem Ci{A:Option Addr}  {l:List R.Tr}(h:R.IC.lies w (Old w) A n l):gJ w (gK l) A n:=by obtain⟨h1,ys,h2,h3⟩:=h;exact⟨by rw[lu];exact h1,ys.map Eu,afh h2,xQ l ys (LZ h3)⟩
variable{γ:Type}
theorem SN(g:γ->Value):∀ {l:List (R.Tr×γ)} {ys:List (R.Ex×γ)},R.mr (λ x y=>x.1.at_ w S y.1/\y.2=x.2) l ys->Tr.aO w S ((l.map λ x=>(pZ x.1,g x.2)).map (·.1)) ((ys.map λ y=>(Eu y.1,g y.2)).map (·.1))/\(ys.map λ y=>(Eu y.1,g y.2)).map (·.2)=(l.map λ x=>(pZ x.1,g x.2)).map (·.2)
 | _,_,.nil=>⟨by simp only[map_nil];unfold Tr.aO;rfl,rfl⟩
 | _,_,.cons h k=>by obtain⟨k1,k2⟩:=SN g k;simp only[map_cons];refine⟨?_,by rw[k2,h.2]⟩;unfold Tr.aO;exact⟨_,_,rfl,SM _ _ h.1,k1⟩
theorem E5(g:γ->Value) {A:Option Addr}  {l:List (R.Tr×γ)} {ys:List (R.Ex×γ)}(hn:n=l.length)(h:R.RL (λ y:R.Ex×γ=>R.bF y.1++ [g y.2]) 8 w (Old w) A ys)(h2:R.mr (λ x y=>x.1.at_ w (Old w) y.1/\y.2=x.2) l ys):eP w (l.map λ x=>(pZ x.1,g x.2)) A n:=by
 obtain⟨k1,k2⟩:=SN g h2;refine⟨by rw[length_map];exact hn,ys.map λ y=>(Eu y.1,g y.2),?_,k2,k1⟩;rcases h with rfl |⟨b,off,Kx,h2,h3⟩
 ·exact .inl rfl
 ·refine .inr ⟨b,off,Kx,h2,λ i x h1=>?_⟩;rw[getElem?_map] at h1
  cases hy:ys[i]? with
  | none=>rw[hy] at h1;cases h1
  | some y=>rw[hy] at h1;injection h1 with h1;subst h1;have k:=h3 i y;exact⟨⟨k 0 _ hy rfl,k 1 _ hy rfl,k 2 _ hy rfl,k 3 _ hy rfl,k 4 _ hy rfl,k 5 _ hy rfl,k 6 _ hy rfl⟩,k 7 _ hy rfl⟩
theorem SP:∀ {l:List Int} {ys:List Int},R.mr (λ x y=>y=x) l ys->ys=l
 | _,_,.nil=>rfl
 | _,_,.cons h k=>by rw[h,SP k]
def fl (d:R.Qu):Qy:=⟨d.items.map λ x=>(pZ x.1,x.2),d.bS,d.only,gK d.bT,gK d.group,gK d.having,d.order.map λ x=>(pZ x.1,x.2),d.dw⟩
def PF (y:R.xM):QL:=⟨⟨y.items.A,y.items.n,y.items.c⟩,⟨y.bT.A,y.bT.n,y.bT.c⟩,⟨y.group.A,y.group.n,y.group.c⟩,⟨y.having.A,y.having.n,y.having.c⟩,⟨y.order.A,y.order.n,y.order.c⟩,⟨y.dw.A,y.dw.n,y.dw.c⟩⟩
variable{d:R.Qu}
theorem SQ{y:R.xM}(h:d.at_ w (Old w) y):nQ w (fl d) (PF y)/\R.quV y=mM (fl d) (PF y):=by
 refine⟨⟨?_,Ci h.bT,Ci h.group,Ci h.having,?_,?_⟩,?_⟩
 ·obtain⟨h1,ys,h2,h3⟩:=h.items;have k:=E5 (λ s:ByteArray=>Value.string s) h1 h2 h3;unfold fl;rw[map_map];exact k
 ·obtain⟨h1,ys,h2,h3⟩:=h.order;have k:=E5 (λ s:Bool=>Value.bool s) h1 h2 h3;unfold fl;rw[map_map];exact k
 ·obtain⟨h1,ys,h2,h3⟩:=h.dw;have k:=SP h3;subst k;refine⟨h1,?_⟩;rcases h2 with h2 |⟨b,off,h2,h3,h4⟩
  ·exact .inl h2
  ·refine .inr ⟨b,off,h2,h3,λ i x hx=>?_⟩;have:=h4 i x 0 _ hx rfl;rw[show off+i*R.Sd.size+0=off+i by show off+i*1+0=off+i;omega] at this;exact this
 ·unfold R.quV R.LH mM fl PF R.nH;rw[h.bS,h.only]
def cZ (q:Nat):List Value:=[aw q]
theorem E6:(Tryz.prog.info? 145).map (λ i=>(i.zero,i.size,i.bytes))=some (some (.pointer none),1,8):=by exact Zgn
structure dF (w:World) (B:Nat) (qs:List Nat) (ss:List St):Prop where
 len:qs.length=ss.length
 at_:∀(i:Nat) (q:Nat) (s:St),qs[i]?=some q->ss[i]?=some s->cC w q s
 low:∀q∈qs,B<=q/\q < w.heap.size
 apart:qs.Nodup
variable{B:Nat}
theorem dF.nil:dF w B [] []:=⟨rfl,(λ i q s h _=>by simp at h),(λ q h=>by cases h),List.Pairwise.nil⟩
variable{w':World}
theorem dF.keep{qs:List Nat} {ss:List St}(h:dF w B qs ss)(hs:w.heap.size<=w'.heap.size)(hk:∀q∈qs,w'.heap[q]?=w.heap[q]?):dF w' B qs ss:=
 ⟨h.len,λ i q s hq hs2=>(hk q (mem_of_getElem? hq)).trans (h.at_ i q s hq hs2),λ q hq=>⟨(h.low q hq).1,Nat.lt_of_lt_of_le (h.low q hq).2 hs⟩,h.apart⟩
theorem dF.later{qs:List Nat} {ss:List St}(h:dF w B qs ss)(hb:aj w w'):dF w' B qs ss:=
 h.keep hb.size λ q hq=>hb.block q (h.low q hq).2
variable{q:Nat}{s:St}
theorem dF.snoc{qs:List Nat} {ss:List St} (h:dF w B qs ss)(hs:cC w q s)(hB:B<=q)(hq:q∉qs)(hl:q < w.heap.size):dF w B (qs++ [q]) (ss++ [s]):=by
 refine⟨by simp[h.len],λ i r t hr ht=>?_,λ r hr=>?_,?_⟩
 ·rcases Nat.lt_or_ge i qs.length with hi | hi
  ·rw[getElem?_append_left hi] at hr;rw[getElem?_append_left TaK] at ht;exact h.at_ i r t hr ht
  ·rw[getElem?_append_right hi] at hr;rw[getElem?_append_right TaK,<- h.len] at ht
   have h0:i - qs.length=0:=by
    rcases Nat.lt_or_ge 0 (i - qs.length)with h1 | h1
    ·rw[getElem?_eq_none (by simp only[length_singleton];omega)] at hr;cases hr
    ·omega
   rw[h0] at hr ht;simp at hr ht;subst hr ht;exact hs
 ·rcases List.mem_append.1 hr with hr | hr
  ·exact h.low r hr
  ·rw[mem_singleton] at hr;subst hr;exact⟨hB,hl⟩
 ·rw[nodup_append];exact⟨h.apart,by simp,λ a ha b hb e=>by rw[mem_singleton] at hb;subst hb e;exact hq ha⟩
variable{base:Nat}{v:Value}
theorem dF.ne{qs:List Nat} {ss:List St}  {l:List Nat}(h:dF w B qs ss)(ho:aF cZ 145 1 w base v l):∀q∈qs,v.ownBlock≠some q:=λ q hq=>by obtain⟨i,hi,he⟩:=getElem_of_mem hq;have h1:=h.at_ i q (ss[i]' TaK) Tay (getElem?_eq_getElem _);exact ho.other h1 Taa
theorem dF.own{qs:List Nat} {ss:List St}  {l:List Nat}(h:dF w B qs ss)(ho:aF cZ 145 1 w base v l)(hg:w.grownBy w' v.ownBlock):dF w' B qs ss:=
 h.keep hg.size λ q hq=>hg.block q (h.low q hq).2 (Ne.symm (h.ne ho q hq))
variable{i:Nat}{u:Value}
theorem dF.set{g:Nat} {qs:List Nat} {ss:List St} (h:dF w B qs ss)(hg:g∉qs):dF (w.setCell ⟨g,i,none⟩ u) B qs ss:=
 h.keep Tac λ q hq=>Below.heap_setCell w ⟨g,i,none⟩ u q (λ e=>hg (by have e2:q=g:=e;rw[<- e2];exact hq))
theorem Gg (gp:Nat)(ys:List Ex)(AA:Option Addr)(ac:Nat)(KA:Option Addr)(kn kc:Nat)(w:World)(hn:ys.length<=1000000)(sx:gp < w.heap.size)(hpa:w.cell? ⟨gp,9,none⟩=some (.slice AA ys.length ac))(hA:RE w w.heap.size AA ys)(Z7:∀y∈ys,isAgg y.op=true):
  ar 63 #[aw gp,.slice KA kn kc] w λ e w'=>∃g sv qs,e=.returned (aw g)/\w.heap.size<=g/\g∉qs/\aB w' g 141 #[.slice KA kn kc,sv]/\aF cZ 145 1 w' w.heap.size sv qs/\dF w' w.heap.size qs (ys.map λ y=>fh y.op)/\aj w w':=by
 have HX:=aB.new w 141 #[.slice KA kn kc,az];have hb0:=ah w (.cells #[.slice KA kn kc,az] 141);have HPA:=aa ((hb0.cell (p:=⟨gp,9,none⟩) sx).trans hpa);have JP:=aa (Nat.lt_of_lt_of_le sx hb0.size);have HA:=aa hA;have HAG:=aa Z7;have HSW:=aa (show w.heap.size <(w.alloc (.cells #[.slice KA kn kc,az] 141)).heap.size by rw[World.size_alloc];omega);clear sx hpa hA Z7;go_enter Tryz.func63,Tryz.ntmps63;go_upto_region 2 with fail;generalize w.alloc _=W1 at*;obtain⟨g,hg⟩:∃g,g=w.heap.size:=⟨_,rfl⟩;rw[<- hg] at HX ⊢;have vU:=aa hg;have Bw:=aa hb0;have KK:=aa HX;clear hg hb0 HX;have hpa:=HPA.ae;go_wp2_with fail;clear hpa;go_loopw [18] (λ i wr=>∃(j:Nat) (sv:Value) (qs:List Nat),j<=ys.length/\i=af j/\g∉qs/\aB wr g 141 #[.slice KA kn kc,sv]/\aF cZ 145 1 wr W1.heap.size sv qs/\dF wr W1.heap.size qs ((ys.take j).map λ y=>fh y.op)/\aj w wr/\W1.heap.size<=wr.heap.size) (λ i _=>ys.length - (intOf i).toNat);case atStart=>exact⟨0,_,[],Nat.zero_le _,rfl,by simp,KK.ae,aF.nil,.nil,Bw.ae,Nat.le_refl _⟩
 case round=>
  obtain⟨j,sv,qs,hk,rfl,IW,hG,hO,hS,hb,hs⟩:=hrel;have zW:=aa hO;have K9:=aa hS;have HGQ:=aa IW;have Mz:=aa hG;clear hO hS IW hG KK Bw;by_cases hlt:j < ys.length
  ·obtain⟨b,off,rfl,kz,hex⟩:=(HA.ae.below hb).at_ hlt;have Z7:=HAG.ae ys[j] (getElem_mem hlt);have nt:=aa (show(ys.take (j+1)).map (λ y=>fh y.op)=(ys.take j).map (λ y=>fh y.op)++ [fh ys[j].op] by rw[take_add_one,getElem?_eq_getElem hlt,map_append];rfl);have Ns:qs.length<=1000000:=by have:=K9.ae.len;simp at this;omega
   generalize ys[j]=y at*;generalize (ys.take j).map (λ y=>fh y.op)=ss at*;unfold cw at hex;go_upto_region 5 with fail;have k1:=aB.new wr 46 (ay y);have Mp:=ah wr (.cells (ay y) 46);have HG:=k1.cell 0;simp only[getElem?_toArray,getElem?_cons_zero] at HG;have HNW:=aa (abM y.op (wr.alloc (.cells (ay y) 46)) Z7);have bI:g < wr.heap.size:=Mz.ae.lt;generalize wr.alloc _=W2 at*;obtain⟨g8,Xv⟩:∃g8,g8=wr.heap.size:=⟨_,rfl⟩;rw[<- Xv] at HG ⊢;clear Xv k1 hex Z7;go_wp2_with fail;refine HNW.ae.mono ?_;rintro e w6 ⟨p,hp,rfl,hst,b1⟩;have b6:=ai.then Mp b1;have DO:wr.heap.size<=p:=Nat.le_trans Mp.size hp;clear Mp b1 HNW HG hp;go_upto_region 6 with fail;have bN:=ah w6 (.cells #[aw p] 145);have hGN:=aB.new w6 145 #[aw p];have hL:=ai.then b6 bN;have Mi:=aa (zW.ae.later hL);have DX:=aa (K9.ae.later hL);have Cj:=aa (Mz.ae.later hL);have sM:=aa (aB.later hst bN);have Ma:=aa (ai.then hb hL);have hbase:W1.heap.size<=(w6.alloc (.cells #[aw p] 145)).heap.size:=Nat.le_trans hs hL.size;have Gh:=aa hGN;have hne:=Mi.ae.other Cj.ae Taa;have hnp:=Mi.ae.other sM.ae Taa;have nE:=aa hne;have HNP:=aa hnp;have hpl:=sM.ae.lt;have JR:=aa hpl;have hc1:=(Mz.ae.later b6).cell 1;simp only[Uaa] at hc1;have Sx:p≠g:=by omega
   have Y7:p∉qs:=λ h=>by have:=(K9.ae.low p h).2;omega
   have HPG:=aa Sx;have HPQ:=aa Y7;have HWP:=aa (Nat.le_trans hs DO);clear hGN hne hnp hpl bN b6 hL K9 Mz hst Sx Y7 zW bI;go_wp2_with (first
    |(at_builtin
      refine aT rfl (.tmp 32) (.tmp 34) 139 rfl _ 8 Tryz.underlying139 E6 rfl WC p rfl TaY rfl Mi.ae w6.heap.size rfl Gh.ae WC WC hbase ?_
      intro v4 w4 S6 g4
      obtain⟨A4,Qg,hv4,_⟩:=S6.reads
      rw[length_append,length_singleton] at hv4
      subst hv4
      have G4:=aa (Cj.ae.grown g4 (Ne.symm nE.ae))
      have gc:=G4.ae.cell 1
      have gf:=G4.ae.frozen 1
      simp only[Uaa] at gc
      have S4:=aa (DX.ae.own Mi.ae g4)
      have P4:=aa (aB.grown sM.ae g4 (Ne.symm HNP.ae))
      have B4:=aa (bj Mi.ae g4 hbase)
      have s4:=aa g4.size
      have O4:=aa S6
      clear S6 g4))
   go_roundw
   case rel=>
    have hq4:g∉qs++ [p]:=by
     rw[mem_append,mem_singleton];rintro(h | h)
     ·exact HGQ.ae h
     ·exact HPG.ae h.symm
    have hn4:=O4.ae.other G4.ae Taa;refine⟨j+1,_,qs++ [p],hlt,by go_num,hq4,G4.ae.aU 1 _,O4.ae.keep λ Lw Kx=>Below.heap_setCell w4 ⟨g,1,none⟩ _ Lw (λ e=>hn4 TaT),?_,(Ma.ae.trans (B4.ae.mono (Nat.le_of_lt HSW.ae))).setCell TaR _,?_⟩
    ·rw[nt.ae];exact(S4.ae.snoc P4.ae HWP.ae HPQ.ae (aB.lt P4.ae)).set hq4
    ·have h1:=s4.ae;rw[World.size_setCell];exact Nat.le_trans hbase h1
   case measure=>exact Za0
  ·have fw:j=ys.length:=by omega
   subst fw;rw[take_length] at K9;go_wp2_with fail;go_ret;exact⟨g,sv,qs,rfl,by rw[vU.ae];exact Nat.le_refl _,HGQ.ae,Mz.ae,zW.ae.down (Nat.le_of_lt HSW.ae),⟨K9.ae.len,K9.ae.at_,λ q hq=>⟨Nat.le_trans (Nat.le_of_lt HSW.ae) (K9.ae.low q hq).1,(K9.ae.low q hq).2⟩,K9.ae.apart⟩,hb⟩
def Vg (base:Nat)(l:List Val)(w:World)(e:Ending)(w':World):Prop:=∃v,e=.returned v/\aF aV 44 3 w' base v l/\aj w w'
theorem val_one (l:List Val):∀u∈l.flatMap aV,u.oneCell'=true:=by
 intro u hu;obtain⟨v,_,hv⟩:=List.mem_flatMap.1 hu;simp[aV] at hv;rcases hv with rfl | rfl | rfl <;> rfl
theorem Vh (w:World)(base:Nat)(hb:base<=w.heap.size):aF aV 44 3 (w.alloc (.cells #[] 44)) base (aI w.heap.size 0 0) []:=
 ⟨by simp,.inr ⟨w.heap.size,0,#[],rfl,hb,heap_alloc_new w _,Nat.le_refl _,by simp,by simp,by simp⟩⟩
theorem Ck (A:Option Addr)(c:Nat)(l:List Val)(w:World)(h:RV w w.heap.size A l)(hl:l.length<=1000):
  ar 37 #[.slice A l.length c] w (Vg w.heap.size l w):=by
 have HR:=aa h;clear h
 cases A with
 | none=>
   have hl0:l=[]:=by
    rcases HR.ae with h |⟨b,off,h,_⟩
    ·exact h
    ·cases h
   subst hl0;have hnil:(binOp .eql 38 (.slice none 0 c) (az)).run Tryz.prog w=.ok (.bool true) w:=Go.Lib.run_eql_slice_nil w 38 44 none 0 c 0 0 Tryz.underlying38;go_enter Tryz.func37,Tryz.ntmps37;exact Zho
 | some ad=>
   have hnil:(binOp .eql 38 (.slice (some ad) l.length c) (az)).run Tryz.prog w=.ok (.bool false) w:=Go.Lib.run_eql_slice_nil w 38 44 (some ad) l.length c 0 0 Tryz.underlying38;obtain⟨i0,kR,hg4,ox,HZ⟩:=info_parts lO;have bb:=ah w (.cells #[] 44);have HO:=aa (Vh w w.heap.size (Nat.le_refl _));have Xx:=aa (HR.ae.later bb).reads;have hsz:w.heap.size<=(w.alloc (.cells #[] 44)).heap.size:=bb.size;have HI:=aa kR;have JT:=aa hg4;have Gn:=aa ox;have qu:=aa HZ;clear kR hg4 ox HZ;go_enter Tryz.func37,Tryz.ntmps37;go_wp2_with (first
    |(at_builtin
      refine cN _ rfl (.tmp 5) (.tmp 6) 38 rfl w.heap.size 44 i0 _ 3 32 Tryz.underlying38 HI.ae JT.ae Gn.ae qu.ae rfl WC _ 0 [] rfl HO.ae _ (some ad) l.length c (l.flatMap aV) rfl Xx.ae (val_one l) Tam WC hsz ?_
      intro v2 w2 o2 g2 _
      have O2:=aa o2
      have G2:=aa g2
      clear o2 g2))
   have b2:=bj HO.ae G2.ae hsz;have O3:aF aV 44 3 w2 w.heap.size v2 l:=by have:=O2.ae;unfold aF;simpa using this
   go_ret;exact⟨_,rfl,O3,bb.trans b2⟩
theorem rD:(Tryz.prog.info? 113).map (λ i=>(i.zero,i.size,i.bytes))=some (some (.agg #[au,ag 0]),2,24):=by exact Zgn
theorem afi:∀ys:List aW,(ys.flatMap aS).length=ys.length*2
 | []=>rfl
 | y::ys=>by rw[flatMap_cons,length_append,afi ys,length_cons];show 2+_=_;omega
theorem RC.reads{A:Option Addr} {l:List aW}(h:RC w B A l):Reads w B 2 A l.length (l.flatMap aS):=by
 refine⟨afi l,λ hn=>?_⟩;rcases h with h |⟨b,off,hA,hb,hc⟩
 ·subst h;simp at hn
 ·refine⟨⟨b,off,none⟩,hA,hb,λ j u hu=>?_⟩;obtain⟨k,r,x,rfl,hr,h2,h3⟩:=Ch (f:=aS) (size:=2) (λ _=>rfl) WC l j u hu;rw[PB,<- Nat.add_assoc];have hx:=hc k x h2;unfold mG at hx;unfold aS at h3
  match r,hr with
  | 0,_=>rw[<- h3];exact hx.1
  | 1,_=>rw[<- h3];exact hx.2
def IX (base:Nat)(l:List aW)(w:World)(e:Ending)(w':World):Prop:=∃v,e=.returned v/\aF aS 113 2 w' base v l/\aj w w'
theorem acz (l:List aW):∀u∈l.flatMap aS,u.oneCell'=true:=by
 intro u hu;obtain⟨v,_,hv⟩:=List.mem_flatMap.1 hu;simp[aS] at hv;rcases hv with rfl | rfl <;> rfl
theorem Vi (w:World)(base:Nat)(hb:base<=w.heap.size):aF aS 113 2 (w.alloc (.cells #[] 113)) base (aI w.heap.size 0 0) []:=
 ⟨by simp,.inr ⟨w.heap.size,0,#[],rfl,hb,heap_alloc_new w _,Nat.le_refl _,by simp,by simp,by simp⟩⟩
theorem IY (A:Option Addr)(c:Nat)(l:List aW)(w:World)(h:RC w w.heap.size A l)(hl:l.length<=1000):
  ar 55 #[.slice A l.length c] w (IX w.heap.size l w):=by
 have HR:=aa h;clear h
 cases A with
 | none=>
   have hl0:l=[]:=by
    rcases HR.ae with h |⟨b,off,h,_⟩
    ·exact h
    ·cases h
   subst hl0;have hnil:(binOp .eql 28 (.slice none 0 c) (az)).run Tryz.prog w=.ok (.bool true) w:=Go.Lib.run_eql_slice_nil w 28 113 none 0 c 0 0 Tryz.underlying28;go_enter Tryz.func55,Tryz.ntmps55;exact Zho
 | some ad=>
   have hnil:(binOp .eql 28 (.slice (some ad) l.length c) (az)).run Tryz.prog w=.ok (.bool false) w:=Go.Lib.run_eql_slice_nil w 28 113 (some ad) l.length c 0 0 Tryz.underlying28;obtain⟨i0,kR,hg4,ox,HZ⟩:=info_parts rD;have bb:=ah w (.cells #[] 113);have HO:=aa (Vi w w.heap.size (Nat.le_refl _));have Xx:=aa (HR.ae.later bb).reads;have hsz:w.heap.size<=(w.alloc (.cells #[] 113)).heap.size:=bb.size;have HI:=aa kR;have JT:=aa hg4;have Gn:=aa ox;have qu:=aa HZ;clear kR hg4 ox HZ;go_enter Tryz.func55,Tryz.ntmps55;go_wp2_with (first
    |(at_builtin
      refine cN _ rfl (.tmp 5) (.tmp 6) 28 rfl w.heap.size 113 i0 _ 2 24 Tryz.underlying28 HI.ae JT.ae Gn.ae qu.ae rfl WC _ 0 [] rfl HO.ae _ (some ad) l.length c (l.flatMap aS) rfl Xx.ae (acz l) Tam WC hsz ?_
      intro v2 w2 o2 g2 _
      have O2:=aa o2
      have G2:=aa g2
      clear o2 g2))
   have b2:=bj HO.ae G2.ae hsz;have O3:aF aS 113 2 w2 w.heap.size v2 l:=by have:=O2.ae;unfold aF;simpa using this
   go_ret;exact⟨_,rfl,O3,bb.trans b2⟩
def Mine (w:World)(base:Nat)(cl:List aX):Prop:=∀r∈cl,aF aV 44 3 w base r.v r.l
variable{cl:List aX}
theorem Mine.later(h:Mine w base cl)(hb:aj w w'):Mine w' base cl:=λ r hr=>(h r hr).later hb
variable{base':Nat}{cl':List aX}{ov:Value}
theorem Mine.grown(h:Mine w base cl)(ho:aF bX 38 1 w base' ov cl')(hg:w.grownBy w' ov.ownBlock):Mine w' base cl:=λ r hr=>by
 refine(h r hr).keep λ q hq=>?_
 obtain⟨h1,h2,cur,h3⟩:=(h r hr).lt hq;exact hg.block q h1 λ e=>ho.other (show aB w q 44 cur from h3) Taa e.symm
theorem SR(h:aF bX 38 1 w base v cl)(hm:Mine w base cl):∃A c,v=.slice A cl.length c/\RR w w.heap.size A cl:=by
 obtain⟨A,c,hv,hc⟩:=ek (f:=bX) (size:=1) (λ _=>rfl) h;refine⟨A,c,hv,?_⟩;rcases hc with hc |⟨g,hA,hg,hc⟩
 ·exact .inl hc
 ·refine .inr ⟨g,0,hA,hg,λ i r hr=>⟨?_,?_⟩⟩
  ·have:=hc i r 0 _ hr WC rfl;exact ZeU
  ·obtain⟨A2,c2,e1,e2⟩:=Hp (hm r (mem_of_getElem? hr));unfold aX.v at e1;injection e1 with e1;rw[e1];exact e2
theorem py(h:w.grownBy w' none):aj w w':=⟨h.os,h.tape,h.output,h.size,λ k hk=>h.block k hk Tac⟩
theorem acA (aL:List aX)(RA:Option Addr)(rc:Nat)(w:World)(hn:aL.length<=1000000)(hl:∀r∈aL,r.l.length<=1000000)(hR:RR w w.heap.size RA aL):
  ar 12 #[.slice RA aL.length rc] w λ e w'=>∃v cl,e=.returned v/\aF bX 38 1 w' w.heap.size v cl/\Mine w' w.heap.size cl/\cl.map (·.l)=aL.map (·.l)/\aj w w':=by
 have HR:=aa hR;have zL:=aa hl;clear hR hl;go_enter Tryz.func12,Tryz.ntmps12;go_wp2_with fail;go_loopw [3,4] (λ v i wr=>∃(k:Nat) (cl:List aX),k<=aL.length/\i=af k/\aF bX 38 1 wr w.heap.size v cl/\Mine wr w.heap.size cl/\cl.map (·.l)=(aL.take k).map (·.l)/\aj w wr) (λ _ i _=>aL.length - (intOf i).toNat);case atStart=>exact⟨0,[],Nat.zero_le _,rfl,aF.nil,(λ r hr=>by cases hr),rfl,Below.refl _ _⟩
 case round=>
  obtain⟨k,cl,hk,rfl,ho,hm,he,hb⟩:=hrel;have HO:=aa ho;have HM:=aa hm;have HE:=aa he;clear ho hm he;by_cases hlt:k < aL.length
  ·obtain⟨b,off,rfl,kz,hcell,uQ⟩:=(HR.ae.below hb).at_ hlt;have nt:=aa (show(aL.take (k+1)).map (·.l)=(aL.take k).map (·.l)++ [aL[k].l] by rw[take_add_one,getElem?_eq_getElem hlt,map_append];rfl);have lS:=zL.ae aL[k] (getElem_mem hlt);have cf:cl.length<=1000000:=by have h1:=congrArg List.length HE.ae;simp only[length_map,length_take] at h1;omega
   generalize aL[k]=r at*;have ur:=aa (uQ.more hb.size).reads;have hbase:=hb.size;obtain⟨i0,kR,hz0,hz1,hz2⟩:=info_parts lO;have HI:=aa kR;have HZ0:=aa hz0;have uP:=aa hz1;have qu:=aa hz2;have hnil:wr.ownsRow w.heap.size 44 3 (az) 0 []:=⟨rfl,.inl ⟨rfl,rfl⟩⟩;have ZI:=aa hnil;clear kR hz0 hz1 hz2 uQ hnil;go_wp2_with (first
    |(at_builtin
      refine cN wr rfl (.const (az)) (.tmp 15) 38 rfl w.heap.size 44 i0 _ 3 32 Tryz.underlying38 HI.ae HZ0.ae uP.ae qu.ae rfl WC _ 0 [] rfl ZI.ae wr.heap.size r.A r.l.length r.c (r.l.flatMap aV) rfl ur.ae (val_one r.l) Tam WC hbase ?_
      intro v2 w2 o2 g2 _
      have b2:=py g2
      have O2:aF aV 44 3 w2 w.heap.size v2 r.l:=by
       unfold aF
       simpa using o2
      obtain⟨A2,c2,hv2,_⟩:=O2.reads
      subst hv2
      have O2H:=aa O2
      have B2:=aa b2
      clear o2 g2 O2 b2)
    |(at_builtin
      refine aT rfl (.tmp 11) (.tmp 17) 29 rfl _ 24 Tryz.underlying29 nR rfl WC (⟨A2,r.l,c2⟩:aX) rfl Taw rfl ((HO.ae.later B2.ae).later (ah w2 _)) w2.heap.size rfl (aB.new w2 _ _) WC WC (Nat.le_trans hbase (Nat.le_trans B2.ae.size (ah w2 _).size)) ?_
      intro v4 w4 o4 g4
      have M4:=aa (Mine.grown (Mine.later (Mine.later HM.ae B2.ae) (ah w2 _)) ((HO.ae.later B2.ae).later (ah w2 _)) g4)
      have N4:=aa (Mine.grown (cl:=[(⟨A2,r.l,c2⟩:aX)]) (λ q hq=>by rw[mem_singleton] at hq;subst hq;exact O2H.ae.later (ah w2 _)) ((HO.ae.later B2.ae).later (ah w2 _)) g4)
      have b4:=bj ((HO.ae.later B2.ae).later (ah w2 _)) g4 (Nat.le_trans hbase (Nat.le_trans B2.ae.size (ah w2 _).size))
      have B4:=aa ((ai.then (ai.then hb B2.ae) (ah w2 _)).trans b4)
      have O4:=aa o4
      clear o4 g4 b4))
   go_roundw
   case rel=>
    refine⟨k+1,cl++ [⟨A2,r.l,c2⟩],hlt,by go_num,O4.ae,λ q hq=>?_,?_,B4.ae⟩
    ·rcases List.mem_append.1 hq with h | h
     ·exact M4.ae q h
     ·exact N4.ae q h
    ·rw[map_append,HE.ae,nt.ae];rfl
   case measure=>exact Za0
  ·have fw:k=aL.length:=by omega
   subst fw;rw[take_length] at HE;go_wp2_with fail;exact bodyPost_ret (v:=u3) (by simp[results,Tryz.results12,go_sem]) rfl ⟨_,rfl,cl,HO.ae,HM.ae,HE.ae,hb⟩
variable{b:Nat}
theorem bH(h:w'.heap[b]?=w.heap[b]?)(o:Nat):w'.cell? ⟨b,o,none⟩=w.cell? ⟨b,o,none⟩:=by unfold World.cell?;dsimp only;rw[h]
def Kp (w:World)(gp:Nat)(us:List Value)(b:Nat):Prop:=b < w.heap.size/\b≠gp/\∀u∈us,u.ownBlock≠some b
def Mv (w:World)(u u':Value):Prop:=u'.ownBlock=u.ownBlock\/∀q,u'.ownBlock=some q->w.heap.size<=q
theorem Mv.refl (w:World)(u:Value):Mv w u u:=.inl rfl
variable{w1:World}{u1 u2:Value}
theorem Mv.trans(h:Mv w u u1)(k:Mv w1 u1 u2)(hs:w.heap.size<=w1.heap.size):Mv w u u2:=by
 rcases k with k | k
 ·rcases h with h | h
  ·exact .inl (k.trans h)
  ·exact .inr λ q hq=>h q (k▸hq)
 ·exact .inr λ q hq=>Nat.le_trans hs (k q hq)
variable{u':Value}
theorem Mv.ne(h:Mv w u u')(hb:b < w.heap.size)(hu:u.ownBlock≠some b):u'.ownBlock≠some b:=λ e=>by
 rcases h with h | h
 ·exact hu (h▸e)
 ·have:=h b e;omega
structure gL (gp:Nat) (w:World) (u v:Value) (w':World) (u' v':Value):Prop where
 os:w'.os=w.os
 tape:w'.tape=w.tape
 output:w'.output=w.output
 size:w.heap.size<=w'.heap.size
 block:∀k,Kp w gp [u,v] k->w'.heap[k]?=w.heap[k]?
 mu:Mv w u u'
 mv:Mv w v v'
variable{gp:Nat}
theorem ew:Kp w gp [u,v] b↔b < w.heap.size/\b≠gp/\u.ownBlock≠some b/\v.ownBlock≠some b:=by unfold Kp;simp
variable{v':Value}
theorem gL.kp(h:gL gp w u v w' u' v')(hb:Kp w gp [u,v] b):Kp w' gp [u',v'] b:=by rw[ew] at*;exact⟨Nat.lt_of_lt_of_le hb.1 h.size,hb.2.1,h.mu.ne hb.1 hb.2.2.1,h.mv.ne hb.1 hb.2.2.2⟩
theorem gL.refl (gp:Nat)(w:World)(u v:Value):gL gp w u v w u v:=⟨rfl,rfl,rfl,Nat.le_refl _,λ _ _=>rfl,.inl rfl,.inl rfl⟩
variable{w2:World}{v1 v2:Value}
theorem gL.trans(h:gL gp w u v w1 u1 v1)(k:gL gp w1 u1 v1 w2 u2 v2):gL gp w u v w2 u2 v2:=
 ⟨k.os.trans h.os,k.tape.trans h.tape,k.output.trans h.output,Nat.le_trans h.size k.size,λ b hb=>(k.block b (h.kp hb)).trans (h.block b hb),h.mu.trans k.mu h.size,h.mv.trans k.mv h.size⟩
theorem gL.later(h:gL gp w u v w1 u1 v1)(hb:aj w1 w2):gL gp w u v w2 u1 v1:=
 h.trans ⟨hb.os,hb.tape,hb.output,hb.size,λ k hk=>hb.block k hk.1,.inl rfl,.inl rfl⟩
theorem gL.own(h:gL gp w u v w1 u1 v1)(hb:w1.grownBy w2 (some q))(hq:w.heap.size<=q):gL gp w u v w2 u1 v1:=
 ⟨hb.os.trans h.os,hb.tape.trans h.tape,hb.output.trans h.output,Nat.le_trans h.size hb.size,λ k hk=>(hb.block k (Nat.lt_of_lt_of_le hk.1 h.size) λ e=>by injection e with e;have:=hk.1;omega).trans (h.block k hk),h.mu,h.mv⟩
variable{r:Value}
theorem gL.atN(h:gL gp w u v w1 u1 v1)(hb:w1.grownBy w2 r.ownBlock)(hq:∀q,r.ownBlock=some q->w.heap.size<=q):gL gp w u v w2 u1 v1:=
 ⟨hb.os.trans h.os,hb.tape.trans h.tape,hb.output.trans h.output,Nat.le_trans h.size hb.size,λ k hk=>(hb.block k (Nat.lt_of_lt_of_le hk.1 h.size) λ e=>by have:=hq k e.symm;have:=hk.1;omega).trans (h.block k hk),h.mu,h.mv⟩
theorem gL.low(h:gL gp w u v w' u' v')(hB:B<=w.heap.size)(hg:B<=gp)(hu:∀q,u.ownBlock=some q->B<=q)(hv:∀q,v.ownBlock=some q->B<=q):Below B w w':=
 ⟨h.os,h.tape,h.output,h.size,λ k hk=>h.block k (ew.2 ⟨by omega,by omega,λ e=>by have:=hu k e;omega,λ e=>by have:=hv k e;omega⟩)⟩
variable{y:Ex}
theorem gL.tree{t:Tr}  (h:gL gp w u v w' u' v')(ht:t.at_ w (λ b=>S b/\Kp w gp [u,v] b) y):t.at_ w' (λ b=>S b/\Kp w' gp [u',v'] b) y:=
 Tr.at_.keep (λ b hb=>⟨λ o=>bH (h.block b hb.2) o,hb.1,h.kp hb.2⟩) t y ht
theorem gL.trees{t:List Tr} {y:List Ex} (h:gL gp w u v w' u' v')(ht:Tr.aO w (λ b=>S b/\Kp w gp [u,v] b) t y):Tr.aO w' (λ b=>S b/\Kp w' gp [u',v'] b) t y:=
 Tr.aO.keep (λ b hb=>⟨λ o=>bH (h.block b hb.2) o,hb.1,h.kp hb.2⟩) t y ht
variable{α:Type}{f:α->List Value}{e:TypeId}
theorem gL.atO{size:Nat}   {l:List α}(h:gL gp w u v w' u' v')(ho:aF f e size w base r l)(hr:∀q,r.ownBlock=some q->Kp w gp [u,v] q):aF f e size w' base r l:=ho.keep λ g hg=>h.block g (hr g hg)
variable{t:TypeId}{cs:Array Value}
theorem gL.blk{g:Nat}    (h:gL gp w u v w' u' v')(ho:aB w g t cs)(hr:Kp w gp [u,v] g):aB w' g t cs:=(h.block g hr).trans ho
variable{us:List Value}
theorem E7{t:Tr} (h:t.at_ w (λ b=>S b/\Kp w gp us b) y):t.at_ w (Old w) y:=Tr.at_.keep (λ b hb=>⟨λ _=>rfl,hb.2.1⟩) t y h
theorem Tr.all_append:∀ {ts us:List Tr} {ys zs:List Ex},Tr.aO w S ts ys->Tr.aO w S us zs->Tr.aO w S (ts++us) (ys++zs)
 | [],us,ys,zs,h,k=>by unfold Tr.aO at h;subst h;exact k
 | t::ts,us,ys,zs,h,k=>by unfold Tr.aO at h;obtain⟨y,ys',rfl,h1,h2⟩:=h;rw[cons_append,cons_append];unfold Tr.aO;exact⟨y,ys'++zs,rfl,h1,Tr.all_append h2 k⟩
theorem Tr.fO{t:Tr} (h:t.at_ w S y):Tr.aO w S [t] [y]:=by unfold Tr.aO;refine⟨y,[],rfl,h,?_⟩;unfold Tr.aO;rfl
variable{P:Program}{rest:List Oper}{o:Oper}{a:Act}{Q:Exit->Act->World->Prop}
theorem mW{size:Nat}   {l:List α}  {ops:Array Oper}    (hgd:o.guard=none)(s x:Operand)(t:TypeId)
  (ho:o.op=.call { callee:=.builtin .append,args:= #[s,x],argTypes:= #[t,t] })
  (z:Value) (bytes:Nat) (ht:P.underlying t=some (.slice e)) (jr:(P.info? e).map (λ i=>(i.zero,i.size,i.bytes))=some (some z,size,bytes)) (hzs:z.cells.size=size) (hsz:0 < size)
  (y:α) (hf:(f y).length=size) (h1:∀u∈f y,u.oneCell'=true)
  (hs:a.eval s=v) (hown:aF f e size w base v l)
  (g:Nat) (hx:a.eval x=aI g 1 1) (hg:aB w g e (f y).toArray)
  (hlen:(l.length+1)*bytes<=140737488355328) (mD:l.length+1<=140737488355328) (hbase:base<=w.heap.size)
  (h:∀v' w',aF f e size w' base v' (l++ [y])->w.grownBy w' v.ownBlock->Mv w v v'->wpList P ops Q rest (a.put o.dst v') w'):wpList P ops Q (o::rest) a w:=by
 obtain⟨i0,kR,hz0,hz1,hz2⟩:=info_parts jr;refine cN w hgd s x t ho base e i0 z size bytes ht kR hz0 hz1 hz2 hzs hsz v l.length (l.flatMap f) hs hown (g+1) (some ⟨g,0,none⟩) 1 1 (f y) hx ⟨by omega,λ _=>⟨_,rfl,Nat.lt_succ_self _,?_⟩⟩ h1 Tam hlen hbase ?_
 ·exact ZeP
 ·intro v' w' h2 h3 h4;refine h v' w' Zg3 h3 ZfE
def acB (k:Int)(q:Qy)(L:QL):Array Value:= #[ag k,au,az,au,af 0,au,af 0,.slice L.i.A L.i.n L.i.c,.string q.bS,.bool q.only,.slice L.w.A L.w.n L.w.c,.slice L.g.A L.g.n L.g.c,.slice L.h.A L.h.n L.h.c,.slice L.o.A L.o.n L.o.c,.slice L.l.A L.l.n L.l.c,ag 0,au,af 0,af 0,az,az,az,ag 0,af 0,au,ag 0,af 0,au]
def Nt (q:Qy)(L:QL):Array Value:= #[ag 0,au,az,au,af 0,au,af 0,.slice L.i.A L.i.n L.i.c,.string q.bS,.bool q.only,.slice L.w.A L.w.n L.w.c,.slice L.g.A L.g.n L.g.c,.slice L.h.A L.h.n L.h.c,.slice L.o.A L.o.n L.o.c,.slice L.l.A L.l.n L.l.c,ag 0,au,af 0,af 0,az,az,az,ag 0,af 0,au,ag 0,af 0,au]
structure kq (w:World) (g:Nat) (cs:Array Value) (v:Value) (l:List Ex) (wr:World):Prop where
 own:aF bF 46 7 wr w.heap.size v l
 blk:aB wr g 27 cs
 low:aj w wr
variable{wr:World}
theorem kq.later{g:Nat}   {l:List Ex} (h:kq w g cs v l wr)(hb:aj wr w'):kq w g cs v l w':=⟨h.own.later hb,h.blk.later hb,Below.trans h.low (hb.mono h.low.size)⟩
def exK (w:World)(g:Nat)(cs:Array Value)(v0:Value)(acc l1 l2 l3:List Ex):List Value->World->Prop
 | [],wr=>kq w g cs v0 acc wr
 | [a],wr=>kq w g cs a (acc++l1) wr
 | [_,b],wr=>kq w g cs b (acc++l1++l2) wr
 | [_,_,c],wr=>kq w g cs c (acc++l1++l2++l3) wr
 | _,_=>False
theorem E8 (w:World)(g:Nat)(cs:Array Value)(v0:Value)(acc l1 l2 l3:List Ex):∀vs wr,exK w g cs v0 acc l1 l2 l3 vs wr->exK w g cs v0 acc l1 l2 l3 vs wr.drew
 | [],wr,h=>kq.later h (Below.refl _ _).drew
 | [a],wr,h=>kq.later h (Below.refl _ _).drew
 | [_,b],wr,h=>kq.later h (Below.refl _ _).drew
 | [_,_,c],wr,h=>kq.later h (Below.refl _ _).drew
 | _::_::_::_::_,wr,h=>h.elim
variable{v0:Value}{acc l1 l2 l3:List Ex}
theorem IZ{g:Nat}   :∀vs wr,exK w g cs v0 acc l1 l2 l3 vs wr->aB wr g 27 cs
 | [],wr,h=>h.blk
 | [a],wr,h=>h.blk
 | [_,b],wr,h=>h.blk
 | [_,_,c],wr,h=>h.blk
 | _::_::_::_::_,wr,h=>h.elim
variable{m:List Ex}
theorem mf{g:Nat}   {l:List Ex} {A:Option Addr} {c:Nat}(h:kq w g cs v l wr)(hm:RE wr wr.heap.size A m)(hl:l.length+m.length<=4400000):
  ∃v' w',(Builtin.append_ #[23,23] 23 #[v,.slice A m.length c]).run Tryz.prog wr=.ok v' w'/\kq w g cs v' (l++m) w':=by obtain⟨i0,kR,hz0,hz1,hz2⟩:=info_parts fL;obtain⟨v',w',h1,h2,h3,_⟩:=ja (P:=Tryz.prog) wr w.heap.size 23 23 46 i0 _ 7 88 Tryz.underlying23 kR hz0 hz1 hz2 rfl WC v l.length (l.flatMap bF) h.own _ A m.length c (m.flatMap bF) hm.reads (PD m) Tam WC h.low.size;refine⟨v',w',h1,?_,h.blk.grown h3 (λ e=>h.own.other h.blk Taa e.symm),Below.trans h.low (bj h.own h3 h.low.size)⟩;unfold aF;rw[length_append,flatMap_append];exact h2
theorem E9{l:List (Tr×Value)} {A:Option Addr} (h:eP w l A n):∃ys:List (Ex×Value),n=ys.length/\RI w w.heap.size A ys/\Tr.aO w (Old w) (l.map (·.1)) (ys.map (·.1)):=by obtain⟨hn,ys,h1,h2,h3⟩:=h;refine⟨ys,?_,h1,h3⟩;have:=congrArg List.length h2;simp at this;omega
variable{ts:List Tr}
theorem Ja{A:Option Addr} (h:gJ w ts A n):∃ys,n=ys.length/\RE w w.heap.size A ys/\Tr.aO w (Old w) ts ys:=by obtain⟨hn,ys,h1,h2⟩:=h;refine⟨ys,by rw[hn,Tr.aO.length h2],?_,h2⟩;exact ZcQ
theorem uu{k:Int}(q:Qy)(L:QL)(w:World)(hq:nQ w q L)(hlen:q.items.length+q.bT.length+q.aL.length+q.fq.length+q.ord.length<=1100000):
  ar 23 #[.agg (acB k q L)] w λ e w'=>∃v ys,e=.returned v/\aF bF 46 7 w' w.heap.size v ys/\Tr.aO w (Old w) q.all ys/\aj w w':=by
 obtain⟨zi,ni,hF,ti⟩:=E9 hq.i;obtain⟨zo,no,ih,eF⟩:=E9 hq.o;obtain⟨yw,nw,q1,tw⟩:=Ja hq.w;obtain⟨yg,ng,q2,tg⟩:=Ja hq.g;obtain⟨yh,nh,q3,th⟩:=Ja hq.h;have q4:zi.length+yw.length+yg.length+yh.length+zo.length<=1100000:=by have a1:=Tr.aO.length ti;have a2:=Tr.aO.length eF;have a3:=Tr.aO.length tw;have a4:=Tr.aO.length tg;have a5:=Tr.aO.length th;simp at a1 a2;omega
 have xF:=aa (show Tr.aO w (Old w) q.all (zi.map (·.1)++yw++yg++yh++zo.map (·.1)) by
  unfold Qy.all
  have e1:q.items.map (·.1)=(q.items.map λ x=>(x.1,Value.string x.2)).map (·.1):=by rw[map_map];rfl
  have e2:q.ord.map (·.1)=(q.ord.map λ x=>(x.1,Value.bool x.2)).map (·.1):=by rw[map_map];rfl
  rw[e1,e2,<- append_assoc,<- append_assoc]
  exact Tr.all_append (Tr.all_append (Tr.all_append (Tr.all_append ti tw) tg) th) eF)
 have HF:=aa hF;have IH:=aa ih;have Q1:=aa q1;have HFN:=aa q2;have Q3:=aa q3;have Q4:=aa q4;obtain⟨i0,kR,hg4,ox,HZ⟩:=info_parts fL;have HI:=aa kR;have JT:=aa hg4;have Gn:=aa ox;have qu:=aa HZ;clear kR hg4 ox HZ;unfold acB;rw[ni,no,nw,ng,nh];have b1:=ah w (.cells #[ag k,au,az,au,af 0,au,af 0,.slice L.i.A zi.length L.i.c,.string q.bS,.bool q.only,.slice L.w.A yw.length L.w.c,.slice L.g.A yg.length L.g.c,.slice L.h.A yh.length L.h.c,.slice L.o.A zo.length L.o.c,.slice L.l.A L.l.n L.l.c,ag 0,au,af 0,af 0,az,az,az,ag 0,af 0,au,ag 0,af 0,au] 64);have k1:=aB.new w 64 #[ag k,au,az,au,af 0,au,af 0,.slice L.i.A zi.length L.i.c,.string q.bS,.bool q.only,.slice L.w.A yw.length L.w.c,.slice L.g.A yg.length L.g.c,.slice L.h.A yh.length L.h.c,.slice L.o.A zo.length L.o.c,.slice L.l.A L.l.n L.l.c,ag 0,au,af 0,af 0,az,az,az,ag 0,af 0,au,ag 0,af 0,au];have eB:=aa b1;have c7:=k1.cell 7;have c8:=k1.cell 8;have c9:=k1.cell 9;have c10:=k1.cell 10;have c11:=k1.cell 11;have c12:=k1.cell 12;have XP:=k1.cell 13;have c14:=k1.cell 14;have Rf:=k1.cell 19;have Rg:=k1.cell 20;have c21:=k1.cell 21;simp only[Uaa] at c7 c8 c9 c10 c11 c12 XP c14 Rf Rg c21;clear hq hlen ni no nw ng nh hF ih q1 q2 q3 ti eF tw tg th q4 b1 k1;go_enter Tryz.func23,Tryz.ntmps23;go_upto_region 1 with fail;generalize w.alloc _=W1 at*;go_wp2_with fail;go_loopw [3,4] (λ v iv wr=>v=az/\iv=af 0/\wr=W1) (λ _ _ _=>0);case atStart=>exact⟨rfl,rfl,rfl⟩
 case round=>
  obtain⟨rfl,rfl,rfl⟩:=hrel;go_wp2_with fail;go_loopw [3,5] (λ v iv wr2=>v=az/\iv=af 0/\wr2=wr) (λ _ _ _=>0);case atStart=>exact⟨rfl,rfl,rfl⟩
  case round=>
   obtain⟨rfl,rfl,rfl⟩:=hrel;go_upto_region 12 with fail;clear c7 c8 c9 c10 c11 c12 XP c14 Rf Rg c21;have b2:=ah wr (.cells #[.slice L.i.A zi.length L.i.c,.string q.bS,.bool q.only,.slice L.w.A yw.length L.w.c,.slice L.g.A yg.length L.g.c,.slice L.h.A yh.length L.h.c,.slice L.o.A zo.length L.o.c,.slice L.l.A L.l.n L.l.c] 27);have k2:=aB.new wr 27 #[.slice L.i.A zi.length L.i.c,.string q.bS,.bool q.only,.slice L.w.A yw.length L.w.c,.slice L.g.A yg.length L.g.c,.slice L.h.A yh.length L.h.c,.slice L.o.A zo.length L.o.c,.slice L.l.A L.l.n L.l.c];have HX:=aa (kq.mk aF.nil k2 (Below.trans eB.ae (b2.mono eB.ae.size)):kq w wr.heap.size _ (az) [] _);generalize wr.alloc (.cells #[.slice L.i.A zi.length L.i.c,.string q.bS,.bool q.only,.slice L.w.A yw.length L.w.c,.slice L.g.A yg.length L.g.c,.slice L.h.A yh.length L.h.c,.slice L.o.A zo.length L.o.c,.slice L.l.A L.l.n L.l.c] 27)=W2 at*;obtain⟨gq,IW⟩:∃gq,gq=wr.heap.size:=⟨_,rfl⟩;rw[<- IW] at HX ⊢;clear b2 k2 IW eB;go_wp2_with fail;generalize wr=wz at*;go_loopw [3,7] (λ v iv wr=>∃(k:Nat),k<=zi.length/\iv=af k/\kq w gq #[.slice L.i.A zi.length L.i.c,.string q.bS,.bool q.only,.slice L.w.A yw.length L.w.c,.slice L.g.A yg.length L.g.c,.slice L.h.A yh.length L.h.c,.slice L.o.A zo.length L.o.c,.slice L.l.A L.l.n L.l.c] v ((zi.take k).map (·.1)) wr) (λ _ iv _=>zi.length - (intOf iv).toNat);case atStart=>exact⟨0,Nat.zero_le _,rfl,HX.ae⟩
   case round=>
    obtain⟨k,hk,rfl,hx⟩:=hrel;have Xy:=aa hx;have c0:=hx.blk.cell 0;simp only[getElem?_toArray,getElem?_cons_zero] at c0;have hk9:k<=1100000:=by have:=Q4.ae;omega
    clear hx HX;by_cases TA:k < zi.length
    ·obtain⟨b,off,hA,kz,hex⟩:∃b off,L.i.A=some ⟨b,off,none⟩/\b < w.heap.size/\cw w b (off+k*8) zi[k].1:=by
      rcases HF.ae with h |⟨b,off,h1,h2,h3⟩
      ·rw[h] at TA;simp at TA
      ·exact Zhh
     have iE:=hex.keep (λ o=>Xy.ae.low.cell (p:=⟨b,o,none⟩) kz);have nt:=aa (show(zi.take (k+1)).map (·.1)=(zi.take k).map (·.1)++ [zi[k].1] by rw[take_add_one,getElem?_eq_getElem TA,map_append];rfl);have xh:((zi.take k).map (·.1)).length=k:=by rw[length_map,length_take];omega
     generalize zi[k].1=y at*;generalize (zi.take k).map (·.1)=acc at*;unfold cw at iE;obtain⟨A3,c3,hv3,_⟩:=Xy.ae.own.reads;rw[xh] at hv3;subst hv3;rw[hA] at c0;clear hA;have bN:=ah wr (.cells (ay y) 46);have hG:=aB.new wr 46 (ay y);have kB:=aa (Xy.ae.later bN);have HG:=aa hG;have hbase:=kB.ae.low.size;clear bN hG hex kz;go_wp2_with (first
      |(at_builtin
        refine aT (f:=bF) rfl (.tmp 52) (.tmp 59) 23 rfl _ 88 Tryz.underlying23 fL rfl WC y rfl (by intro u hu;simp[bF] at hu;rcases hu with rfl | rfl | rfl | rfl | rfl | rfl | rfl <;> rfl) rfl kB.ae.own wr.heap.size rfl HG.ae WC WC hbase ?_
        intro v4 w4 o4 g4
        have O4:=aa (kq.mk o4 (kB.ae.blk.grown g4 (λ e=>kB.ae.own.other kB.ae.blk Taa e.symm)) (Below.trans kB.ae.low (bj kB.ae.own g4 hbase)))
        clear o4 g4))
     exact ZfT
    ·have fw:k=zi.length:=by omega
     subst fw;have Vj:=aa (show kq w gq _ u3 (zi.map (·.1)) wr by have h1:=Xy.ae;rwa [take_length] at h1);have hlz:(zi.map (·.1)).length=zi.length:=length_map _;have HLZ:=aa hlz;obtain⟨acc,acd⟩:∃acc,acc=zi.map (·.1):=⟨_,rfl⟩;rw[<- acd] at Vj HLZ xF;clear acd;obtain⟨A3,c3,hv3,_⟩:=Vj.ae.own.reads;subst hv3;clear Xy hlz;go_upto_region 16 with fail;clear c0;obtain⟨cs,hcs⟩:∃cs:Array Value,cs= #[.slice L.i.A zi.length L.i.c,.string q.bS,.bool q.only,.slice L.w.A yw.length L.w.c,.slice L.g.A yg.length L.g.c,.slice L.h.A yh.length L.h.c,.slice L.o.A zo.length L.o.c,.slice L.l.A L.l.n L.l.c]:=⟨_,rfl⟩;have hk3:cs[3]?=some (.slice L.w.A yw.length L.w.c):=by rw[hcs];rfl
     have hk4:cs[4]?=some (.slice L.g.A yg.length L.g.c):=by rw[hcs];rfl
     have hk5:cs[5]?=some (.slice L.h.A yh.length L.h.c):=by rw[hcs];rfl
     have rC:=aa (show kq w gq cs (.slice A3 acc.length c3) acc wr by rw[hcs];exact Vj.ae);have Nu:=aa hcs;clear hcs Vj;refine LW (P:=Tryz.prog) (J:=exK w gq cs (.slice A3 acc.length c3) acc yw yg yh) (q:=6) (s:=3) (d0:=61) (d1:=62) (d2:=63) (d3:=64) (d4:=65) (d5:=66) (d6:=67) (d7:=68) (d8:=69) (d9:=70) (pq:=aw gq) (v0:=.slice A3 acc.length c3) (p1:=ba gq 3) (p2:=ba gq 4) (p3:=ba gq 5) (s1:=.slice L.w.A yw.length L.w.c) (s2:=.slice L.g.A yg.length L.g.c) (s3:=.slice L.h.A yh.length L.h.c) (A1:=⟨gq,3,none⟩) (A2:=⟨gq,4,none⟩) (A3:=⟨gq,5,none⟩) 23 (E8 _ _ _ _ _ _ _ _) rC.ae Va Va Va Va Va rfl rfl ?_ ?_ ?_ ?_ (λ vs w' h=>⟨((IZ vs w' h).cell 3).trans hk3,((IZ vs w' h).cell 4).trans hk4,((IZ vs w' h).cell 5).trans hk5⟩) ?_ ?_ ?_ ?_ ?_ ?_ ?_ ?_ ?_ ?_
     ·exact Zb6
     ·exact Zb6
     ·exact Zb6
     ·exact Zb6
     ·exact Zds
     ·exact Zds
     ·exact Zds
     ·exact Zgz
     ·exact Zgz
     ·exact Zgz
     ·intro w5 Kx;exact mf Kx ((Q1.ae.below (show kq w gq cs _ acc w5 from Kx).low).more (show kq w gq cs _ acc w5 from Kx).low.size) (by have:=Q4.ae;have:=HLZ.ae;omega)
     ·intro a w5 Kx;have Kx:kq w gq cs a (acc++yw) w5:=Kx;exact mf Kx ((HFN.ae.below Kx.low).more Kx.low.size) (by have:=Q4.ae;have:=HLZ.ae;rw[length_append];omega)
     ·intro a b w5 Kx;have Kx:kq w gq cs b (acc++yw++yg) w5:=Kx;exact mf Kx ((Q3.ae.below Kx.low).more Kx.low.size) (by have:=Q4.ae;have:=HLZ.ae;rw[length_append,length_append];omega)
     intro va vb vc W7 hX7;have SU:=aa (show kq w gq cs vc (acc++yw++yg++yh) W7 from hX7);clear hX7 rC hk3 hk4 hk5;have Ag:=aa (show(acc++yw++yg++yh).length=zi.length+yw.length+yg.length+yh.length by simp only[length_append,HLZ.ae]);obtain⟨PG,afk⟩:∃PG,PG=acc++yw++yg++yh:=⟨_,rfl⟩;rw[<- afk] at SU Ag xF;clear afk;have A4:cs[6]?=some (.slice L.o.A zo.length L.o.c):=by rw[Nu.ae];rfl
     have HC6:=aa A4;clear A4 Nu;simp only[Act.put,Uac];go_wp2_with fail;generalize wr=wy at*;go_loopw [3,8] (λ v iv wr=>∃(k:Nat),k<=zo.length/\iv=af k/\kq w gq cs v (PG++(zo.take k).map (·.1)) wr) (λ _ iv _=>zo.length - (intOf iv).toNat);case atStart=>exact⟨0,Nat.zero_le _,rfl,by rw[take_zero,map_nil,append_nil];exact SU.ae⟩
     case round=>
      clear SU;obtain⟨k,hk,rfl,hx⟩:=hrel;have Xy:=aa hx;have c6:=(hx.blk.cell 6).trans HC6.ae;have hk9:k<=1100000:=by have:=Q4.ae;omega
      clear hx;by_cases TA:k < zo.length
      ·obtain⟨b,off,hA,kz,hex⟩:∃b off,L.o.A=some ⟨b,off,none⟩/\b < w.heap.size/\cw w b (off+k*8) zo[k].1:=by
        rcases IH.ae with h |⟨b,off,h1,h2,h3⟩
        ·rw[h] at TA;simp at TA
        ·exact Zhh
       have iE:=hex.keep (λ o=>Xy.ae.low.cell (p:=⟨b,o,none⟩) kz);have nt:=aa (show PG++(zo.take (k+1)).map (·.1)=PG++(zo.take k).map (·.1)++ [zo[k].1] by rw[take_add_one,getElem?_eq_getElem TA,map_append,append_assoc];rfl);have xh:(PG++(zo.take k).map (·.1)).length<=2200000:=by have:=Ag.ae;have:=Q4.ae;rw[length_append,length_map,length_take];omega
       generalize zo[k].1=y at*;generalize PG++(zo.take k).map (·.1)=acc at*;unfold cw at iE;obtain⟨A3,c3,hv3,_⟩:=Xy.ae.own.reads;subst hv3;rw[hA] at c6;clear hA;have bN:=ah wr (.cells (ay y) 46);have hG:=aB.new wr 46 (ay y);have kB:=aa (Xy.ae.later bN);have HG:=aa hG;have hbase:=kB.ae.low.size;clear bN hG hex kz;go_wp2_with (first
        |(at_builtin
          refine aT (f:=bF) rfl (.tmp 78) (.tmp 85) 23 rfl _ 88 Tryz.underlying23 fL rfl WC y rfl (by intro u hu;simp[bF] at hu;rcases hu with rfl | rfl | rfl | rfl | rfl | rfl | rfl <;> rfl) rfl kB.ae.own wr.heap.size rfl HG.ae WC WC hbase ?_
          intro v4 w4 o4 g4
          have O4:=aa (kq.mk o4 (kB.ae.blk.grown g4 (λ e=>kB.ae.own.other kB.ae.blk Taa e.symm)) (Below.trans kB.ae.low (bj kB.ae.own g4 hbase)))
          clear o4 g4))
       exact ZfT
      ·have fw:k=zo.length:=by omega
       subst fw;rw[take_length] at Xy;go_wp2_with fail;go_ret;exact⟨_,_,rfl,Xy.ae.own,xF.ae,Xy.ae.low⟩
def Mb (w:World)(B:Nat)(A:Option Addr)(gs:List Nat):Prop:=gs=[]\/∃g,A=some ⟨g,0,none⟩/\g < B/\∀(i:Nat) q,gs[i]?=some q->w.cell? ⟨g,i,none⟩=some (aw q)
theorem Mb.later{A:Option Addr} {l:List Nat}(h:Mb w w.heap.size A l)(hb:aj w w'):Mb w' w'.heap.size A l:=by
 rcases h with h |⟨g,h1,h2,h3⟩
 ·exact .inl h
 ·exact .inr ⟨g,h1,Nat.lt_of_lt_of_le h2 hb.size,λ i x hx=>(hb.cell (p:=⟨g,i,none⟩) h2).trans (h3 i x hx)⟩
theorem Mb.at_{A:Option Addr} {l:List Nat}(h:Mb w B A l) {k:Nat}(hk:k < l.length):∃g,A=some ⟨g,0,none⟩/\g < B/\w.cell? ⟨g,k,none⟩=some (.pointer (some ⟨l[k],0,none⟩)):=by
 rcases h with h |⟨g,h1,h2,h3⟩
 ·subst h;simp at hk
 ·exact⟨g,h1,h2,h3 k l[k] (getElem?_eq_getElem hk)⟩
variable{gs:List Nat}
theorem vZ(h:aF cZ e 1 w base v gs):∃A c,v=.slice A gs.length c/\gs.length<=c/\Mb w w.heap.size A gs:=by
 obtain⟨A0,c0,e0,_,hle,_⟩:=h.reads;obtain⟨A,c,rfl,h1⟩:=ek (f:=cZ) (size:=1) (λ _=>rfl) h;injection e0 with _ _ e0;refine⟨A,c,rfl,by rw[e0];exact hle,?_⟩;rcases h1 with h1 |⟨g,h1,h2,h3⟩
 ·exact .inl h1
 ·refine .inr ⟨g,h1,h2,λ i q hq=>?_⟩;have:=h3 i q 0 _ hq WC rfl;exact ZeU
theorem PH (gg:Nat)(KA tA:Option Addr)(k t:List Val)(kc tc:Nat)(w:World)(hg:gg < w.heap.size)(hk:w.cell? ⟨gg,0,none⟩=some (.slice KA k.length kc))(hK:RV w w.heap.size KA k)(hT:RV w w.heap.size tA t)(hl:k.length<=1000)(ht:t.length<=1000):
  ar 65 #[aw gg,.slice tA t.length tc] w λ e w'=>e=.returned (af (cH k t))/\aj w w':=by have HR:=KL KA kc k tA tc t w hK hT hl ht;clear hK hT hl ht;go_enter Tryz.func65,Tryz.ntmps65;go_wp2_with fail;refine HR.mono ?_;rintro e w1 ⟨rfl,b1⟩;clear HR hk;go_wp2_with fail;go_ret;exact⟨rfl,b1⟩
def Cl (n:Nat)(c:Nat->Int)(w:World)(e:Ending)(w':World):Prop:=∃k:Nat,k<=n/\e=.returned (.tuple #[af k,.bool (decide (k < n)&& decide (c k=0))])/\(∀i,i < k->c i < 0)/\(∀i,k<=i->i < n->0<=c i)/\aj w w'
theorem zef.KaQ(h:p:=by
 have Er:m < gs.length:=by have:=HN.ae;omega
 obtain⟨g,rfl,hg,Kx⟩:=HA.ae.at_ Er;have hz:=(hb.cell (p:=⟨g,m,none⟩) hg).trans Kx;have hex:=HE.ae m Er _ hb;have HML:=aa Er;generalize gs[m]=q at*;clear Kx hg Er;go_wp2_with fail;refine hex.mono ?_;rintro e w1 ⟨rfl,hB⟩;have hb1:=ai.then hb hB;clear hex hz hB hb;by_cases hc:c m < 0
 ·go_wp2_with fail;go_roundw;case rel=>exact⟨m+1,j,by omega,hj,by go_num,rfl,λ t ht=>HL.ae t m WC HML.ae hc,HHI.ae,hb1⟩
  case measure=>exact Za0
 ·go_wp2_with fail;go_roundw;case rel=>exact⟨i,m,by omega,by omega,rfl,rfl,F2.ae,λ t h1 h2=>Int.not_lt.1 λ h=>absurd (HL.ae m t h1 Tbl h) WC,hb1⟩
  case measure=>exact Za0):p:=h
theorem PI (gs:List Nat)(SA tA:Option Addr)(sc tn tc:Nat)(c:Nat->Int)(w:World)(hn:gs.length<=1000000)(hA:Mb w w.heap.size SA gs)
  (hE:∀i (h:i < gs.length),∀W,aj w W->ar 65 #[.pointer (some ⟨gs[i],0,none⟩),.slice tA tn tc] W λ e w'=>e=.returned (af (c i))/\aj W w')
  (hm:∀i j,i<=j->j < gs.length->c j < 0->c i < 0):
  ar 64 #[.slice SA gs.length sc,.slice tA tn tc,.func (.func 65) #[] #[]] w (Cl gs.length c w):=by
 have HA:=aa hA;have HE:=aa hE;have HL:=aa hm;clear hA hE hm;obtain⟨n,tY⟩:∃n,n=gs.length:=⟨_,rfl⟩;have HN:=aa tY;rw[<- tY] at hn ⊢;clear tY;go_enter Tryz.func64,Tryz.ntmps64;go_wp2_with fail;go_loopw [9,10] (λ lo hi wr=>∃i j:Nat,i<=j/\j<=n/\lo=af i/\hi=af j/\(∀t,t < i->c t < 0)/\(∀t,j<=t->t < n->0<=c t)/\aj w wr) (λ lo hi _=>(intOf hi).toNat - (intOf lo).toNat);case atStart=>exact⟨0,n,Nat.zero_le _,Nat.le_refl _,rfl,rfl,λ t h=>by omega,λ t h1 h2=>by omega,Below.refl _ _⟩
 case round=>
  obtain⟨i,j,nL,hj,rfl,rfl,fI,hhi,hb⟩:=hrel;have F2:=aa fI;have HHI:=aa hhi;clear fI hhi;by_cases hlt:i < j
  ·go_upto_region 5 with fail;open zef in exact Zcg
  ·have F3:j=i:=by omega
   subst F3;by_cases zt:j < n
   ·have Er:j < gs.length:=by have:=HN.ae;omega
    obtain⟨g,rfl,hg,Kx⟩:=HA.ae.at_ Er;have hz:=(hb.cell (p:=⟨g,j,none⟩) hg).trans Kx;have hex:=HE.ae j Er _ hb;generalize gs[j]=q at*;clear Kx hg Er hlt;go_wp2_with fail;refine hex.mono ?_;rintro e w1 ⟨rfl,hB⟩;have hb1:=ai.then hb hB;clear hex hz hB hb;by_cases hc:c j=0
    ·have t1:(c j==0)=true:=by simp[hc]
     go_wp2_with fail;exact bodyPost_ret (v:=.tuple #[af j,.bool true]) TaJ rfl ⟨j,hj,by rw[decide_eq_true zt,decide_eq_true hc];rfl,F2.ae,HHI.ae,hb1⟩
    ·have t1:(c j==0)=false:=by simp[hc]
     go_wp2_with fail;exact bodyPost_ret (v:=.tuple #[af j,.bool false]) TaJ rfl ⟨j,hj,by rw[decide_eq_true zt,decide_eq_false hc];rfl,F2.ae,HHI.ae,hb1⟩
   ·clear hlt;go_wp2_with fail;exact bodyPost_ret (v:=.tuple #[af j,.bool false]) TaJ rfl ⟨j,hj,by rw[decide_eq_false zt];rfl,F2.ae,HHI.ae,hb⟩
structure pz (w w':World) (qs:List Nat):Prop where
 os:w'.os=w.os
 tape:w'.tape=w.tape
 output:w'.output=w.output
 size:w.heap.size<=w'.heap.size
 block:∀k,k < w.heap.size->k∉qs->w'.heap[k]?=w.heap[k]?
theorem pz.refl (w:World)(qs:List Nat):pz w w qs:=⟨rfl,rfl,rfl,Nat.le_refl _,λ _ _ _=>rfl⟩
theorem pz.below{qs:List Nat}(h:pz w w1 qs)(hb:aj w1 w2):pz w w2 qs:=
 ⟨hb.os.trans h.os,hb.tape.trans h.tape,hb.output.trans h.output,Nat.le_trans h.size hb.size,λ k hk hn=>(hb.block k (Nat.lt_of_lt_of_le hk h.size)).trans (h.block k hk hn)⟩
theorem pz.grown{qs:List Nat} (h:pz w w1 qs)(hq:q∈qs)(hb:w1.grownBy w2 (some q)):pz w w2 qs:=
 ⟨hb.os.trans h.os,hb.tape.trans h.tape,hb.output.trans h.output,Nat.le_trans h.size hb.size,λ k hk hn=>(hb.block k (Nat.lt_of_lt_of_le hk h.size) λ e=>by injection e with e;subst e;exact hn hq).trans (h.block k hk hn)⟩
theorem pz.blk{qs:List Nat} {g:Nat}  (h:pz w w' qs)(hg:aB w g t cs)(hn:g∉qs):aB w' g t cs:=(h.block g hg.lt hn).trans hg
theorem pz.low{qs:List Nat} (h:pz w w' qs)(hB:B<=w.heap.size)(hq:∀q∈qs,B<=q):Below B w w':=
 ⟨h.os,h.tape,h.output,h.size,λ k hk=>h.block k (Nat.lt_of_lt_of_le hk hB) λ hm=>by have:=hq k hm;omega⟩
structure RVq (w:World) (qs:List Nat) (A:Option Addr) (l:List Val):Prop where
 rv:RV w w.heap.size A l
 off:∀a,A=some a->a.block∉qs
variable{l:List Val}
theorem RVq.turn{qs:List Nat} {A:Option Addr} (h:RVq w qs A l)(ht:pz w w' qs):RV w' w'.heap.size A l:=by
 rcases h.rv with h0 |⟨b,off,rfl,hb,hc⟩
 ·exact .inl h0
 ·refine .inr ⟨b,off,rfl,Nat.lt_of_lt_of_le hb ht.size,λ i x hx=>(hc i x hx).keep λ o=>bH (ht.block b hb (h.off _ rfl)) o⟩
def eR (A:Option Addr)(c n:Nat):Option Addr:=if c=n then A else A.map (·.add (n*3))
theorem RV.SV{A:Option Addr} (h:RV w B A l)(n c:Nat)(hc:l.length<=c):RV w B (eR A c n) (l.drop n):=by
 unfold eR;rcases h with h0 |⟨b,off,rfl,hb,hx⟩
 ·subst h0;exact .inl Tac
 ·split
  ·left;rw[drop_eq_nil_iff];omega
  ·refine .inr ⟨b,off+n*3,by simp[dQ],hb,λ i x hi=>?_⟩;rw[getElem?_drop] at hi;have:=hx (n+i) x hi;rw[show off+n*3+i*3=off+(n+i)*3 by omega];exact this
theorem RV.F4{A:Option Addr} (h:RV w B A l)(n:Nat):RV w B A (l.take n):=by
 rcases h with h0 |⟨b,off,rfl,hb,hx⟩
 ·subst h0;exact .inl Tac
 ·refine .inr ⟨b,off,rfl,hb,λ i x hi=>?_⟩;rw[getElem?_take] at hi;split at hi
  ·exact hx i x hi
  ·cases hi
theorem xR{qs:List Nat} {A:Option Addr} {c:Nat}(h:∀a,A=some a->a.block∉qs):∀a,eR A c n=some a->a.block∉qs:=by
 intro a ha;unfold eR at ha;split at ha
 ·exact h a ha
 ·cases A with
  | none=>cases ha
  | some ad=>simp only[Option.map_some,Option.some.injEq] at ha;rw[<- ha,uZ];exact h ad rfl
theorem Cm (u:World):(sizeOf (Tryz.prog.elem 38)).run Tryz.prog u=.ok 3 u:=by exact Zgn
theorem sN (a:Addr):a.add 0=a:=by obtain⟨b,o,s⟩:=a;unfold Addr.add;split <;> simp_all
theorem sO (A1:Option Addr)(n c1 k:Nat)(hk:k<=n)(u:World):(Instr.slice 38 (.slice A1 n c1) (some (af k)) none none).run Tryz.prog u=.ok (.slice (eR A1 c1 k) (n - k) (c1 - k)) u:=by unfold eR;rw[run_slice_l u 38 A1 n c1 Tryz.underlying38 .i64 k WC WC,Cm];simp[sliced]
theorem Vk (A1:Option Addr)(n c1 k:Nat)(hk:k<=c1)(u:World):(Instr.slice 38 (.slice A1 n c1) none (some (af k)) none).run Tryz.prog u=.ok (.slice A1 k c1) u:=by rw[run_slice_h u 38 A1 n c1 Tryz.underlying38 .i64 k WC WC,Cm];exact Zg6
theorem Gi (A1:Option Addr)(n c1 k m:Nat)(hk:k<=m)(hm:m<=c1)(u:World):(Instr.slice 38 (.slice A1 n c1) none (some (af k)) (some (af m))).run Tryz.prog u=.ok (.slice A1 k m) u:=by rw[run_slice_hm u 38 A1 n c1 Tryz.underlying38 .i64 .i64 k m WC WC WC,Cm];exact Zg6
theorem Ev (w:World)(ty:TypeId)(g:Nat)(t:TypeId)(cur:Array Value)(A:Option Addr)(l:List Val)(c dl dc:Nat)(hg:aB w g t cur)(pA:l.length*3<=cur.size)(hl:l.length<=dl)(hR:Reads w w.heap.size 3 A l.length (l.flatMap aV)):
  (Builtin.copy_ #[38,38] ty #[aI g dl dc,.slice A l.length c]).run Tryz.prog w=.ok (goInt l.length) (w.setRow g (l.flatMap aV++cur.toList.drop (l.length*3)).toArray):=by
 have hn:Nat.min l.length dl=l.length:=Nat.min_eq_left hl;have Ht:=KM l;have hst:=run_storeCells_at Tryz.prog g 0 t (l.flatMap aV) 0 cur w hg (by rw[Ht];simpa using pA) (val_one l);simp only[Nat.zero_add,take_zero,nil_append,Ht] at hst;have hsz:∀u:World,(sizeOf 44).run Tryz.prog u=.ok 3 u:=λ u=>by kernel_rfl
 cases A with
 | none=>
   have h0:l=[]:=by
    cases l with
    | nil=>rfl
    | cons x xs=>obtain⟨a,ha,_⟩:=hR.2 Tac;cases ha
   subst h0;simp[Builtin.copy_,run_underlying Tryz.underlying38,Builtin.lenOf,Builtin.firstCells,hsz,storeCells];rw[setRow_self w g cur t (0,0) hg]
 | some a=>
   have hld:=run_loadCells_list (P:=Tryz.prog) w a (l.flatMap aV) (by
    intro j v hj
    cases l with
    | nil=>simp at hj
    | cons x xs=>
      obtain⟨a2,ha,hb,hc⟩:=hR.2 Tac
      injection ha with ha
      subst ha
      exact hc j v hj)
   rw[Ht] at hld;simp[Builtin.copy_,run_underlying Tryz.underlying38,Builtin.lenOf,Builtin.firstCells,hsz,hn,hld,hst]
def kW (l:List Val):Val×Val:=(l.getD 0 aN,l.getD 1 aN)
variable{h:Nat}{ds:Array Value}
theorem kM{g:Nat} {u:TypeId} (hg:aB w g t cs)(hh:aB w h u ds)(hn:t≠u):g≠h:=λ e=>by subst e;have h1:w.heap[g]?=some (.cells cs t (0,0)):=hg;have h2:w.heap[g]?=some (.cells ds u (0,0)):=hh;rw[h1] at h2;injection h2 with h2;injection h2 with _ h2 _;exact hn h2
def mX:Array Value:= #[ag 0,af 0,au,ag 0,af 0,au]
def Cn (a b:Val):Array Value:= #[ag a.k,af a.n,.string a.s,ag b.k,af b.n,.string b.s]
theorem zV{ops:Array Oper}     (hgd:o.guard=none)(d s:Operand)
  (ho:o.op=.call { callee:=.builtin .copy,args:= #[d,s],argTypes:= #[38,38] }) (g:Nat) (A:Option Addr) (l:List Val) (c dc n:Nat) (hd:a.eval d=aI g 2 dc) (hs:a.eval s=.slice A n c) (hn:n=l.length)
  (hg:aB w g 187 mX) (hl:l.length<=2) (hR:RV w w.heap.size A l)
  (h:∀w' u,aB w' g 187 (Cn (kW l).1 (kW l).2)->w.grownBy w' (some g)->wpList Tryz.prog ops Q rest (a.put o.dst u) w'):wpList Tryz.prog ops Q (o::rest) a w:=by
 subst hn;refine wpList_plain hgd λ K hK=>?_
 have hrun:=Ev w o.type g 187 mX A l c 2 dc hg (by show l.length*3<=6;omega) hl hR.reads;unfold Oper.wp;simp[execOp,ho,resolve,invoke,builtin,hd,hs,hrun,Result.andThen];refine hK _ _ (h _ _ ?_ ⟨rfl,rfl,rfl,by simp[World.setRow],λ k hk hne=>setRow_other w g k _ (λ e=>hne Tbd)⟩);have:=setRow_heap w g mX (l.flatMap aV++mX.toList.drop (l.length*3)).toArray 187 (0,0) hg;refine Eq.trans this ?_
 match l,hl with
 | [],_=>rfl
 | [x],_=>rfl
 | [x,y],_=>rfl
def mg:List Nat->List Val->List (Val×Val)
 | [],_=> []
 | n::ns,l=>kW (l.take n)::mg ns (l.drop n)
def Mc:List Nat->Nat
 | []=>0
 | n::ns=>n+Mc ns
def eC (ss:List St)(ps:List (Val×Val)):List St:=List.zipWith (λ s p=>s.feed p.1 p.2) ss ps
theorem dF.put{k:Nat} {qs:List Nat} {ss:List St} (h:dF w B qs ss)(hq:qs[k]?=some q)(hg:w.grownBy w' (some q))(hs:cC w' q s):dF w' B qs (ss.set k s):=by
 have zu:k < qs.length:=by
  rcases Nat.lt_or_ge k qs.length with h1 | h1
  ·exact h1
  ·rw[getElem?_eq_none h1] at hq;cases hq
 refine⟨by rw[length_set];exact h.len,λ i r t hr ht=>?_,λ r hr=>⟨(h.low r hr).1,Nat.lt_of_lt_of_le (h.low r hr).2 hg.size⟩,h.apart⟩;by_cases hik:i=k
 ·subst hik;rw[hq] at hr;injection hr with hr;rw[getElem?_set_self (by rw[<- h.len];exact zu)] at ht;injection ht with ht;subst hr ht;exact hs
 ·rw[getElem?_set_ne (Ne.symm hik)] at ht
  have hne:q≠r:=λ e=>by
   subst e
   have rW:i < qs.length:=by
    rcases Nat.lt_or_ge i qs.length with h1 | h1
    ·exact h1
    ·rw[getElem?_eq_none h1] at hr;cases hr
   rw[getElem?_eq_getElem rW] at hr;rw[getElem?_eq_getElem zu] at hq;injection hr with hr;injection hq with hq;rcases Nat.lt_or_ge i k with hlt | ve
   ·exact List.pairwise_iff_getElem.1 h.apart i k rW zu hlt (hr.trans hq.symm)
   ·exact List.pairwise_iff_getElem.1 h.apart k i zu rW WC (hq.trans hr.symm)
  exact(hg.block r (h.low r (mem_of_getElem? hr)).2 (λ e=>by injection e with e;exact hne e.symm)).trans (h.at_ i r t hr ht)
theorem dF.tJ{qs:List Nat} {ss:List St} {g:Nat}  (h:dF w B qs ss)(hg:aB w g t cs)(ht:t≠199):g∉qs:=λ hm=>by obtain⟨i,hi,he⟩:=getElem_of_mem hm;have h1:=h.at_ i g (ss[i]' TaK) Tay (getElem?_eq_getElem _);unfold cC aB at h1;unfold aB at hg;rw[hg] at h1;injection h1 with h1;injection h1 with _ h1 _;exact ht h1
def d4V (g7 g8 m c1 n yc:Nat)(A1 yA:Option Addr):Nat->World->Value->Prop
 | 0,_,v=>v=aI g8 2 2
 | 1,_,v=>v=.slice A1 m c1
 | 2,_,v=>v=ba g7 6
 | 3,_,v=>v=.slice yA n yc
 | 4,_,v=>v=af n
 | 5,_,v=>v=.slice A1 n c1
 | _,_,_=>False
theorem Vl (g7 g8 m c1 n yc:Nat)(A1 yA:Option Addr):∀i w w' v,d4V g7 g8 m c1 n yc A1 yA i w v->ai w w'->d4V g7 g8 m c1 n yc A1 yA i w' v:=by
 intro i w w' v h hl
 match i with
 | 0 | 1 | 2 | 3 | 4 | 5=>exact h
 | n+6=>exact h
def d6V (gg g8 sb sn sc k q:Nat)(a b:Val):Nat->World->Value->Prop
 | 0,_,v=>v=aw gg
 | 1,_,v=>v=aw gg
 | 2,_,v=>v=ba gg 1
 | 3,_,v=>v=aI sb sn sc
 | 4,_,v=>v=af k
 | 5,_,v=>v=ba sb k
 | 6,_,v=>v=aw q
 | 7,_,v=>v=aw g8
 | 8,_,v=>v=.agg (aD a)
 | 9,_,v=>v=ba g8 3
 | 10,_,v=>v=.agg (aD b)
 | _,_,_=>False
theorem Vm (gg g8 sb sn sc k q:Nat)(a b:Val):∀i w w' v,d6V gg g8 sb sn sc k q a b i w v->ai w w'->d6V gg g8 sb sn sc k q a b i w' v:=by exact Zdo
theorem zcU.Kax(h:p:=by
 have amW:=aa (λ q hq=>(hS.low q hq).1);clear nU XT hS hR hc fP aZ hv hF ih q1 q2 q3 q4 q5 Au C3 hz hcw Nj;go_enter Tryz.func67,Tryz.ntmps67;go_wp2_with fail;clear Tn;go_loopw [2,14] (λ v i wr=>∃(j:Nat) (A1:Option Addr) (LT:Nat) (rem:List Val),j<=ys.length/\i=af j/\v=.slice A1 rem.length LT/\RVq w qs A1 rem/\rem.length<=LT/\rem.length<=1000000/\(∀v∈rem,v.Ok)/\mg ((ys.map Ex.n).drop j) rem=ps.drop j/\Mc ((ys.map Ex.n).drop j)<=rem.length/\dF wr B qs ((eC ss ps).take j++ss.drop j)/\pz w wr qs) (λ _ i _=>ys.length - (intOf i).toNat);case atStart=>exact⟨0,A0,LE,l,Nat.zero_le _,rfl,rfl,HR.ae,HC.ae,G9.ae,HV.ae,sP.ae,PJ.ae,HS0.ae,pz.refl _ _⟩
 case round=>
  clear HS0 sP PJ HR HC HV G9;obtain⟨j,A1,LT,rem,hk,rfl,rfl,hR,hc,Nj,hv,nU,XT,hS,hT⟩:=hrel;have HS:=aa hS;have HT:=aa hT;have HR:=aa hR;have HC:=aa hc;have HV:=aa hv;have sP:=aa nU;have PJ:=aa XT;have G9:=aa Nj;clear hS hT hR hc hv nU XT Nj;by_cases hlt:j < ys.length
  ·obtain⟨b,off,rfl,kz,hex⟩:=(HF.ae.below (HT.ae.low gX.ae amW.ae)).at_ hlt;have fP:=HY2.ae ys[j] (getElem_mem hlt);have hdr:(ys.map Ex.n).drop j=ys[j].n::(ys.map Ex.n).drop (j+1):=by rw[drop_eq_getElem_cons Tan];simp
   rw[hdr] at sP PJ;have hp0:ps.drop j=kW (rem.take ys[j].n)::mg ((ys.map Ex.n).drop (j+1)) (rem.drop ys[j].n):=sP.ae.symm;have Ah:ps[j]?=some (kW (rem.take ys[j].n)):=by have h1:=congrArg (λ l=>l[0]?) hp0;simpa using h1
   have Gu:mg ((ys.map Ex.n).drop (j+1)) (rem.drop ys[j].n)=ps.drop (j+1):=by have h1:=congrArg List.tail hp0;rw[tail_drop] at h1;exact h1.symm
   have atT:ys[j].n+Mc ((ys.map Ex.n).drop (j+1))<=rem.length:=PJ.ae;have F5:j < qs.length:=by have:=Q5.ae;omega
   have pP:j < ss.length:=by have:=oy.ae;omega
   have aoB:=HS.ae.at_ j qs[j] ss[j] (getElem?_eq_getElem F5) (by
    rw[getElem?_append_right TaH,length_take]
    have hm:min j (eC ss ps).length=j:=by
     refine Nat.min_eq_left (Nat.le_of_lt ?_)
     unfold eC
     rw[length_zipWith]
     have hpl:j < ps.length:=by
      rcases Nat.lt_or_ge j ps.length with h | h
      ·exact h
      ·rw[getElem?_eq_none h] at Ah;cases Ah
     omega
    rw[hm,Nat.sub_self,getElem?_drop,Nat.add_zero,getElem?_eq_getElem pP])
   have aZ:=HG.ae ss[j] (getElem_mem pP)
   have Qs:((eC ss ps).take j++ss.drop j).set j (ss[j].feed (kW (rem.take ys[j].n)).1 (kW (rem.take ys[j].n)).2)=(eC ss ps).take (j+1)++ss.drop (j+1):=by
    have hpl:j < ps.length:=by
     rcases Nat.lt_or_ge j ps.length with h | h
     ·exact h
     ·rw[getElem?_eq_none h] at Ah;cases Ah
    have Ht:j <(eC ss ps).length:=by unfold eC;rw[length_zipWith];omega
    have hfk:(eC ss ps)[j]'Ht=ss[j].feed (kW (rem.take ys[j].n)).1 (kW (rem.take ys[j].n)).2:=by
     have h1:(eC ss ps)[j]?=some (ss[j].feed (kW (rem.take ys[j].n)).1 (kW (rem.take ys[j].n)).2):=by unfold eC;rw[getElem?_zipWith,getElem?_eq_getElem pP,Ah]
     rw[getElem?_eq_getElem Ht] at h1;injection h1
    rw[take_add_one,getElem?_eq_getElem Ht,hfk];have sX:((eC ss ps).take j).length=j:=by rw[length_take];omega
    rw[set_append_right _ _ WC,sX,Nat.sub_self,drop_eq_getElem_cons pP,set_cons_zero,append_assoc];rfl
   have lS:=getElem_mem F5;have hX:qs[j]?=some qs[j]:=getElem?_eq_getElem F5
   obtain⟨lb,hSA,hsb,hsc⟩:∃lb,SA=some ⟨lb,0,none⟩/\lb < w.heap.size/\w.cell? ⟨lb,j,none⟩=some (.pointer (some ⟨qs[j],0,none⟩)):=by
    rcases Q4.ae with h |⟨g,h1,h2,h3⟩
    ·rw[h] at F5;simp at F5
    ·refine⟨g,h1,h2,?_⟩;have:=h3 j qs[j] 0 _ hX WC rfl;exact ZeU
   subst hSA;have hsq:=λ h=>Q3.ae lb h rfl
   have hGw:=HT.ae.blk IH.ae HFN.ae;have hsw:wr.heap[lb]?=w.heap[lb]?:=HT.ae.block lb hsb hsq;have fq:=(bH hsw j).trans hsc;have hP:=Nat.lt_of_lt_of_le hsb HT.ae.size;have hRw:=HR.ae.turn HT.ae;have axC:=Q5.ae;generalize ys[j]=y at*;generalize qs[j]=q at*;generalize ss[j]=s at*;unfold cw at hex;have HNX:=aa (show Mc ((ys.map Ex.n).drop (j+1))<=(rem.drop y.n).length by rw[length_drop];omega);have hI0:y.n<=rem.length:=by omega
   have HP:=aa Gu;have XF:=aa Qs;have aio:=aa lS;have HB:=aa hX;have VJ:=aa fq;have Q7:=aa hP;have K7:=aa aoB;have JU:=aa aZ;have HG0:=aa fP;have HI0:=aa hI0;have HHL:=aa F5;clear hdr sP PJ hp0 Ah Gu atT pP aoB aZ Qs lS hX hsb hsc hsq hsw fq hP fP hI0 F5;go_upto_region 4 with fail;have k1:=aB.new wr 46 (ay y);have Mp:=ah wr (.cells (ay y) 46);generalize hW1:wr.alloc (.cells (ay y) 46)=W1 at*;have HZ:=aB.new W1 187 mX;have b2:=ah W1 (.cells mX 187);unfold mX at HZ b2;generalize hW2:W1.alloc _=W2 at*;have k1:=k1.later b2;have bb:=ai.then Mp b2;obtain⟨g7,Nv⟩:∃g7,g7=wr.heap.size:=⟨_,rfl⟩;have hs1:W1.heap.size=g7+1:=by rw[<- hW1,World.size_alloc,Nv]
   rw[<- Nv] at k1 ⊢;rw[hs1] at HZ;obtain⟨g8,hg8⟩:∃g8,g8=g7+1:=⟨_,rfl⟩;rw[<- hg8] at HZ ⊢;have nE:g7≠g8:=by omega
   have HT2:=aa (HT.ae.below bb);have Xx:=aa (hRw.later bb);have zW:=aa (hGw.later bb);have Mz:=aa (HS.ae.later bb);have ang:=aa (show cC W2 q s from aB.later K7.ae bb);have anh:=aa ((bb.cell (p:=⟨lb,j,none⟩) Q7.ae).trans VJ.ae);have ahG:=aa (Nat.lt_of_lt_of_le Q7.ae bb.size);have Xz:=aa (show wr.heap.size<=g8 by omega);have HGS:=aa (show lb≠g8 by have:=Q7.ae;omega);clear hGw hRw HS K7 VJ Q7 Mp b2 bb hW1 hW2 hs1 Nv hg8 hex;obtain⟨m,hm⟩:∃m,m=rem.length:=⟨_,rfl⟩;rw[<- hm];have HM:=aa hm;have hYR:y.n<=m:=by rw[hm];exact HI0.ae
   have hC1:m<=LT:=by rw[hm];exact HC.ae
   clear hm;have HZH:=aa HZ;have K9:=aa k1;clear HZ k1;refine bA 6 (d4V g7 g8 m LT y.n y.c A1 y.A) (Vl _ _ _ _ _ _ _ _) Va Va Va ?_ ?_
   ·simp only[take_succ_cons,take_zero];refine⟨Z1,Z1,Z1,?_,Z1,?_,trivial⟩
    ·intro ρ w3 hc hL hr;have h0:_=_:=hr.1;have Kx:=(K9.ae.later hL).cell 6;exact ZaO
    ·intro ρ w3 hc hL hr;have h0:_=_:=hr.1;have h1:_=_:=hr.2.1;have hs:=Vk A1 m LT y.n WC w3;exact ZcN
   intro W3 hL;simp only[Uab];rintro _ rfl a1 - a2 - a3 - a4 - _ rfl;simp only[bD,Act.put,Uac];have PK:=aa (show aB W3 g8 187 mX from HZH.ae.later hL);have HR3:=aa (((Xx.ae.later hL).F4 y.n));have HLT:=aa (show(rem.take y.n).length=y.n by rw[length_take];have:=HI0.ae;omega);have Mi:=aa (zW.ae.later hL);have DX:=aa (K9.ae.later hL);have Cj:=aa (Mz.ae.later hL);have anj:=aa (show cC W3 q s from aB.later ang.ae hL);have ank:=aa ((hL.cell (p:=⟨lb,j,none⟩) ahG.ae).trans anh.ae);have ahI:=aa (Nat.lt_of_lt_of_le ahG.ae hL.size);have HT3:=aa (HT2.ae.below hL);clear hL HZH K9 zW Mz ang anh ahG HT2 Xx;have fI:=λ u=>sO A1 m LT y.n hYR u
   refine zV rfl (.tmp 19) (.tmp 24) rfl g8 A1 (rem.take y.n) LT 2 y.n rfl rfl HLT.ae.symm PK.ae (by rw[HLT.ae];exact HG0.ae) HR3.ae ?_;intro W4 u4 hz4 hg4;have sM:=aa (Mi.ae.grown hg4 (λ e=>by injection e with e;exact kM Mi.ae PK.ae Taa e));have HX:=DX.ae.grown hg4 (λ e=>by injection e with e;exact nE e);have x6:=HX.cell 6;simp only[Uaa] at x6;have IJ:=aa (Cj.ae.tJ PK.ae Taa);have GQ:=aa (Cj.ae.keep hg4.size λ q hq=>hg4.block q (Cj.ae.low q hq).2 (λ e=>by injection e with e;subst e;exact IJ.ae hq));have ND:=aa (show cC W4 q s from aB.grown anj.ae hg4 (λ e=>by injection e with e;subst e;exact IJ.ae aio.ae));have Mt:=aa ((bH (hg4.block lb ahI.ae (λ e=>by injection e with e;exact HGS.ae e)) j).trans ank.ae);have Ts:=aa (Nat.lt_of_lt_of_le ahI.ae hg4.size);have atW:=aa (show w.heap.size<=g8 from Nat.le_trans HT.ae.size Xz.ae);have HT4:=aa (show pz w W4 qs from⟨hg4.os.trans HT3.ae.os,hg4.tape.trans HT3.ae.tape,hg4.output.trans HT3.ae.output,Nat.le_trans HT3.ae.size hg4.size,λ j hk hn=>(hg4.block j (Nat.lt_of_lt_of_le hk HT3.ae.size) (λ e=>by injection e with e;have:=atW.ae;omega)).trans (HT3.ae.block j hk hn)⟩);have XB:=aa hz4;clear hz4 hg4 Mi DX Cj anj ank ahI HT3 PK HR3 HX;go_wp2_with fail;have JW:=sM;have xI:=GQ;have HYB:=ND;have tF:=Mt;have Wv:=Ts;have Gn:=XB;have HT5:=HT4;have HAB:=aa (show(kW (rem.take y.n)).1.Ok/\(kW (rem.take y.n)).2.Ok by
    have aZ:∀KK,((rem.take y.n).getD KK aN).Ok:=λ KK=>by
     rw[getD_eq_getElem?_getD]
     cases hj:(rem.take y.n)[KK]? with
     | none=>exact dX
     | some v=>exact HV.ae v (mem_of_mem_take (mem_of_getElem? hj))
    exact⟨aZ 0,aZ 1⟩)
   obtain⟨a,ha⟩:∃a,a=(kW (rem.take y.n)).1:=⟨_,rfl⟩;obtain⟨b2,hb2⟩:∃b2,b2=(kW (rem.take y.n)).2:=⟨_,rfl⟩;rw[<- ha,<- hb2] at HAB Gn XF;clear sM GQ ND Mt Ts XB HT4 x6 ha hb2 fI;refine bA 11 (d6V gg g8 lb qs.length sc j q a b2) (Vm _ _ _ _ _ _ _ _ _) Va Va Va ?_ ?_
   ·simp only[take_succ_cons,take_zero];refine⟨Z1,Z1,Z1,?_,Z1,?_,Zfz,Z1,?_,?_,?_,trivial⟩
    ·intro ρ w3 hc hL hr;have h0:_=_:=hr.1;have Kx:=(JW.ae.later hL).cell 1;exact ZaO
    ·intro ρ w3 hc hL hr;have h0:_=_:=hr.1;have h1:_=_:=hr.2.1;have Uf:=HHL.ae;exact aq (w':=w3) (by simp[go_sem,h0,h1,Uf,dQ];done) ⟨ai.refl _,rfl⟩
    ·intro ρ w3 hc hL hr;have h0:_=_:=hr.1;have cJ:=Gn.ae.later hL;have c0:=cJ.cell 0;have c1:=cJ.cell 1;have c2:=cJ.cell 2;exact ZfA
    ·intro ρ w3 hc hL hr;have h0:_=_:=hr.1;exact aq (w':=w3) (by simp[go_sem,h0,hc.const,dQ];done) ⟨ai.refl _,rfl⟩
    ·intro ρ w3 hc hL hr;have h0:_=_:=hr.1;have cJ:=Gn.ae.later hL;have c0:=cJ.cell 3;have c1:=cJ.cell 4;have c2:=cJ.cell 5;exact ZfA
   intro W5 hL;simp only[Uab];rintro a0 - a1 - a2 - a3 - a4 - a5 - _ rfl a7 - _ rfl a9 - _ rfl;simp only[bD,Act.put,Uac];have HS6:=aa (xI.ae.later hL);have ant:=aa (show cC W5 q s from aB.later HYB.ae hL);have wU:=aa (HT5.ae.below hL);clear hL JW xI HYB tF Wv Gn HT5;go_wp2_with fail;refine(YQ q s a b2 W5 ant.ae JU.ae.1 JU.ae.2 HAB.ae.1).mono ?_;rintro e w7 ⟨rfl,hst,Nv⟩;have HS7:=aa (HS6.ae.put HB.ae Nv hst);have HT7:=aa (wU.ae.grown aio.ae Nv);clear hst Nv HS6 ant wU;go_wp2_with fail;go_roundw
   case rel=>
    refine⟨j+1,eR A1 LT y.n,LT - y.n,rem.drop y.n,hlt,by go_num,?_,⟨?_,xR HR.ae.off⟩,?_,?_,?_,HP.ae,HNX.ae,?_,HT7.ae⟩
    ·rw[length_drop,<- HM.ae]
    ·exact HR.ae.rv.SV y.n LT (by have:=HC.ae;omega)
    ·rw[length_drop];have:=HC.ae;omega
    ·rw[length_drop];have:=G9.ae;omega
    ·exact λ v hv=>HV.ae v (mem_of_mem_drop hv)
    ·rw[<- XF.ae];exact HS7.ae
   case measure=>exact Za0
  ·have fw:j=ys.length:=by omega
   subst fw;have Ht:(eC ss ps).length=ss.length:=by have h1:=JR.ae;have h2:=oy.ae;unfold eC;rw[length_zipWith];omega
   have hst:=HS.ae;rw[take_of_length_le (by rw[Ht];have:=oy.ae;omega),drop_eq_nil_of_le (by have:=oy.ae;omega),append_nil] at hst;have HST:=aa hst;clear hst Ht HS;go_wp2_with fail;go_end0;exact⟨rfl,HST.ae,HT.ae⟩):p:=h
theorem yX (gp gg B base:Nat)(ys:List Ex)(AA:Option Addr)(ac:Nat)(kv sv:Value)(qs:List Nat)(ss:List St)(l:List Val)(A0:Option Addr)(LE:Nat)(w:World)
  (hn:ys.length<=1000000) (C3:gp < B) (hz:B<=w.heap.size) (Tn:w.cell? ⟨gp,9,none⟩=some (.slice AA ys.length ac)) (hF:RE w B AA ys) (ih:aB w gg 141 #[kv,sv]) (q1:aF cZ 145 1 w base sv qs)
  (hS:dF w B qs ss) (q5:qs.length=ys.length) (hR:RVq w qs A0 l) (hc:l.length<=LE) (XT:Mc (ys.map Ex.n)<=l.length) (fP:∀y∈ys,y.n<=2) (aZ:∀s∈ss,s.Ok/\s.all < 4611686018427387904) (hv:∀v∈l,v.Ok) (Nj:l.length<=1000000):
  ar 67 #[aw gp,aw gg,.slice A0 l.length LE] w λ e w'=>e=.returned (.tuple #[])/\dF w' B qs (eC ss (mg (ys.map Ex.n) l))/\pz w w' qs:=by
 have q2:=hS.tJ ih Taa;have q3:=hS.ne q1;have Au:ss.length=ys.length:=by rw[<- hS.len];exact q5
 obtain⟨SA,sc,rfl,q4⟩:=ek (f:=cZ) (size:=1) (λ _=>rfl) q1;have hcw:=ih.cell 1;obtain⟨ps,nU⟩:∃ps,ps=mg (ys.map Ex.n) l:=⟨_,rfl⟩;rw[<- nU];have JR:=aa (show ps.length=ys.length by
  have hp:∀(ns:List Nat) (l:List Val),(mg ns l).length=ns.length:=by
   intro ns
   induction ns with
   | nil=>intro l;rfl
   | cons n ns Lw=>intro l;show(mg ns (l.drop n)).length+1=_;rw[Lw];rfl
  rw[nU,hp,length_map])
 have sP:=aa (show mg ((ys.map Ex.n).drop 0) l=ps.drop 0 from nU.symm);have PJ:=aa (show Mc ((ys.map Ex.n).drop 0)<=l.length from XT);have HS0:=aa (show dF w B qs ((eC ss ps).take 0++ss.drop 0)from hS);have Ly:=aa (show(eC ss ps).length<=ss.length by unfold eC;rw[length_zipWith];omega);have HR:=aa hR;have HC:=aa hc;have HY2:=aa fP;have HG:=aa aZ;have HV:=aa hv;open zcU in exact Zbb
theorem Co:(Tryz.prog.info? 135).map (λ i=>(i.zero,i.size,i.bytes))=some (some (.pointer none),1,8):=by exact Zgn
theorem Md (u:World):(sizeOf (Tryz.prog.elem 134)).run Tryz.prog u=.ok 1 u:=by exact Zgn
theorem iF (A1:Option Addr)(n c1 k:Nat)(hk:k<=n)(u:World):(Instr.slice 134 (.slice A1 n c1) (some (af k)) none none).run Tryz.prog u=.ok (.slice (if c1=k then A1 else A1.map (·.add (k*1))) (n - k) (c1 - k)) u:=by rw[run_slice_l u 134 A1 n c1 Tryz.underlying134 .i64 k WC WC,Md];simp[sliced]
theorem Cp (A1:Option Addr)(n c1 k:Nat)(hk:k<=c1)(u:World):(Instr.slice 134 (.slice A1 n c1) none (some (af k)) none).run Tryz.prog u=.ok (.slice A1 k c1) u:=by rw[run_slice_h u 134 A1 n c1 Tryz.underlying134 .i64 k WC WC,Md];exact Zg6
theorem Me (w:World)(ty:TypeId)(g q:Nat)(cur:Array Value)(a:Addr)(cs:List Value)(dl dc sl sc:Nat)(hg:aB w g 135 cur)(pA:q+cs.length<=cur.size)(hn:cs.length=Nat.min sl dl)
  (hs:∀(j:Nat) v,cs[j]?=some v->w.cell? (a.add j)=some v) (h1:∀v∈cs,v.oneCell'=true):
  (Builtin.copy_ #[134,134] ty #[.slice (some ⟨g,q,none⟩) dl dc,.slice (some a) sl sc]).run Tryz.prog w=.ok (goInt cs.length) (w.setRow g (cur.toList.take q++(cs++cur.toList.drop (q+cs.length))).toArray):=by
 have hst:=run_storeCells_at Tryz.prog g q 135 cs 0 cur w hg (by simpa using pA) h1;have hld:=run_loadCells_list (P:=Tryz.prog) w a cs hs;have hsz:∀u:World,(sizeOf 135).run Tryz.prog u=.ok 1 u:=λ u=>by kernel_rfl
 simp only[Nat.add_zero] at hst;simp[Builtin.copy_,run_underlying Tryz.underlying134,Builtin.lenOf,Builtin.firstCells,hsz,<- hn,hld,hst]
variable{ac:Act}
theorem jf{ops:Array Oper}     (hgd:o.guard=none)(d s:Operand)
  (ho:o.op=.call { callee:=.builtin .copy,args:= #[d,s],argTypes:= #[134,134] }) (g q:Nat) (cur:Array Value) (a:Addr) (cs:List Value) (dl dc sl sc:Nat) (hd:ac.eval d=.slice (some ⟨g,q,none⟩) dl dc) (hs:ac.eval s=.slice (some a) sl sc)
  (hg:aB w g 135 cur) (pA:q+cs.length<=cur.size) (hn:cs.length=Nat.min sl dl) (atX:∀(j:Nat) v,cs[j]?=some v->w.cell? (a.add j)=some v) (h1:∀v∈cs,v.oneCell'=true)
  (h:∀w' u,aB w' g 135 (cur.toList.take q++(cs++cur.toList.drop (q+cs.length))).toArray->w.grownBy w' (some g)->wpList Tryz.prog ops Q rest (ac.put o.dst u) w'):wpList Tryz.prog ops Q (o::rest) ac w:=by
 refine wpList_plain hgd λ K hK=>?_
 have hrun:=Me w o.type g q cur a cs dl dc sl sc hg pA hn atX h1;unfold Oper.wp;simp[execOp,ho,resolve,invoke,builtin,hd,hs,hrun,Result.andThen];exact hK _ _ (h _ _ (setRow_heap w g cur _ 135 (0,0) hg) ⟨rfl,rfl,rfl,by simp[World.setRow],λ k hk hne=>setRow_other w g k _ (λ e=>hne Tbd)⟩)
theorem fD (A:Option Addr)(n c:Nat):(Value.slice A n c).ownBlock=A.map (·.block):=by cases A <;> rfl
def eU (q:Nat):Value:=aw q
theorem rE (l:List Nat):l.flatMap cZ=l.map eU:=by
 induction l with
 | nil=>rfl
 | cons x l ih=>rw[flatMap_cons,ih];rfl
theorem Ax (l:List Nat):∀v∈l.map eU,v.oneCell'=true:=by intro v hv;obtain⟨x,_,rfl⟩:=List.mem_map.1 hv;simp[eU,Value.oneCell']
def Ay (lv:Value)(base:Nat)(l:List Nat)(w:World)(e:Ending)(w':World):Prop:=∃v',e=.returned v'/\aF cZ 135 1 w' base v' l/\w.grownBy w' lv.ownBlock
theorem PL (gs:List Nat)(x:Nat)(lv:Value)(base vb:Nat)(w:World)(hl:gs.length<=1000000)(hO:aF cZ 135 1 w base lv gs)(hv:aB w vb 135 #[aw x])(hbase:base<=w.heap.size):
  ar 66 #[lv,af gs.length,aI vb 1 1] w (Ay lv base (gs++ [x]) w):=by
 obtain⟨LA,lc,rfl,hle,_⟩:=vZ hO;have HV:=aa hv;obtain⟨n,tY⟩:∃n,n=gs.length:=⟨_,rfl⟩;have HN:=aa tY;have hl2:n<=1000000:=by omega
 rw[<- tY] at hle hO ⊢;have HO:=aa hO;have fI:=λ u=>iF LA n lc n (Nat.le_refl _) u
 clear hO hv tY hl;go_enter Tryz.func66,Tryz.ntmps66;go_wp2_with (first
  |(at_builtin
    refine aT (l:=gs) rfl (.tmp 23) (.tmp 24) 134 rfl _ 8 Tryz.underlying134 Co rfl WC x rfl TaY rfl HO.ae vb rfl HV.ae Tbl Tbl hbase ?_
    intro v4 w4 S6 g4
    obtain⟨A4,Qg,hv4,_⟩:=S6.reads
    rw[length_append,length_singleton] at hv4
    subst hv4
    have O4:=aa S6
    have G4:=aa (show w.grownBy w4 (Value.slice LA n lc).ownBlock from g4)
    clear S6 g4))
 all_goals
  go_ret;refine⟨_,rfl,O4.ae,?_⟩;have h4:=G4.ae;rw[fD] at h4 ⊢;exact h4
def ahL (g n cap k:Nat):Nat->World->Value->Prop
 | 0,_,v=>v=aI g (n+1) cap
 | 1,_,v=>v=af k
 | 2,_,v=>v=af 1
 | 3,_,v=>v=af (k+1)
 | 4,_,v=>v=.slice (some ⟨g,k+1,none⟩) (n+1 - (k+1)) (cap - (k+1))
 | 5,_,v=>v=aI g (n+1) cap
 | 6,_,v=>v=af k
 | 7,_,v=>v=.slice (some ⟨g,k,none⟩) (n+1 - k) (cap - k)
 | _,_,_=>False
theorem PM (g n cap k:Nat):∀i w w' v,ahL g n cap k i w v->ai w w'->ahL g n cap k i w' v:=by exact Zf8
theorem zg5.KbS(h:p:=by
 have uR:=aa (HG.ae.later hL);have HV3:=aa (HV.ae.later hL);have HL:=aa hL;clear hL HG HV;have hg:((gs.drop k).map eU).length=n - k:=by rw[length_map,length_drop,<- HN.ae]
 have hcell:∀(j:Nat) v,((gs.drop k).map eU)[j]?=some v->W3.cell? ((⟨g,k,none⟩:Addr).add j)=some v:=λ j v hj=>by
  rw[PB,uR.ae.cell];rw[<- Array.getElem?_toList];have e:(cur.toList.take n)[k+j]?=some v:=by rw[HF.ae];rw[getElem?_map,getElem?_drop,<- getElem?_map] at hj;exact hj
  rw[getElem?_take] at e;split at e
  ·exact e
  ·cases e
 have Nu:=aa hcell;have Nn:=aa hg;clear hcell hg;refine jf rfl (.tmp 73) (.tmp 76) rfl g (k+1) cur ⟨g,k,none⟩ ((gs.drop k).map eU) _ _ _ _ rfl rfl uR.ae (by rw[Nn.ae,Q1.ae];omega) (by rw[Nn.ae];simp only[Nat.min_def];split <;> omega) Nu.ae (Ax _) ?_;intro W4 u4 hg4 Vp;have JT:=aa hg4;have HV4:=aa (HV3.ae.grown Vp (λ e=>by injection e with e;exact HFN.ae e.symm));have ahN:=aa (show w.grownBy W4 (some g)from aY (aR HL.ae) Vp);clear hg4 Vp uR HV3 HL Nu;obtain⟨c4,hc4⟩:∃c4:Array Value,c4=(cur.toList.take (k+1)++((gs.drop k).map eU++cur.toList.drop (k+1+((gs.drop k).map eU).length))).toArray:=⟨_,rfl⟩;rw[<- hc4] at JT;have HC4:=aa hc4;clear hc4;have hs4:c4.size=cap:=by rw[HC4.ae];have h1:=Nn.ae;have h2:=Q1.ae;simp only[size_toArray,length_append,length_take,length_drop,Array.length_toList] at h1 ⊢;rw[length_map,length_drop] at h1 ⊢;omega
 have HS4:=aa hs4;have RM:∀(j:Nat) v,[eU x][j]?=some v->W4.cell? ((⟨vb,0,none⟩:Addr).add j)=some v:=λ j v hj=>by rw[PB,Nat.zero_add,HV4.ae.cell];simpa [eU] using hj
 have HCX:=aa RM;clear hs4 RM;go_wp2_with (first
  |(refine jf rfl (.tmp 80) (.tmp 81) rfl g k c4 ⟨vb,0,none⟩ [eU x] _ _ _ _ rfl rfl JT.ae (by rw[HS4.ae,length_singleton];omega) TaQ HCX.ae (Ax [x]) ?_
    intro W5 u5 Jb anv
    have Vn:=aa Jb
    have atY:=aa (aY ahN.ae anv)
    clear Jb anv))
 go_ret;refine⟨_,rfl,⟨?_,.inr ⟨g,cap,_,?_,hbg,Vn.ae,?_,IH.ae,?_,?_⟩⟩,atY.ae⟩
 ·have:=HN.ae;simp[rE,cZ]
 ·have:=HN.ae;congr 1;simp;omega
 ·have:=HN.ae;simp;omega
 ·have:=HS4.ae;simp;omega
 ·have h3:=HF.ae;have h4:=HC4.ae;have h5:=HN.ae;have h6:=Q1.ae;obtain⟨R,hR⟩:∃R,R=cur.toList.drop (k+1+((gs.drop k).map eU).length):=⟨_,rfl⟩;rw[<- hR] at h4;have cf:cur.toList.length=cap:=by rw[Array.length_toList];exact h6
  have e0:cur.toList.take k=(gs.take k).map eU:=by have:=congrArg (List.take k) h3;rw[take_take,Nat.min_eq_left WC,<- map_take] at this;exact this
  have DR:(cur.toList.take (k+1)).length=k+1:=by rw[length_take];omega
  have e1:c4.toList.take k=(gs.take k).map eU:=by rw[h4,toList_toArray,take_append_of_le_length WC,take_take,Nat.min_eq_left WC,e0]
  have e2:c4.toList.drop (k+1)=(gs.drop k).map eU++R:=by rw[h4,toList_toArray,drop_append_of_le_length WC,drop_of_length_le WC,nil_append]
  rw[rE,toList_toArray,e1,length_singleton,e2,Nat.mul_one];have e3:(gs.take k).map eU++([eU x]++((gs.drop k).map eU++R))=(gs.take k++x::gs.drop k).map eU++R:=by simp
  exact Zgt):p:=h
theorem Mf (gs:List Nat)(x k:Nat)(g cap base vb:Nat)(cur:Array Value)(w:World)(hl:gs.length<=1000000)(hk:k < gs.length)(hbg:base<=g)(aZ:aB w g 135 cur)(hroom:gs.length+1<=cap)(ih:cap<=maxLen)(q1:cur.size=cap)(hF:cur.toList.take gs.length=gs.map eU)(hv:aB w vb 135 #[aw x])(q2:g≠vb):
  ar 66 #[aI g gs.length cap,af k,aI vb 1 1] w (Ay (aI g gs.length cap) base (gs.take k++x::gs.drop k) w):=by
 obtain⟨n,tY⟩:∃n,n=gs.length:=⟨_,rfl⟩;have HN:=aa tY;rw[<- tY] at hl hk hroom hF ⊢;have hmx:cap<=9223372036854775807:=by unfold maxLen at ih;omega
 have Ln:∀lb cb,(callFunc 101 #[aI vb 1 1,.slice (some ⟨g,k+1,none⟩) lb cb]).run Tryz.prog w=.ok (.value (.bool false)) w:=λ lb cb=>by
  rw[run_callFunc_extern Tryz.func101 Va Va Va (e:=Extern.SlicesOverlaps.overlaps #[134,134] #[4]) Va,
   Lib.run_overlaps_apart w 134 4 135 Tryz.underlying134 1 (λ u=>by kernel_rfl) ⟨vb,0,none⟩ ⟨g,k+1,none⟩ 1 1 lb cb (Ne.symm q2) 135 135 1 cap (by unfold World.shape?;dsimp only;rw[show w.heap[vb]?=some (.cells #[aw x] 135 (0,0))from hv];rfl) (by unfold World.shape?;dsimp only;rw[show w.heap[g]?=some (.cells cur 135 (0,0))from aZ,<- q1]) WC (hv.frozen 0) (hv.frozen 1)]
  rfl
 have Vo:=λ u=>iF (some ⟨g,0,none⟩) n cap k WC u
 have anu:=λ u=>Cp (some ⟨g,0,none⟩) n cap (n+1) hroom u
 have Ew:=λ u=>iF (some ⟨g,0,none⟩) (n+1) cap (k+1) WC u
 have PN:=λ u=>iF (some ⟨g,0,none⟩) (n+1) cap k WC u
 rw[if_neg WC] at Vo Ew PN;simp only[Option.map_some,dQ,Nat.mul_one,Nat.zero_add] at Vo Ew PN;push_cast at anu Ew;have mixed:Tryz.prog.follows .mixedOrders=true:=by kernel_rfl
 have t1:((k:Int)==(n:Int))=false:=by simp;omega
 have t2:decide ((cap:Int)<(n:Int)+1)=false:=decide_eq_false WC;have HG:=aa aZ;have HV:=aa hv;have HF:=aa hF;have IH:=aa ih;have Q1:=aa q1;have HFN:=aa q2;have HOV:=Ln;clear aZ hv hF ih q1 q2 tY Ln;go_enter Tryz.func66,Tryz.ntmps66;go_wp2_with (simp only[HOV]);refine bA 8 (ahL g n cap k) (PM _ _ _ _) Va Va Va ?_ ?_
 ·exact Zbm
 open zg5 in exact ZeM
theorem Vq (d:Bool):Good (Zh d):=by
 cases d
 ·exact jD
 ·exact jD.flip
theorem Cq:∀ds,Good (vI ds)
 | []=>⟨λ _ _=>rfl,λ _ _ _ _ _=>Int.le_refl _⟩
 | d::ds=>((Vq d).by_ λ l:List Val=>l.headD aN).lex ((Cq ds).by_ List.tail)
theorem pB (ds:List Bool):Good (BD ds):=((Cq ds).by_ fC.keys).lex (jE.by_ fC.row)
theorem PO{ds:List Bool} {a b:fC}(h:BD ds a b=0):a.row=b.row:=by
 unfold BD ou at h;split at h
 ·exact iP _ _ h
 ·rename_i h2;exact absurd h h2
def jJ (s:dy):Prop:=∀a∈s.aJ,isAgg a.op=true
mutual
theorem Tr.Gj (aL:List Tr)(cols:List aW):∀(t:Tr) (s:dy) (y:Tr) (s':dy),t.turn aL cols s=.ok (y,s')->jJ s->jJ s'
 | .mk op v name width args,s,y,s',h,hs=>by
   unfold Tr.turn at h;split at h
   ·injection h with h;injection h with h1 h2;rw[<- h2];exact hs
   ·split at h
    ·rename_i hop;split at h
     ·cases h
     ·injection h with h;injection h with h1 h2;rw[<- h2];intro a ha;rcases List.mem_append.1 ha with ha | ha
      ·exact hs a ha
      ·rw[mem_singleton] at ha;rw[ha];exact hop
    ·split at h
     ·cases h
     ·rename_i ys s1 h1;split at h
      ·cases h
      ·split at h
       ·cases h
       ·injection h with h;injection h with h3 h4;rw[<- h4];exact Tr.Cr aL cols args s ys s1 h1 hs
theorem Tr.Cr (aL:List Tr)(cols:List aW):∀(ts:List Tr) (s:dy) (ys:List Tr) (s':dy),Tr.turns aL cols ts s=.ok (ys,s')->jJ s->jJ s'
 | [],s,ys,s',h,hs=>by unfold Tr.turns at h;injection h with h;injection h with h1 h2;rw[<- h2];exact hs
 | t::ts,s,ys,s',h,hs=>by
   unfold Tr.turns at h;split at h
   ·cases h
   ·rename_i y s1 h1;split at h
    ·cases h
    ·rename_i XC s2 h2;injection h with h;injection h with h3 h4;rw[<- h4];exact Tr.Cr aL cols ts s1 XC s2 h2 (Tr.Gj aL cols t s y s1 h1 hs)
end
variable{aL:List Tr}{cols:List aW}{s':dy}
theorem Cs{g:Bool}   {t:Tr} {s:dy} {y:Tr} {k:Int} (h:oV g aL cols t s=.ok (y,k,s'))(hs:jJ s):jJ s':=by
 unfold oV at h;split at h
 ·exact Zfy
 ·split at h
  ·cases h
  ·rename_i y1 s1 h1;split at h
   ·cases h
   ·injection h with h;injection h with h2 h;injection h with h3 h4;rw[<- h4];exact Tr.Gj aL cols t s y1 s1 h1 hs
theorem Ct{g:Bool}  :∀ {l:List (Tr×ByteArray)} {s:dy} {ys:List Tr} {hd:List aW} {s':dy},dm g aL cols l s=.ok (ys,hd,s')->jJ s->jJ s'
 | [],s,ys,hd,s',h,hs=>by unfold dm at h;injection h with h;injection h with h1 h;injection h with h2 h3;rw[<- h3];exact hs
 |(t,nm)::l,s,ys,hd,s',h,hs=>by
  unfold dm at h;split at h
  ·cases h
  ·rename_i y k s1 h1;split at h
   ·cases h
   ·rename_i XC SX s2 h2;injection h with h;injection h with h3 h;injection h with h4 h5;rw[<- h5];exact Ct h2 (Cs h1 hs)
theorem yY{g:Bool}  :∀ {l:List Tr} {s:dy} {ys:List Tr} {s':dy},dA g aL cols l s=.ok (ys,s')->jJ s->jJ s'
 | [],s,ys,s',h,hs=>by unfold dA at h;injection h with h;injection h with h1 h2;rw[<- h2];exact hs
 | t::l,s,ys,s',h,hs=>by
   unfold dA at h;split at h
   ·cases h
   ·rename_i y k s1 h1;split at h
    ·cases h
    split at h
    ·cases h
    ·rename_i XC s2 h2;injection h with h;injection h with h3 h4;rw[<- h4];exact yY h2 (Cs h1 hs)
theorem Cu{g:Bool}  :∀ {l:List (Tr×Bool)} {s:dy} {ys:List Tr} {s':dy},eu g aL cols l s=.ok (ys,s')->jJ s->jJ s'
 | [],s,ys,s',h,hs=>by unfold eu at h;injection h with h;injection h with h1 h2;rw[<- h2];exact hs
 |(t,d)::l,s,ys,s',h,hs=>by
  unfold eu at h;split at h
  ·cases h
  ·rename_i y k s1 h1;split at h
   ·cases h
   ·rename_i XC s2 h2;injection h with h;injection h with h3 h4;rw[<- h4];exact Cu h2 (Cs h1 hs)
theorem zfW.Kbt(h:p:=by exact Cu h3 (yY h2 (Ct h1 (λ a ha=>by cases ha)))):p:=h
theorem Vr{q:Qy}  {p:ib}(h:dn q cols=.ok p):jJ p.st:=by
 open zfW in exact ZdW
theorem least_le:∀(l:List Int) (b:Int),(b≠0->l.foldl jo b≠0/\l.foldl jo b<=b)/\∀e∈l,e≠0->l.foldl jo b≠0/\l.foldl jo b<=e
 | [],b=>⟨λ h=>⟨h,Int.le_refl _⟩,λ e he=>by cases he⟩
 | x::l,b=>by
   obtain⟨h2,h3⟩:=least_le l (jo b x);have k1:b≠0->jo b x≠0/\jo b x<=b:=by unfold jo;split <;> omega
   have k2:x≠0->jo b x≠0/\jo b x<=x:=by unfold jo;split <;> omega
   refine⟨λ hb0=>?_,λ e he he0=>?_⟩
   ·obtain⟨a1,a2⟩:=k1 hb0;obtain⟨c1,c2⟩:=h2 a1;exact⟨c1,Int.le_trans c2 a2⟩
   ·rcases List.mem_cons.1 he with rfl | he
    ·obtain⟨a1,a2⟩:=k2 he0;obtain⟨c1,c2⟩:=h2 a1;exact⟨c1,Int.le_trans c2 a2⟩
    ·exact h3 e he he0
theorem Vs{l:List Int} {e:Int}(h:e∈l)(h0:e≠0):cO l≠0/\cO l<=e:=(least_le l 0).2 e h h0
theorem yZ{l:List Int}(h:∀e∈l,e=0):cO l=0:=by
 have:∀(l:List Int),(∀e∈l,e=0)->l.foldl jo 0=0:=by
  intro l
  induction l with
  | nil=>intro _;rfl
  | cons x l ih=>intro h;rw[foldl_cons,h x (mem_cons_self ..)];exact ih λ e he=>h e (mem_cons_of_mem _ he)
 exact this l h
theorem F6 (cols:List aW)(rows:List (List Val)):bZ cols [] rows=(rows,0):=by
 have h1:rows.filter (λ r=>(dz cols [] r).2==0 &&(dz cols [] r).1)=rows:=List.filter_eq_self.2 λ _ _=>rfl
 have h2:cO (rows.map λ r=>(dz cols [] r).2)=0:=yZ λ e he=>by obtain⟨r,_,rfl⟩:=List.mem_map.1 he;rfl
 exact Prod.ext h1 h2
theorem PQ{q:Qy}  {p:ib}(h:dn q cols=.ok p):dn { q with bT:=[] } cols=.ok p:=by
 obtain⟨items,bS,only,bT,aL,fq,ord,lim⟩:=q;unfold dn at h ⊢;dsimp only at h ⊢;split at h
 ·cases h
 rename_i h1;split at h
 ·cases h
 rename_i h2;split at h
 ·cases h
 rw[if_neg (by simp only[length_nil];omega),if_neg (by
  simp only[Qy.all,nil_append] at h2 ⊢
  rw[any_append,any_append,any_append,any_append,Bool.or_eq_true,Bool.or_eq_true,Bool.or_eq_true,Bool.or_eq_true] at h2
  rw[any_append,any_append,any_append,Bool.or_eq_true,Bool.or_eq_true,Bool.or_eq_true]
  intro h
  apply h2
  rcases h with (h | h | h)| h
  ·exact .inl (.inl h)
  ·exact .inl (.inr (.inl (.inr h)))
  ·exact .inl (.inr (.inr h))
  ·exact .inr h)]
 exact h
variable{rows:List (List Val)}
theorem Vt{q:Qy}   {p:ib}(hp:dn q cols=.ok p)(hf:rows.any (λ r=> !fJ cols r)=false)(hk:(bZ cols q.bT rows).2=0):
  iD q cols rows=iD { q with bT:=[] } cols (bZ cols q.bT rows).1:=by
 unfold iD;rw[hp,PQ hp];dsimp only;have h2:(bZ cols q.bT rows).1.any (λ r=> !fJ cols r)=false:=by rw[any_eq_false] at hf ⊢;intro x hx;exact hf x (List.mem_filter.1 hx).1
 rw[hf,h2,if_neg Taa,if_neg Taa];have h3:pS q p cols rows=pS { q with bT:=[] } p cols (bZ cols q.bT rows).1:=by unfold pS;dsimp only;rw[F6,if_neg (show¬(bZ cols q.bT rows).2≠0 from λ h=>h hk),if_neg (show¬((bZ cols q.bT rows).1,(0:Int)).2≠0 from λ h=>h rfl)]
 rw[h3]
theorem Cv{c:α->α->Int} {k:α}:∀ {l:List α} {j:Nat} {x:α},(∀i y,i < j->l[i]?=some y->c y k < 0)->l[j]?=some x->c x k=0->iB c k l=l
 | [],j,x,_,h,_=>by simp at h
 | y::l,0,x,_,h,h0=>by simp at h;subst h;unfold iB;rw[if_neg WC,if_pos h0]
 | y::l,j+1,x,hl,h,h0=>by unfold iB;rw[if_pos (hl 0 y WC rfl),Cv (j:=j) (λ i z hi hz=>hl (i+1) z WC Ta3) Tak h0]
theorem Mg{c:α->α->Int} {k:α}:∀ {l:List α} {j:Nat},j<=l.length->(∀i y,i < j->l[i]?=some y->c y k < 0)->(∀y,l[j]?=some y->0 < c y k)->iB c k l=l.take j++k::l.drop j
 | [],j,hj,_,_=>by simp at hj;subst hj;rfl
 | y::l,0,_,_,h=>by have h0:=h y rfl;unfold iB;rw[if_neg WC,if_neg WC];rfl
 | y::l,j+1,hj,hl,h=>by unfold iB;rw[if_pos (hl 0 y WC rfl),Mg (j:=j) (by simpa using hj) (λ i z hi hz=>hl (i+1) z WC Ta3) (λ z hz=>h z Ta3)];rfl
theorem Cw (l:List (List Val))(k:List Val):iR (l++ [k])=iB cH k (iR l):=by unfold iR yH;rw[foldl_append];rfl
def fo (ng:Nat)(l:List (List Val)):List (List Val):=if ng=0 then [[]] else iR l
theorem F7 (ng:Nat)(l:List (List Val)):(fo ng l).Pairwise (λ a b=>cH a b < 0):=by
 unfold fo;split
 ·simp
 ·exact(vG jE iP l).1
theorem xS (ng:Nat)(l:List (List Val)):(fo ng l).length<=l.length+1:=by
 unfold fo;split
 ·simp
 ·have:∀(l:List (List Val)),(iR l).length<=l.length:=by
   intro l
   have hk:∀(k:List Val) (m:List (List Val)),(iB cH k m).length<=m.length+1:=by
    intro k m
    induction m with
    | nil=>simp[iB]
    | cons x m ih=>
      unfold iB;split
      ·simp;omega
      ·split <;> simp
   suffices h:∀(l s:List (List Val)),(l.foldl (λ ks k=>iB cH k ks) s).length<=l.length+s.length by
    have:=h l [];simpa [iR,yH] using this
   intro l
   induction l with
   | nil=>intro s;simp
   | cons x l ih=>intro s;rw[foldl_cons];have h1:=ih (iB cH x s);have h2:=hk x s;simp only[length_cons];omega
  have:=this l;omega
def dU (ops:List Int)(ps:List (List Val×List (Val×Val)))(k:List Val):List St:=(List.range ops.length).map λ i=>kU (ops.getD i 0) (pX i ps k)
theorem jg (ops:List Int)(ps:List (List Val×List (Val×Val)))(k:List Val):dR ops ps k=(dU ops ps k).map gF:=by unfold dR dU;rw[map_map];rfl
theorem mY (ops:List Int)(ps:List (List Val×List (Val×Val)))(k:List Val):(dU ops ps k).length=ops.length:=by simp[dU]
variable{ps:List (List Val×List (Val×Val))}{k k':List Val}{pr:List (Val×Val)}
theorem PS(h:cH k k'≠0):pX i (ps++ [(k,pr)]) k'=pX i ps k':=by unfold pX;rw[filter_append,map_append,filter_cons_of_neg Tak];simp
theorem Vu(h:cH k k'=0):pX i (ps++ [(k,pr)]) k'=pX i ps k'++ [pr.getD i (aN,aN)]:=by unfold pX;rw[filter_append,map_append,filter_cons_of_pos Tak];simp
theorem F8(h:∀p∈ps,cH p.1 k≠0):pX i ps k=[]:=by unfold pX;rw[List.filter_eq_nil_iff.2 λ p hp=>by simpa using h p hp];rfl
theorem PT (op:Int)(l:List (Val×Val))(x:Val×Val):kU op (l++ [x])=(kU op l).feed x.1 x.2:=by unfold kU St.yE;rw[foldl_append];rfl
variable{ops:List Int}
theorem Jc(h:cH k k'≠0):dU ops (ps++ [(k,pr)]) k'=dU ops ps k':=by
 unfold dU;exact map_congr_left λ i _=>by rw[PS h]
theorem Mh(h:cH k k'=0)(hl:pr.length=ops.length):dU ops (ps++ [(k,pr)]) k'=List.zipWith (λ s p=>St.feed s p.1 p.2) (dU ops ps k') pr:=by
 apply ext_getElem
 ·simp[dU,hl]
 ·intro i h1 h2;have hi:i < ops.length:=by simpa [dU] using h1
  simp only[dU,getElem_zipWith,getElem_map,getElem_range];rw[Vu h,PT,getD_eq_getElem?_getD (l:=pr),getElem?_eq_getElem (by omega:i < pr.length)];rfl
theorem Cx(h:∀p∈ps,cH p.1 k≠0):dU ops ps k=ops.map fh:=by
 apply ext_getElem
 ·simp[dU]
 ·intro i h1 h2;have hi:i < ops.length:=by simpa using h2
  simp only[dU,getElem_map,getElem_range];rw[F8 h,getD_eq_getElem?_getD,getElem?_eq_getElem hi];rfl
theorem Vv(kE:∀op∈ops,isAgg op=true)  :∀s∈dU ops ps k,∃op l,op∈ops/\l.length<=ps.length/\s=kU op l:=by
 intro s hs;unfold dU at hs;obtain⟨i,hi,rfl⟩:=List.mem_map.1 hs;have hi:i < ops.length:=List.mem_range.1 hi;refine⟨_,pX i ps k,?_,?_,rfl⟩
 ·rw[getD_eq_getElem?_getD,getElem?_eq_getElem hi];exact getElem_mem hi
 ·unfold pX;rw[length_map];exact length_filter_le _ _
theorem ze3.Ka7(h:p:=by
 unfold jB at gu;have oH:=aa gu;clear gu Hu;unfold cw at hex;go_wp2_with fail;have bY:=ah wr (.cells (ay bad) 46);refine(oH.ae _ (ai.then hb bY)).mono ?_;rintro e W3 ⟨rfl,b1⟩;unfold bQ;have eD:=ai.then hb (ai.then bY b1);have t1:(er != 0)=true:=by have:=Oa.ae;simpa using this
 have t2:decide (er=0)=false:=by have:=Oa.ae;simpa using this
 clear bY b1 oH hex hb;go_wp2_with fail;exact bodyPost_ret (v:=.tuple #[az,af er]) Tbp rfl ⟨rfl,ai.then eD (ah W3 _)⟩):p:=h
theorem PU (A:Option Addr)(n c:Nat)(cV rV:Value)(args:List (Ex×Val))(bad:Ex)(bv:Val)(er:Int)(post:List Ex)(w:World)(hn:args.length+1+post.length=n)(hl:n<=1599289640356)(hA:RE w w.heap.size A (args.map (·.1)++bad::post))(hE:∀a∈args,jB w cV rV a.1 a.2 0)(jV:jB w cV rV bad bv er)(her:er≠0):
  ar 34 #[.slice A n c,cV,rV] w λ e w'=>e=.returned (.tuple #[az,af er])/\aj w w':=by
 have HN:=aa hn;have Hu:=aa jV;have Oa:=aa her;clear hn jV her;have HA:=aa hA;have HE:=aa hE;clear hA hE;go_enter Tryz.func34,Tryz.ntmps34;go_wp2_with fail;go_loopw [8,15] (λ kv i wr=>∃k:Nat,k<=args.length/\i=af k/\aF aV 44 3 wr w.heap.size kv ((args.take k).map (·.2))/\aj w wr) (λ _ i _=>args.length - (intOf i).toNat);case atStart=>exact ZcE
 case round=>
  obtain⟨k,hk,rfl,hp,hb⟩:=hrel;have HK:=aa hp;clear hp;rcases Nat.lt_or_ge k args.length with hlt | ve
  ·have zA:k < n:=by have:=HN.ae;omega
   obtain⟨b,off,rfl,kz,hex⟩:=(HA.ae.below hb).at_ (show k <(args.map (·.1)++bad::post).length by simp;omega);have js:(args.map (·.1)++bad::post)[k]' Tab=args[k].1:=by rw[getElem_append_left Tan];simp
   exact Zao
  ·open ze3 in exact ZcP
theorem PV (A:Option Addr)(n c:Nat)(cV rV:Value)(args:List (Ex×Val))(w:World)(hn:args.length=n)(hl:n<=1599289640356)(hA:RE w w.heap.size A (args.map (·.1)))(hE:∀a∈args,jB w cV rV a.1 a.2 0):
  ar 34 #[.slice A n c,cV,rV] w λ e w'=>∃v,e=.returned (.tuple #[v,af 0])/\aF aV 44 3 w' w.heap.size v (args.map (·.2))/\aj w w':=by
 have HN:=aa hn;clear hn;have HA:=aa hA;have HE:=aa hE;clear hA hE;go_enter Tryz.func34,Tryz.ntmps34;go_wp2_with fail;go_loopw [8,15] (λ kv i wr=>∃k:Nat,k<=args.length/\i=af k/\aF aV 44 3 wr w.heap.size kv ((args.take k).map (·.2))/\aj w wr) (λ _ i _=>args.length - (intOf i).toNat);case atStart=>exact ZcE
 case round=>
  obtain⟨k,hk,rfl,hp,hb⟩:=hrel;have HK:=aa hp;clear hp;rcases Nat.lt_or_ge k args.length with hlt | ve
  ·have zA:k < n:=by have:=HN.ae;omega
   obtain⟨b,off,rfl,kz,hex⟩:=(HA.ae.below hb).at_ (show k <(args.map (·.1)).length by simpa using hlt);have js:(args.map (·.1))[k]' Tan=args[k].1:=by simp
   exact Zao
  ·have lN:args.take k=args:=take_of_length_le ve;have zA:¬k < n:=by have:=HN.ae;omega
   rw[lN] at HK;go_wp2_with fail;exact bodyPost_ret (v:=.tuple #[u8,af 0]) Tbp rfl ⟨_,rfl,HK.ae,hb⟩
theorem aB.kr{size:Nat}   {l:List α}   (hq:aB w q t cs)(h:aF f e size w base v l)(ht:t≠e)(hg:w.grownBy w' v.ownBlock):aB w' q t cs:=hq.grown hg λ e=>h.other hq ht e.symm
theorem Jd:∀ {l:List (Val×Int)},(∀a∈l,a.2=0)->cM l=0
 | [],_=>rfl
 | a::l,h=>by unfold cM;rw[if_neg (by simp[h a (mem_cons_self ..)])];exact Jd λ b hb=>h b (mem_cons_of_mem _ hb)
theorem F9:∀ {pre:List (Val×Int)} {bad:Val×Int} {post:List (Val×Int)},(∀a∈pre,a.2=0)->bad.2≠0->cM (pre++bad::post)=bad.2
 | [],bad,post,_,hb=>by rw[nil_append];unfold cM;rw[if_pos hb]
 | a::pre,bad,post,h,hb=>by rw[cons_append];unfold cM;rw[if_neg (by simp[h a (mem_cons_self ..)])];exact F9 (λ b hb=>h b (mem_cons_of_mem _ hb)) hb
def rF (cols:List aW)(row:List Val)(ts:List Tr)(w:World)(e:Ending)(w':World):Prop:=
 match bB cols row ts with
 | .error er=>er≠0/\e=.returned (.tuple #[az,af er])/\aj w w'
 | .ok l=>∃v,e=.returned (.tuple #[v,af 0])/\aF aV 44 3 w' w.heap.size v l/\aj w w'
theorem Gk (cols:List aW)(CA:Option Addr)(cc:Nat)(row:List Val)(RA:Option Addr)(rc:Nat)(ts:List Tr)(ys:List Ex)(A:Option Addr)(c:Nat)(w:World)(cf:cols.length<=140737488355328)(lS:row.length<=140737488355328)(hro:∀v∈row,v.Ok)
  (aZ:Tr.cL ts) (hat:Tr.aO w (Old w) ts ys) (hl:ys.length<=1599289640356) (hA:RE w w.heap.size A ys) (hC:RC w w.heap.size CA cols) (hV:RV w w.heap.size RA row):
  ar 34 #[.slice A ys.length c,.slice CA cols.length cc,.slice RA row.length rc] w (rF cols row ts w):=by
 obtain⟨l,ft,hl2,tT⟩:=Tr.Bg cols CA cc row RA rc cf lS hro ts ys w aZ hat hC hV;rcases qP l with h |⟨pre,bad,post,rfl,h1,h2⟩
 ·have hw:bB cols row ts=.ok (l.map λ a=>a.2.1):=by unfold bB;rw[<- hl2,Jd (λ a ha=>by obtain⟨b,hb,rfl⟩:=List.mem_map.1 ha;exact h b hb),if_neg Taa,map_map];rfl
  have e1:(l.map λ a=>(a.1,a.2.1)).map (·.1)=ys:=by rw[map_map,<- ft];rfl
  refine(PV A ys.length c (.slice CA cols.length cc) (.slice RA row.length rc) (l.map λ a=>(a.1,a.2.1)) w (by rw[<- e1];simp) hl (by rw[e1];exact hA) ?_).mono ?_
  ·intro a ha;obtain⟨b,hb,rfl⟩:=List.mem_map.1 ha;have:=tT b hb;rw[h b hb] at this;exact this
  ·rintro e w' ⟨v,h1,h2,h3⟩;unfold rF;rw[hw];refine⟨v,h1,?_,h3⟩;rw[map_map] at h2;exact h2
 ·have hw:bB cols row ts=.error bad.2.2:=by
   have:cM (Tr.iO cols row ts)=bad.2.2:=by rw[<- hl2,map_append,map_cons];exact F9 (λ a ha=>by obtain⟨b,hb,rfl⟩:=List.mem_map.1 ha;exact h1 b hb) h2
   unfold bB;rw[this,if_pos h2]
  have e1:((pre.map λ a=>(a.1,a.2.1)).map (·.1))++bad.1::post.map (·.1)=ys:=by rw[map_map,<- ft,map_append,map_cons];rfl
  refine(PU A ys.length c (.slice CA cols.length cc) (.slice RA row.length rc) (pre.map λ a=>(a.1,a.2.1)) bad.1 bad.2.1 bad.2.2 (post.map (·.1)) w ?_ hl (by rw[e1];exact hA) ?_ ?_ h2).mono ?_
  ·rw[<- ft];simp;omega
  ·intro a ha;obtain⟨b,hb,rfl⟩:=List.mem_map.1 ha;have:=tT b (mem_append_left _ hb);rw[h1 b hb] at this;exact this
  ·exact tT bad (mem_append_right _ (mem_cons_self ..))
  ·rintro e w' ⟨h1,h3⟩;unfold rF;rw[hw];exact⟨h2,h1,h3⟩
theorem dW:∀ {ts:List Tr} {ys:List Ex},Tr.aO w S ts ys->ts.length=ys.length
 | [],ys,h=>by unfold Tr.aO at h;rw[h];rfl
 | t::ts,ys,h=>by unfold Tr.aO at h;obtain⟨y,ys',rfl,_,h2⟩:=h;rw[length_cons,length_cons,dW h2]
theorem wh:∀(ts:List Tr) (ys:List Ex),Tr.aO w (Old w) ts ys->∃l:List tI,l.length=ys.length/\(∀(i:Nat) y x,ys[i]?=some y->l[i]?=some x->y.A=x.A/\y.n=x.ys.length/\y.c=x.c/\RE w w.heap.size x.A x.ys)/\Tr.aO w (Old w) (ts.flatMap Tr.args) (l.flatMap tI.ys)/\ys.map Ex.n=ts.map λ t=>t.args.length
 | [],ys,h=>by unfold Tr.aO at h;subst h;exact⟨[],rfl,λ i y x h=>by simp at h,by simp[Tr.aO],rfl⟩
 | t::ts,ys,h=>by
   unfold Tr.aO at h;obtain⟨y,ys',rfl,h1,h2⟩:=h;obtain⟨l,l1,l2,l3,l4⟩:=wh ts ys' h2;obtain⟨op,v,name,width,args⟩:=t;unfold Tr.at_ at h1;obtain⟨_,_,_,_,hn,zs,hz1,hz2⟩:=h1;have hzl:zs.length=args.length:=(dW hz2).symm;refine⟨⟨y.A,y.c,zs⟩::l,by simp[l1],?_,?_,?_⟩
   ·intro i y' x hy hx;cases i with
    | zero=>
      simp at hy hx;subst hy hx;refine⟨rfl,by rw[hn];exact hzl.symm,rfl,?_⟩;rcases hz1 with h |⟨b,off,e1,e2,e3⟩
      ·exact .inl h
      ·exact .inr ⟨b,off,e1,e2,e3⟩
    | succ i=>exact l2 i y' x (by simpa using hy) (by simpa using hx)
   ·rw[flatMap_cons,flatMap_cons];exact Tr.all_append hz2 l3
   ·rw[map_cons,map_cons,l4,hn];rfl
theorem Je:∀(ts:List Tr) (l:List Val),(∀t∈ts,t.args.length<=2)->(ts.map λ t=>t.args.length).sum<=l.length->mg (ts.map λ t=>t.args.length) l=gS ts l
 | [],l,_,_=>rfl
 | t::ts,l,h,hl=>by
   rw[map_cons] at hl ⊢;rw[sum_cons] at hl;unfold mg gS;rw[Je ts (l.drop t.args.length) (λ u hu=>h u (mem_cons_of_mem _ hu)) (by rw[length_drop];omega)];congr 1;have h2:=h t (mem_cons_self ..);generalize t.args.length=n at*;unfold kW
   match n,h2 with
   | 0,_=>simp
   | 1,_=>
     match l,hl with
     | [],hl=>simp at hl
     | a::l,_=>simp
   | 2,_=>
     match l,hl with
     | [],hl=>simp at hl
     | [a],hl=>simp at hl;omega
     | a::b::l,_=>simp
theorem Cy{l:List α}  {a:α}(h:l[i]?=some a):l.set i a=l:=by
 apply ext_getElem?;intro j;rw[getElem?_set];split
 ·subst_vars;split
  ·exact h.symm
  ·rename_i hn;rw[getElem?_eq_none WC]
 ·rfl
variable{t':TypeId}{cs':Array Value}
theorem ahO{g:Nat}  (h:aB w g t cs)(h':aB w g t' cs'):t=t':=by have e1:w.heap[g]?=some (.cells cs t (0,0)):=h;have e2:w.heap[g]?=some (.cells cs' t' (0,0)):=h';rw[e1] at e2;injection e2 with e2;injection e2
theorem Cz:∀l:List Nat,Mc l=l.sum
 | []=>rfl
 | n::l=>by unfold Mc;rw[Cz l,sum_cons]
theorem CB:∀(ts:List Tr) (l:List Val),(gS ts l).length=ts.length
 | [],_=>rfl
 | t::ts,l=>by unfold gS;simp[CB ts]
structure gH where
 g:Nat
 KA:Option Addr
 kc:Nat
 key:List Val
 sv:Value
 qs:List Nat
 ss:List St
structure bL (w:World) (A:Option Addr) (l:List Val):Prop where
 rv:RV w w.heap.size A l
 ty:∀a,A=some a->∃cur,aB w a.block 44 cur
theorem bL.keep{A:Option Addr} (h:bL w A l)(hs:w.heap.size<=w'.heap.size)(hk:∀b cur,aB w b 44 cur->w'.heap[b]?=w.heap[b]?):bL w' A l:=by
 refine⟨?_,λ a ha=>?_⟩
 ·rcases h.rv with h0 |⟨b,off,rfl,hb,hc⟩
  ·exact .inl h0
  ·obtain⟨cur,xT⟩:=h.ty _ rfl;refine .inr ⟨b,off,rfl,Nat.lt_of_lt_of_le hb hs,λ i x hx=>(hc i x hx).keep λ o=>bH (hk b cur xT) o⟩
 ·obtain⟨cur,xT⟩:=h.ty a ha;exact⟨cur,(hk _ cur xT).trans xT⟩
theorem bL.off{A:Option Addr}  {qs:List Nat} {ss:List St}(h:bL w A l)(hs:dF w B qs ss):∀a,A=some a->a.block∉qs:=λ a ha=>by obtain⟨cur,xT⟩:=h.ty a ha;exact hs.tJ xT Taa
theorem Jf(h:aF aV 44 3 w base v l):∃A c,v=.slice A l.length c/\l.length<=c/\bL w A l:=by
 obtain⟨A0,c0,e0,_,hle,_⟩:=h.reads;obtain⟨A,c,rfl,hr⟩:=Hp h;injection e0 with e1 e2 e3;refine⟨A,c,rfl,by rw[e3];exact hle,hr,λ a ha=>?_⟩;have qM:(Value.slice A l.length c).ownBlock=some a.block:=by rw[fD,ha];rfl
 obtain⟨_,_,cur,hc⟩:=h.lt qM;exact⟨cur,hc⟩
structure gH.At (w:World) (B:Nat) (x:gH):Prop where
 blk:aB w x.g 141 #[.slice x.KA x.key.length x.kc,x.sv]
 low:B<=x.g
 own:aF cZ 145 1 w B x.sv x.qs
 qB:dF w B x.qs x.ss
 key:bL w x.KA x.key
variable{x:gH}
theorem gH.At.keep(h:x.At w B)(hs:w.heap.size<=w'.heap.size)(hk:∀b t cs,aB w b t cs->(t=141\/t=145\/t=44\/t=199/\b∈x.qs)->w'.heap[b]?=w.heap[b]?):x.At w' B:=by
 refine⟨(hk _ _ _ h.blk (.inl rfl)).trans h.blk,h.low,h.own.keep λ g hg=>?_,h.qB.keep hs λ q hq=>?_,h.key.keep hs λ b cur hb=>hk b _ cur hb (.inr (.inr (.inl rfl)))⟩
 ·obtain⟨_,_,cur,hc⟩:=h.own.lt hg;exact hk g _ cur hc (.inr (.inl rfl))
 ·obtain⟨i,hi,he⟩:=getElem_of_mem hq;have h1:=h.qB.at_ i q (x.ss[i]'(by rw[<- h.qB.len];exact hi)) Tay (getElem?_eq_getElem _);exact hk q _ _ h1 (.inr (.inr (.inr ⟨rfl,hq⟩)))
structure kt (w:World) (B:Nat) (xs:List gH):Prop where
 at_:∀x∈xs,x.At w B
 apart:(xs.map gH.qs).Pairwise λ a b=>∀q∈a,q∉b
theorem kt.nil:kt w B []:=⟨λ x h=> Tad,List.Pairwise.nil⟩
variable{xs:List gH}
theorem kt.later(h:kt w B xs)(hb:aj w w'):kt w' B xs:=
 ⟨λ x hx=>(h.at_ x hx).keep hb.size λ b t cs hc _=>hb.block b hc.lt,h.apart⟩
theorem kt.grown{g:Nat}   (h:kt w B xs)(hg:w.grownBy w' (some g))(hc:aB w g t cs)(h1:t≠141)(h2:t≠145)(h3:t≠44)(h4:t≠199):kt w' B xs:=
 ⟨λ x hx=>(h.at_ x hx).keep hg.size λ b t' cs' hc' ho=>hg.block b hc'.lt λ e=>by
   injection e with e
   rw[e] at hc'
   have e2:=ahO hc hc'
   rw[<- e2] at ho
   rcases ho with ho | ho | ho |⟨ho,_⟩
   ·exact h1 ho
   ·exact h2 ho
   ·exact h3 ho
   ·exact h4 ho,h.apart⟩
theorem kt.own{size:Nat}  {l:List α}   (h:kt w B xs)(ho:aF f e size w base v l)(hg:w.grownBy w' v.ownBlock)(h1:e≠141)(h2:e≠145)(h3:e≠44)(h4:e≠199):kt w' B xs:=by
 cases hv:v.ownBlock with
 | none=>rw[hv] at hg;exact h.later (py hg)
 | some g=>rw[hv] at hg;obtain⟨_,_,cur,hc⟩:=ho.lt hv;exact h.grown hg hc h1 h2 h3 h4
theorem kt.feed{k:Nat}   {ss:List St}(h:kt w B xs)(hx:xs[k]?=some x)(ht:pz w w' x.qs)(hs:dF w' B x.qs ss):kt w' B (xs.set k { x with ss:=ss }):=by
 have hk:k < xs.length:=by
  rcases Nat.lt_or_ge k xs.length with h | h
  ·exact h
  ·rw[getElem?_eq_none h] at hx;cases hx
 have G0:xs[k]=x:=by rw[getElem?_eq_getElem hk] at hx;injection hx
 have PW:=mem_of_getElem? hx
 have hap:(xs.set k { x with ss:=ss }).map gH.qs=xs.map gH.qs:=by
  rw[map_set];have:(xs.map gH.qs)[k]?=some x.qs:=by rw[getElem?_map,hx];rfl
  exact Cy this
 refine⟨λ y hy=>?_,by rw[hap];exact h.apart⟩;obtain⟨i,hi,he⟩:=getElem_of_mem hy;have Gl:i < xs.length:=by simpa using hi
 rw[getElem_set] at he;by_cases hik:k=i
 ·rw[if_pos hik] at he;subst he;have hA:=h.at_ x PW;have hb:∀b t cs,aB w b t cs->t≠199->w'.heap[b]?=w.heap[b]?:=λ b t cs hc hn=>ht.block b hc.lt (hA.qB.tJ hc hn)
  refine⟨(hb _ _ _ hA.blk Taa).trans hA.blk,hA.low,hA.own.keep λ g hg=>?_,hs,hA.key.keep ht.size λ b cur hc=>hb b _ cur hc Taa⟩;obtain⟨_,_,cur,hc⟩:=hA.own.lt hg;exact hb g _ cur hc Taa
 ·rw[if_neg hik] at he;subst he;have hA:=h.at_ xs[i] (getElem_mem Gl);refine hA.keep ht.size λ b t cs hc ho=>ht.block b hc.lt λ hm=>?_
  rcases ho with ho | ho | ho |⟨ho,hm2⟩
  ·exact Zgb
  ·exact Zgb
  ·exact Zgb
  ·have hp:=h.apart;rw[pairwise_iff_getElem] at hp;rcases Nat.lt_or_gt_of_ne hik with h1 | h1
   ·have:=hp k i Ta4 (by simpa using Gl) h1;simp only[getElem_map,G0] at this;exact this b hm hm2
   ·have:=hp i k (by simpa using Gl) Ta4 h1;simp only[getElem_map,G0] at this;exact this b hm2 hm
theorem kt.insert{k:Nat}  (h:kt w B xs)(hx:x.At w B)(hn:∀y∈xs,∀q∈y.qs,q∉x.qs):kt w B (xs.take k++x::xs.drop k):=by
 have hp:(xs.take k++x::xs.drop k).Perm (x::xs):=by have:=perm_middle (a:=x) (l₁:=xs.take k) (l₂:=xs.drop k);rwa [take_append_drop] at this
 refine⟨λ y hy=>?_,?_⟩
 ·rcases List.mem_cons.1 (hp.mem_iff.1 hy)with rfl | h1
  ·exact hx
  ·exact h.at_ y h1
 ·refine((hp.map gH.qs).pairwise_iff (λ {a b} hab q hq lf=>hab q lf hq)).2 ?_;rw[map_cons,pairwise_cons];refine⟨λ b hb q hq=>?_,h.apart⟩;obtain⟨y,hy,rfl⟩:=List.mem_map.1 hb;exact λ hm=>hn y hy q hm hq
end Go.Proofs.YtndgjggokjickaaGreatDoor
