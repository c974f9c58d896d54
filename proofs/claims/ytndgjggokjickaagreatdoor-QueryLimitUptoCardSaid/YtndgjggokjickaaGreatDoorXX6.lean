/- Parts of the proof. -/
import Derived.Lib.AppendZerosOnto
import Derived.Lib.Overlaps
import Derived.Test.YtndgjggokjickaaGreatDoorXX5
namespace Go.Proofs.YtndgjggokjickaaGreatDoor.R
variable{p:Prop}
set_option maxHeartbeats 90000000
set_option maxRecDepth 100000
open Go.ChangeShapes Go.WideShapes Go.ChangeAt Go.RowKit List
set_option linter.unusedVariables false
set_option linter.unusedSimpArgs false
structure ItC (ρ:dr) (w:World) (xs:List (Tr×ByteArray)) (r:dG) (k:Nat) (wr:World) (A:Option Addr) (n c:Nat) (acc ys:List (Tr×ByteArray)) (l:dG):Prop where
 at_:PuA ry 48 ρ w wr l 0 (.slice A n c) acc [.slice A n c,au,.bool false,az,az,az,az,az] {} {}
 more:SJ l ys r
 aO:acc++ys=xs
 len:n=acc.length
 le:ys.length<=k
theorem aeX (s:ByteArray)(l:dG)(ρ:dr)(w:World)(h:ρ.at w (.good l) false):ar 87 #[ρ.ptr,.string s] w λ e w'=>∃b,b=dH s.data.toList l/\e=.returned (.bool b)/\eE ρ w w' (.good (if b=true then l.tail else l)) false:=by
 cases hb:dH s.data.toList l with
 | false=>exact(cq ρ w _ false h s hb).mono λ e w' ⟨h1,h2⟩=>⟨false,rfl,h1,h2⟩
 | true=>exact(nV ρ w _ false h s hb).mono λ e w' ⟨h1,h2⟩=>⟨true,rfl,h1,h2⟩
variable{s:ByteArray}{l r:dG}{W:List Tr}
theorem C6(h:acg s.data.toList l W r)(ρ:dr)(w:World)(hat:ρ.at w (.good l) false):ar 142 #[ρ.ptr,.string s] w (SlW ρ w W r):=by
 cases h with
 | none h=>exact FO h ρ w hat
 | some h H=>exact Pv h H ρ w hat
variable{k0 kf nm:Wd}{l1 l2 l3 l4:dG}{xs:List (Tr×ByteArray)}{cD group:List Tr}{order:List (Tr×Bool)}{lim:List Int}
theorem zhO.Kb8(h:p:=by
 have HP:=LO HS.ae.res { items:=En,bT:=bT,cD:=⟨FQ,FT,FU⟩,group:=sg,having:=⟨LQ,LR,LS⟩,order:=so,dv:=Sl.nil };have HR:=dw HP;unfold zR nL at HR;obtain⟨r0,r1,r2,r3,r4,r5,r6,r7⟩:=HR;refine bodyPost_ret (v:=quV { items:=En,bT:=bT,cD:=⟨FQ,FT,FU⟩,group:=sg,having:=⟨LQ,LR,LS⟩,order:=so,dv:=Sl.nil }) Zhn rfl ?_
 ·refine⟨{ items:=En,bT:=bT,cD:=⟨FQ,FT,FU⟩,group:=sg,having:=⟨LQ,LR,LS⟩,order:=so,dv:=Sl.nil },rfl,?_,HS.ae.did.zR ee (Nat.le_refl _) { items:=En,bT:=bT,cD:=⟨FQ,FT,FU⟩,group:=sg,having:=⟨LQ,LR,LS⟩,order:=so,dv:=Sl.nil }⟩;rw[ox.ae,<- KK.ae];exact Qu.at_.keep (iY WC) (HS.ae.at_.zR WC { items:=En,bT:=bT,cD:=⟨FQ,FT,FU⟩,group:=sg,having:=⟨LQ,LR,LS⟩,order:=so,dv:=Sl.nil })):p:=h
theorem zhP.Kb8(h:p:=by
 have HP:=LO HS.ae.res { items:=En,bT:=bT,cD:=⟨FQ,FT,FU⟩,group:=sg,having:=⟨LQ,LR,LS⟩,order:=so,dv:=⟨some ⟨UW.heap.size,0,none⟩,1,1⟩};have HR:=dw HP;unfold zR nL at HR;obtain⟨r0,r1,r2,r3,r4,r5,r6,r7⟩:=HR;refine bodyPost_ret (v:=quV { items:=En,bT:=bT,cD:=⟨FQ,FT,FU⟩,group:=sg,having:=⟨LQ,LR,LS⟩,order:=so,dv:=⟨some ⟨UW.heap.size,0,none⟩,1,1⟩}) Zhn rfl ?_
 ·refine⟨{ items:=En,bT:=bT,cD:=⟨FQ,FT,FU⟩,group:=sg,having:=⟨LQ,LR,LS⟩,order:=so,dv:=⟨some ⟨UW.heap.size,0,none⟩,1,1⟩},rfl,?_,HS.ae.did.zR ee (Nat.le_refl _) { items:=En,bT:=bT,cD:=⟨FQ,FT,FU⟩,group:=sg,having:=⟨LQ,LR,LS⟩,order:=so,dv:=⟨some ⟨UW.heap.size,0,none⟩,1,1⟩}⟩;rw[ox.ae,<- KK.ae,<- hk.ae];exact Qu.at_.keep (iY WC) (HS.ae.at_.zR WC { items:=En,bT:=bT,cD:=⟨FQ,FT,FU⟩,group:=sg,having:=⟨LQ,LR,LS⟩,order:=so,dv:=⟨some ⟨UW.heap.size,0,none⟩,1,1⟩})):p:=h
theorem zcO.Kax(h:p:=by
 have HI0:=aa (Cf ha0 H0);have HM0:=aa Np;clear hF ih hit q1 q2 q3 q4 q5 Av Tp B3 hz Nk ha0 H0 Np;have hb2:=ai.then (ai.then (ah w quZ) (ah _ quZ)) (ah _ (.cells (bL [fl]) 9));have h0:=h.later hb2;have HQ:=aa (((aB.new w 27 #[az,au,.bool false,az,az,az,az,az]).alloc quZ).alloc (.cells (bL [fl]) 9));have hL0:=aB.new (w.alloc quZ) 27 #[az,au,.bool false,az,az,az,az,az];rw[World.size_alloc] at hL0;have HL:=aa (hL0.alloc (.cells (bL [fl]) 9));have hS0:=aB.new ((w.alloc quZ).alloc quZ) 9 (bL [fl]);rw[World.size_alloc,World.size_alloc] at hS0;clear hL0;unfold quZ at*;go_enter Tryz.func134,Tryz.ntmps134;go_wp2_with fail;refine(ml HF.ae ρ _ h0 (w.heap.size+2) hS0 WC).mono ?_;rintro e w1 ⟨rfl,d1⟩;have HA:=aa (show PuA ry 48 ρ w w1 l 0 (az) [] [az,au,.bool false,az,az,az,az,az] {} {} from⟨kr.nil ry _ w1 _,(eE.cW h hb2).trans d1,HL.ae.grown d1.grown Tac,HQ.ae.grown d1.grown Tac,Qu.B7 _ _,rfl⟩);clear HL HQ hS0 h0 d1 hb2;go_wp2_with fail;refine(cq ρ w1 _ _ HA.ae.did.at_ ⟨#[42]⟩ IH.ae).mono ?_;rintro e w3 ⟨rfl,d3⟩;have PA:=aa (HA.ae.Em ee d3);clear d3 HA;go_wp2_with fail;refine Pz (E:=ry) (val:=itV) (T:=48) (q:=3) (d0:=10) (d1:=11) (d2:=12) (d3:=13) (d4:=14) (d5:=15) (d6:=16) (F:=178) 22 22 PA.ae ee Tad WC (λ w' hw=>HI0.ae ρ w' hw) Taa Taa Taa Taa rfl rfl ?_ ?_ ?_ ?_ ?_ ?_ ?_ Tryz.underlying22 FP rfl Tab (λ _=>rfl) (by intro y u hu;replace hu:u∈SF y:=hu;simp[SF,bH] at hu;rcases hu with rfl | rfl | rfl | rfl | rfl | rfl | rfl | rfl <;> rfl) ?_
 ·exact Zb7
 ·exact Zb7
 ·exact Zdy
 ·exact Zb7
 ·exact ZeB
 ·exact ZfU
 ·exact ZfS
 intro y s v' W A4 cf hxf;obtain⟨⟨A,n,c⟩,Kx,Nt,_⟩:=A4.row.sl (B':=w.heap.size) WC;replace Kx:v'=.slice A n c:=Kx;replace Nt:n=1:=Nt;subst Kx;have HI:=aa (show ItC ρ w ((x0,ByteArray.empty)::ys0) (kf::nm::l1) ys0.length (W.setCell ⟨w.heap.size+1,0,none⟩ (.slice A n c)) A n c [(x0,ByteArray.empty)] ys0 (c0::l0)from⟨A4,HM0.ae,rfl,Nt,Nat.le_refl _⟩);clear A4 Nt HM0 HI0 PA;simp only[Act.put,Uac];go_wp2_with fail;clear hxf cf;generalize W.setCell ⟨w.heap.size+1,0,none⟩ (.slice A n c)=W4 at*;generalize hXS:(x0,ByteArray.empty)::ys0=xs at*;have ox:=aa hXS;clear hXS;generalize ys0.length=kk at*;generalize [(x0,ByteArray.empty)]=aAi at*;generalize c0::l0=lc at*;go_loopg [] kk (λ k wr=>∃A n c acc ys l',ItC ρ w xs (kf::nm::l1) k wr A n c acc ys l');case atStart=>exact⟨_,_,_,_,_,_,HI.ae⟩
 case round=>
  obtain⟨A2,n2,c2,acc,ys,l',hE⟩:=hrel;have hlen:acc.length<=64:=by have:=Q1.ae;rw[<- hE.aO,length_append] at this;omega
  have x0:=hE.at_.blk.cell 0;simp only[Uaa] at x0;have SL:=hE.at_.blk.lt;have HN:=aa hE.len;have HE:=aa hE;have Uy:=aa hlen;clear hE HI hlen;go_wp2_with fail;rcases HE.ae.more with ⟨hc⟩|⟨hc,hit⟩
  ·refine(Calls.mono (P:=Tryz.prog) (by rw[HN.ae];exact IL hc acc.length Uy.ae ρ wr HE.ae.at_.did.at_) ?_);rintro e w8 ⟨rfl,d8⟩;have hA:=HE.ae.at_.Em ee d8;obtain⟨En,amH,hn8,LP⟩:=hA.row.sl (B':=w.heap.size+2) (Nat.le_refl _);clear hn8;have hax:acc=xs:=by have:=HE.ae.aO;rwa [append_nil] at this
   have UH:=aa (hA.done (m':= { items:=En }) (d':= { items:=xs }) (by rw[amH];rfl) { Qu.B7 w8 _ with items:=hax▸LP });clear LP amH hA d8 hax hc;have Xn:=UH.ae.blk.lt;have bf:=ah w8 (.cells (bL [xD]) 9);have HQF:=aa (UH.ae.later bf);clear HE UH;go_wp2_with fail;refine(ml HFN.ae ρ _ HQF.ae.did.at_ w8.heap.size (aB.new _ _ _) WC).mono ?_;rintro e w4 ⟨rfl,d4⟩;have yV:=aa (HQF.ae.Em ee d4);clear HQF d4 bf;go_wp2_with fail;refine(cq ρ _ _ _ yV.ae.did.at_ ⟨#[111,110,108,121]⟩ Q3.ae).mono ?_;rintro e w5 ⟨rfl,d5⟩;have hQ3:=yV.ae.Em ee d5;have C5:=aa (hQ3.set (m':= { items:=En }) (d':= { items:=xs }) ee 2 (.bool false) rfl hQ3.at_);have hf2:=hQ3.blk.frozen 2;have hc2:=hQ3.blk.cell 2;clear hQ3 d5 yV;go_wp2_with fail;clear hf2 hc2;generalize w5.setCell ⟨w.heap.size+1,2,none⟩ (.bool false)=W6 at*;refine(Cb Q4.ae Q5.ae ρ _ C5.ae.did.at_).mono ?_;rintro e w6 ⟨bT,amJ,rfl,d6⟩;have KK:=aa amJ;clear amJ;have hQ5:=C5.ae.Em ee d6;have zP:=aa (hQ5.set (m':= { items:=En,bT:=bT }) (d':= { items:=xs,bT:=bT }) ee 1 (.string bT) rfl { hQ5.at_ with bT:=rfl });have hf1:=hQ5.blk.frozen 1;have hc1:=hQ5.blk.cell 1;clear hQ5 d6 C5;go_wp2_with fail;clear hf1 hc1;generalize w6.setCell ⟨w.heap.size+1,1,none⟩ (.string bT)=W7 at*;refine(C6 (s:=⟨#[119,104,101,114,101]⟩) oz.ae ρ _ zP.ae.did.at_).mono ?_;rintro e w7 ⟨⟨FQ,FT,FU⟩,rfl,hsw,d7⟩;have hs7:=zP.ae.did.size;have hq7:=zP.ae.blk.lt;have hQ7:=zP.ae.Em ee d7;have IE:=aa (hQ7.set (m':= { items:=En,bT:=bT,cD:=⟨FQ,FT,FU⟩}) (d':= { items:=xs,bT:=bT,cD:=cD }) ee 3 (.slice FQ FT FU) rfl { hQ7.at_ with cD:=El.lies.more hsw WC})
   have hf3:=hQ7.blk.frozen 3;have hc3:=hQ7.blk.cell 3;clear hQ7 d7 hsw zP;unfold nL at*;go_upto_if 42 with fail;clear hf3 hc3;generalize w7.setCell ⟨w.heap.size+1,3,none⟩ (.slice FQ FT FU)=W8 at*;refine(aeX ⟨#[103,114,111,117,112]⟩ l2 ρ _ IE.ae.did.at_).mono ?_;rintro e w8 ⟨bg,hbg,rfl,d8⟩;have HBG:=aa hbg;have SC:=aa d8;clear hbg d8;go_upto_if 42 with fail;go_cut [] (λ wx=>∃sg,Xq ρ w wx l3 { items:=En,bT:=bT,cD:=⟨FQ,FT,FU⟩,group:=sg } { items:=xs,bT:=bT,cD:=cD,group:=group })
   case first=>
    rcases E1.ae with ⟨hg⟩|⟨hk,hb,hc,H⟩
    ·obtain rfl:bg=false:=HBG.ae.trans hg;have HQ9:=aa (IE.ae.Em ee SC.ae);clear SC hg IE;go_wp2_with fail;go_meet;exact⟨_,HQ9.ae⟩
    ·obtain rfl:bg=true:=HBG.ae.trans hk;have d8:=SC.ae;replace hb:=aa hb;replace hc:=aa hc;have HQ9:=aa ((IE.ae.Em ee d8).later (ah w8 (.cells (bL [OO]) 9)));have hw8:=d8.size;have hs8:=IE.ae.did.size;clear d8 SC hk IE;go_wp2_with fail;refine(ml hb.ae ρ _ HQ9.ae.did.at_ w8.heap.size (aB.new _ _ _) WC).mono ?_;rintro e w9 ⟨rfl,d9⟩;have xO:=aa (HQ9.ae.Em ee d9);clear d9 HQ9;go_wp2_with fail;refine(UZ hc.ae H ρ _ xO.ae.did.at_).mono ?_;rintro e yX ⟨⟨sgA,Fg,sgc⟩,rfl,hsg,d10⟩;have IG:=xO.ae.blk.lt;have Cg:=xO.ae.Em ee d10;have IM:=aa (Cg.set (m':= { items:=En,bT:=bT,cD:=⟨FQ,FT,FU⟩,group:=⟨sgA,Fg,sgc⟩}) (d':= { items:=xs,bT:=bT,cD:=cD,group:=[_] }) ee 4 (.slice sgA Fg sgc) rfl { Cg.at_ with group:=El.lies.more hsg WC});have hf4:=Cg.blk.frozen 4;have hc4:=Cg.blk.cell 4;clear Cg d10 hsg xO;unfold nL;go_wp2_with fail;go_meet;exact⟨_,IM.ae⟩
   case rest=>
    obtain⟨sg,hQ⟩:=hcut;have HQ9:=aa hQ;clear hQ IE SC;go_wp2_with fail;refine(FO (s:=⟨#[104,97,118,105,110,103]⟩) Ai.ae ρ _ HQ9.ae.did.at_).mono ?_;rintro e w11 ⟨⟨LQ,LR,LS⟩,rfl,hsh,d11⟩;have aAj:=HQ9.ae.blk.lt;have Cg:=HQ9.ae.Em ee d11;have IM:=aa (Cg.set (m':= { items:=En,bT:=bT,cD:=⟨FQ,FT,FU⟩,group:=sg,having:=⟨LQ,LR,LS⟩}) (d':= { items:=xs,bT:=bT,cD:=cD,group:=group }) ee 5 (.slice LQ LR LS) rfl { Cg.at_ with having:=El.lies.more hsh WC});have hf5:=Cg.blk.frozen 5;have hc5:=Cg.blk.cell 5;clear Cg d11 hsh HQ9;unfold nL;go_upto_if 53 with fail;clear hf5 hc5;generalize w11.setCell ⟨w.heap.size+1,5,none⟩ (.slice LQ LR LS)=W12 at*;refine(aeX ⟨#[111,114,100,101,114]⟩ l3 ρ _ IM.ae.did.at_).mono ?_;rintro e w12 ⟨bo,Ch,rfl,d12⟩;have HBO:=aa Ch;have C7:=aa d12;clear Ch d12;go_upto_if 53 with fail;go_cut [] (λ wx=>∃so,Xq ρ w wx l4 { items:=En,bT:=bT,cD:=⟨FQ,FT,FU⟩,group:=sg,having:=⟨LQ,LR,LS⟩,order:=so } { items:=xs,bT:=bT,cD:=cD,group:=group,order:=order })
    case first=>
     rcases GI.ae with ⟨hg⟩|⟨hk,hb,hd,hc,H⟩
     ·obtain rfl:bo=false:=HBO.ae.trans hg;have zS:=aa (IM.ae.Em ee C7.ae);clear C7 hg IM;go_wp2_with fail;go_meet;exact⟨_,zS.ae⟩
     ·obtain rfl:bo=true:=HBO.ae.trans hk;have d12:=C7.ae;replace hb:=aa hb;replace hc:=aa hc;have HOD:=aa (Pw hd H);have zS:=aa ((IM.ae.Em ee d12).later (ah w12 (.cells (bL [OO]) 9)));have aAm:=IM.ae.did.size;have aAn:=d12.size;clear d12 C7 hk hd H IM;go_wp2_with fail;refine(ml hb.ae ρ _ zS.ae.did.at_ w12.heap.size (aB.new _ _ _) WC).mono ?_;rintro e SE ⟨rfl,d13⟩;have C8:=zS.ae.Em ee d13;have HP:=aa (show PuA sH 117 ρ w SE _ 6 (az) [] _ { items:=En,bT:=bT,cD:=⟨FQ,FT,FU⟩,group:=sg,having:=⟨LQ,LR,LS⟩} { items:=xs,bT:=bT,cD:=cD,group:=group } from⟨kr.nil sH _ SE _,C8.did,C8.blk,C8.res,Qu.at_.keep (λ b hb=>⟨λ _=>rfl,hb.1,hb.2,by simp[Value.ownBlock]⟩) C8.at_,rfl⟩);clear C8 d13 zS;go_wp2_with fail;refine Pz (E:=sH) (val:=orV) (T:=117) (q:=3) (d0:=57) (d1:=58) (d2:=59) (d3:=60) (d4:=61) (d5:=62) (d6:=63) (F:=180) 24 24 HP.ae ee Tad WC (λ w' hw=>HOD.ae ρ w' hw) Taa Taa Taa Taa rfl rfl ?_ ?_ ?_ ?_ ?_ ?_ ?_ Tryz.underlying24 Py rfl Tab (λ _=>rfl) (by intro y u hu;replace hu:u∈C2 y:=hu;simp[C2,bH] at hu;rcases hu with rfl | rfl | rfl | rfl | rfl | rfl | rfl | rfl <;> rfl) ?_
      ·exact Zb7
      ·exact Zb7
      ·exact Zdy
      ·exact Zb7
      ·exact ZeB
      ·intro ρ' w' y' h';show _=Result.ok _ (w'.alloc (.cells (C2 y').toArray _));simp[go_sem,h',orV,C2,bH]
      ·exact ZfS
      intro y s v' W A4 cf hxf;obtain⟨⟨A,n,c⟩,Kx,Nt,LP⟩:=A4.row.sl (B':=w.heap.size+2) (Nat.le_refl _);replace Kx:v'=.slice A n c:=Kx;replace Nt:n=1:=Nt;subst Kx Nt;have ach:=aa (A4.done (m':= { items:=En,bT:=bT,cD:=⟨FQ,FT,FU⟩,group:=sg,having:=⟨LQ,LR,LS⟩,order:=⟨A,1,c⟩}) (d':= { items:=xs,bT:=bT,cD:=cD,group:=group,order:=[_] }) rfl { Qu.at_.keep (LK (Nat.le_refl _)) A4.at_ with order:=LP });clear A4 LP HP HOD;simp only[Act.put,Uac];go_wp2_with fail;clear hxf cf;generalize atr:W.setCell ⟨w.heap.size+1,6,none⟩ (.slice A 1 c)=W16 at*;clear atr;go_loopg [] 0 (λ k wr=>wr=W16);case atStart=>exact rfl
      case round=>subst hrel;have x6:=ach.ae.blk.cell 6;unfold LF nL at x6;simp only[Uaa] at x6;go_wp2_with fail;refine(IL hc.ae 1 WC ρ _ ach.ae.did.at_).mono ?_;rintro e w17 ⟨rfl,d17⟩;have att:=aa (ach.ae.Em ee d17);clear d17 ach;go_wp2_with fail;go_meet;exact⟨_,att.ae⟩
    case rest=>
     obtain⟨so,hQ⟩:=hcut;have zS:=aa hQ;clear hQ IM C7;go_wp2_with fail;rcases F7.ae with ⟨hg⟩|⟨hk,hn⟩
     ·refine(cq ρ _ _ _ zS.ae.did.at_ ⟨#[108,105,109,105,116]⟩ hg).mono ?_;rintro e UW ⟨rfl,d14⟩;have HS:=aa (zS.ae.Em ee d14);clear d14 hg zS;open zhO in exact ZfX
     ·refine(nV ρ _ _ _ zS.ae.did.at_ ⟨#[108,105,109,105,116]⟩ hk).mono ?_;rintro e SE ⟨rfl,d13⟩;have aci:=aa (zS.ae.Em ee d13);replace hn:=aa hn;clear d13 hk zS;go_wp2_with fail;refine(Lv hn.ae ρ _ aci.ae.did.at_).mono ?_;rintro e UW ⟨k,hk,hk0,BO,rfl,d14⟩;replace hk:=aa hk;have b15:=ah UW (.cells #[af k] 2);have C9:=(aci.ae.Em ee d14).later b15;have amv:=(aci.ae.Em ee d14).blk.lt;have hf7:=C9.blk.frozen 7;have hc7:=C9.blk.cell 7;have HS:=aa (C9.set (m':= { items:=En,bT:=bT,cD:=⟨FQ,FT,FU⟩,group:=sg,having:=⟨LQ,LR,LS⟩,order:=so,dv:=⟨some ⟨UW.heap.size,0,none⟩,1,1⟩}) (d':= { items:=xs,bT:=bT,cD:=cD,group:=group,order:=order,dv:=[k] }) ee 7 (aH UW.heap.size 1 1) rfl { C9.at_ with dv:=acf (aB.new UW _ _) ⟨by omega,by simp⟩});clear C9 d14 b15 amv aci;open zhP in exact ZfX
  ·obtain⟨x9,ys9,c9,l9,rfl,H9,ha9,hm9⟩:=hit.first
   refine(Calls.mono (P:=Tryz.prog) (by rw[HN.ae];exact C4 hc acc.length Uy.ae ρ wr HE.ae.at_.did.at_) ?_);rintro e w8 ⟨rfl,d8⟩;have HI9:=aa (Cf ha9 H9);have HM9:=aa hm9;have HA8:=aa (HE.ae.at_.Em ee d8);clear d8 hc hit H9 ha9 hm9;go_wp2_with fail;refine Pz (E:=ry) (val:=itV) (T:=48) (q:=3) (d0:=22) (d1:=23) (d2:=24) (d3:=25) (d4:=26) (d5:=27) (d6:=28) (F:=178) 22 22 HA8.ae ee Uy.ae WC (λ w' hw=>HI9.ae ρ w' hw) Taa Taa Taa Taa rfl rfl ?_ ?_ ?_ ?_ ?_ ?_ ?_ Tryz.underlying22 FP rfl Tab (λ _=>rfl) (by intro y u hu;replace hu:u∈SF y:=hu;simp[SF,bH] at hu;rcases hu with rfl | rfl | rfl | rfl | rfl | rfl | rfl | rfl <;> rfl) ?_
   ·exact Zb7
   ·exact Zb7
   ·exact Zdy
   ·exact Zb7
   ·exact ZeB
   ·exact ZfU
   ·exact ZfS
   intro y s v' W A4 cf hxf;obtain⟨⟨A9,n9,c10⟩,Kx,Nt,_⟩:=A4.row.sl (B':=w.heap.size) WC;replace Kx:v'=.slice A9 n9 c10:=Kx;subst Kx;have HI9:=aa (show ItC ρ w xs (kf::nm::l1) ys9.length (W.setCell ⟨w.heap.size+1,0,none⟩ (.slice A9 n9 c10)) A9 n9 c10 (acc++ [(x9,ByteArray.empty)]) ys9 (c9::l9)from⟨A4,HM9.ae,by rw[append_assoc];exact HE.ae.aO,Nt,Nat.le_refl _⟩);clear A4 Nt;simp only[Act.put,Uac];go_wp2_with fail;go_roundg ys9.length;case measure=>have:=HE.ae.le;rw[length_cons] at this;omega
   case rel=>exact⟨_,_,_,_,_,_,HI9.ae⟩):p:=h
theorem Ax(hF:iQ fl k0=true)(ih:dH xE l=false)(hit:uy l xs (kf::nm::l1))(q1:xs.length<=64)(q2:iQ xD kf=true)(q3:iQ agO nm=false)(q4:nm.k=1)(q5:tz nm.s=false)(Av:acg Io l1 cD l2)(Tp:aho l2 group l3)(B3:dH Zi l3=false)(hz:ahp l3 order l4)(Nk:ahq l4 lim r)(ρ:dr)(w:World)(h:ρ.at w (.good (k0::l)) false):
  ar 134 #[ρ.ptr] w λ e w'=>∃y:xQ,e=.returned (quV y)/\Qu.at_ w' (jg w.heap.size w') { items:=xs,bT:=⟨nm.s.toArray⟩,cD:=cD,group:=group,order:=order,dv:=lim } y/\eE ρ w w' (.good r) false:=by
 have ee:=h.FK;obtain⟨x0,ys0,c0,l0,rfl,H0,ha0,Np⟩:=hit.first
 open zcO in exact Zbd
end Go.Proofs.YtndgjggokjickaaGreatDoor.R
namespace Go.Proofs.YtndgjggokjickaaGreatDoor
set_option maxHeartbeats 90000000
set_option maxRecDepth 100000
open Go.ChangeShapes Go.WideShapes Go.ChangeAt Go.RowKit List
set_option linter.unusedVariables false
set_option linter.unusedSimpArgs false
theorem uj (y:Ex):(bH y).length=7:=rfl
theorem PD (b o j:Nat):(Addr.add ⟨b,o,none⟩ j)=⟨b,o+j,none⟩:=by unfold Addr.add;split <;> simp_all
variable{α:Type}{f:α->List Value}
theorem Ci{size:Nat}(hf:∀x,(f x).length=size)(h0:0 < size):∀(l:List α) (j:Nat) (u:Value),(l.flatMap f)[j]?=some u->∃k r x,j=k*size+r/\r < size/\l[k]?=some x/\(f x)[r]?=some u
 | [],j,u,h=>by simp at h
 | y::l,j,u,h=>by
   rw[flatMap_cons] at h;by_cases hj:j < size
   ·rw[getElem?_append_left (by rw[hf];exact hj)] at h;exact⟨0,j,y,by omega,hj,rfl,h⟩
   ·rw[getElem?_append_right (by rw[hf];omega),hf] at h;obtain⟨k,r,x,h1,hr,h2,h3⟩:=Ci hf h0 l _ u h;exact⟨k+1,r,x,by rw[Nat.succ_mul];omega,hr,by simpa using h2,h3⟩
theorem aeY:∀ys:List Ex,(ys.flatMap bH).length=ys.length*7
 | []=>rfl
 | y::ys=>by rw[flatMap_cons,length_append,aeY ys,uj,length_cons];omega
variable{w:World}{b r:Nat}{x:Ex}{u:Value}
theorem acj{off:Nat}  (h:cw w b off x)(hr:r < 7)(hu:(bH x)[r]?=some u):w.cell? ⟨b,off+r,none⟩=some u:=by
 unfold cw at h;obtain⟨c0,c1,c2,c3,c4,c5,c6⟩:=h;unfold bH at hu
 match r,hr with
 | 0,_=>rw[<- hu];exact c0
 | 1,_=>rw[<- hu];exact c1
 | 2,_=>rw[<- hu];exact c2
 | 3,_=>rw[<- hu];exact c3
 | 4,_=>rw[<- hu];exact c4
 | 5,_=>rw[<- hu];exact c5
 | 6,_=>rw[<- hu];exact c6
variable{B:Nat}
theorem RE.reads{A:Option Addr} {ys:List Ex}(h:RE w B A ys):Reads w B 7 A ys.length (ys.flatMap bH):=by
 refine⟨aeY ys,λ hn=>?_⟩;rcases h with h |⟨b,off,hA,hb,hc⟩
 ·subst h;simp at hn
 ·refine⟨⟨b,off,none⟩,hA,hb,λ j u hu=>?_⟩;obtain⟨k,r,x,rfl,hr,h2,h3⟩:=Ci uj WC ys j u hu;rw[PD,<- Nat.add_assoc];exact acj (hc k x h2) hr h3
theorem PE:∀(ys:List Ex),∀u∈ys.flatMap bH,u.oneCell'=true:=by
 intro ys u hu;obtain⟨y,_,hu⟩:=List.mem_flatMap.1 hu;simp[bH] at hu;rcases hu with rfl | rfl | rfl | rfl | rfl | rfl | rfl <;> rfl
structure tP where
 A:Option Addr
 c:Nat
 ys:List Ex
def RL (w:World)(B:Nat)(P:Option Addr)(l:List tP):Prop:=∃b off,P=some ⟨b,off,none⟩/\b < B/\∀i x,l[i]?=some x->w.cell? ⟨b,off+i,none⟩=some (.slice x.A x.ys.length x.c)/\RE w B x.A x.ys
variable{w':World}{P:Option Addr}{l:List tP}
theorem RL.later(h:RL w w.heap.size P l)(hb:aj w w'):RL w' w'.heap.size P l:=by obtain⟨b,off,h1,h2,h3⟩:=h;exact⟨b,off,h1,Nat.lt_of_lt_of_le h2 hb.size,λ i x hx=>⟨(hb.cell (p:=⟨b,off+i,none⟩) h2).trans (h3 i x hx).1,(h3 i x hx).2.later hb⟩⟩
def lC (l:List tP):Nat:=(l.map λ x=>x.ys.length).sum
theorem FV (l:List tP)(x:tP):lC (l++ [x])=lC l+x.ys.length:=by simp[lC]
theorem FW (l:List tP)(k:Nat):lC (l.take k)<=lC l:=by
 have:lC l=lC (l.take k)+lC (l.drop k):=by unfold lC;rw[<- sum_append_nat,<- map_append,take_append_drop]
 omega
theorem uz (P:Option Addr)(c:Nat)(l:List tP)(w:World)(hn:l.length<=1000)(hl:lC l<=1000000)(Kx:RL w w.heap.size P l):
  ar 35 #[.slice P l.length c] w λ e w'=>∃v,e=.returned v/\aI bH 46 7 w' w.heap.size v (l.flatMap tP.ys)/\aj w w':=by
 have HR:=aa Kx;have zL:=aa hl;clear Kx hl;go_enter Tryz.func35,Tryz.ntmps35;go_wp2_with fail;go_loop [3,11] (λ s i=>∃k:Nat,k<=l.length/\i=af k/\s=af (lC (l.take k):Nat)) (λ _ i=>l.length - (intOf i).toNat);case atStart=>exact⟨0,Nat.zero_le _,rfl,rfl⟩
 case round=>
  obtain⟨k,hk,rfl,rfl⟩:=hrel;by_cases hlt:k < l.length
  ·obtain⟨b,off,rfl,hb,hc⟩:=id HR.ae;have hx:=(hc k l[k] (getElem?_eq_getElem hlt)).1;have oZ:=aa (show lC (l.take (k+1))=lC (l.take k)+l[k].ys.length by rw[take_add_one,getElem?_eq_getElem hlt];exact FV _ _);have h1:=FW l (k+1);have h2:=oZ.ae;have h3:=zL.ae;generalize l[k]=x at*;have h4:lC (l.take k)+x.ys.length<=1000000:=by omega
   generalize lC (l.take k)=s0 at*;have t1:decide ((s0:Int)+(x.ys.length:Int)< 0)=false:=decide_eq_false WC;clear hc h1 h2 h3;go_wp2_with fail;go_round;case rel=>exact⟨k+1,hlt,by go_num,by rw[oZ.ae];simp⟩
   case measure=>exact Za1
  ·have fH:k=l.length:=by omega
   subst fH;have lU:lC (l.take l.length)=lC l:=by rw[take_length]
   rw[lU];have hgr:=Ze (lC l) zL.ae w;have xS:=aa hgr;clear hgr lU hlt hk;go_wp2_with fail;refine xS.ae.mono ?_;rintro e w1 ⟨v1,rfl,hR,Wl⟩;have xT:=aa hR;have GK:=aa Wl;clear hR Wl xS;go_wp2_with fail;go_loopw [6,27] (λ v i wr=>∃k:Nat,k<=l.length/\i=af k/\aI bH 46 7 wr w.heap.size v ((l.take k).flatMap tP.ys)/\aj w wr) (λ _ i _=>l.length - (intOf i).toNat);case atStart=>exact⟨0,Nat.zero_le _,rfl,xT.ae,GK.ae⟩
   case round=>
    clear xT GK;obtain⟨k,hk,rfl,hp,hb⟩:=hrel;have HP:=aa hp;clear hp;by_cases hlt:k < l.length
    ·have hRL:=HR.ae.later hb;obtain⟨b,off,rfl,kF,hc⟩:=hRL;have hx:=hc k l[k] (getElem?_eq_getElem hlt);have oZ:=aa (show(l.take (k+1)).flatMap tP.ys=(l.take k).flatMap tP.ys++l[k].ys by rw[take_add_one,getElem?_eq_getElem hlt,flatMap_append];simp)
     have hle:((l.take k).flatMap tP.ys).length+l[k].ys.length<=1000000:=by
      have h1:=FW l (k+1);have h2:lC (l.take (k+1))=lC (l.take k)+l[k].ys.length:=by rw[take_add_one,getElem?_eq_getElem hlt];exact FV _ _
      have h3:=zL.ae;have h4:((l.take k).flatMap tP.ys).length=lC (l.take k):=by rw[length_flatMap];rfl
      omega
     generalize l[k]=x at*;generalize (l.take k).flatMap tP.ys=ys at*;obtain⟨hx1,hx2⟩:=hx;have uA:=aa hx2.reads;have hbase:=hb.size;clear hc hx2;obtain⟨i0,kZ,hg4,oy,HZ⟩:=info_parts fI;have HI:=aa kZ;have JO:=aa hg4;have Gi:=aa oy;have tD:=aa HZ;clear kZ hg4 oy HZ;go_wp2_with (first
      |(at_builtin
        refine cM wr rfl (.tmp 31) (.tmp 32) 23 rfl w.heap.size 46 i0 _ 7 88 Tryz.underlying23 HI.ae JO.ae Gi.ae tD.ae rfl WC _ ys.length (ys.flatMap bH) rfl HP.ae wr.heap.size x.A x.ys.length x.c (x.ys.flatMap bH) rfl uA.ae (PE _) Tan WC hbase ?_
        intro v4 w4 o4 g4 _
        have b4:=br HP.ae g4 hbase
        have O4:=aa o4
        clear o4 g4 HP))
     go_roundw;case rel=>refine⟨k+1,hlt,by go_num,?_,hb.trans b4⟩;rw[oZ.ae];unfold aI;rw[length_append,flatMap_append];exact O4.ae
     case measure=>exact Za1
    ·have fH:k=l.length:=by omega
     subst fH;rw[take_length] at HP;go_wp2_with fail;go_ret;exact⟨_,rfl,HP.ae,hb⟩
end Go.Proofs.YtndgjggokjickaaGreatDoor
namespace Go.Proofs.YtndgjggokjickaaGreatDoor.R
set_option maxHeartbeats 90000000
set_option maxRecDepth 100000
open Go.ChangeShapes Go.WideShapes Go.ChangeAt Go.RowKit List
set_option linter.unusedVariables false
set_option linter.unusedSimpArgs false
theorem sP (m:B8):(sO m).toArray.size=28:=rfl
theorem PF (m:B8):(sO m).toArray.all (·.oneCell')=true:=by simp[sO,LF,B9,nL,Value.oneCell']
theorem pB:(Tryz.prog.info? 64).map (·.size)=some 28:=by exact Zgx
section
variable {w wr wr':World} {S:Nat->Prop} {v v':Value} {acc l:List Tr} {B:Nat}
end
section
variable {P:Program} {J:List Value->World->Prop} {w0:World} {Q:Exit->Act->World->Prop} {a0:Act} {id:Nat} {o0 o1 o2 o3 o4 o5 o6 o7 o8 o9 qB:Oper} {q s d0 d1 d2 d3 d4 d5 d6 d7 d8 d9:Tmp} {pq v0 p1 p2 p3 s1 s2 s3:Value} {A1 A2 A3:Addr}
end
end Go.Proofs.YtndgjggokjickaaGreatDoor.R
namespace Go.Proofs.YtndgjggokjickaaGreatDoor
open List
set_option maxHeartbeats 90000000
set_option maxRecDepth 100000
open Go.RowKit
set_option linter.unusedVariables false
def D4 (o0 o1 o2 o3 o4 o5 o6 o7 o8 o9:Oper)(q s d0 d1 d2 d3 d4 d5 d6 d7 d8 d9:Tmp):Bool:=
 (tmpsOf o0== [s])&&(cT [o0,o1,o2,o3,o4,o5,o6,o7,o8,o9] o0 s==none)&&(tmpsOf o1== [q])&&(cT [o0,o1,o2,o3,o4,o5,o6,o7,o8,o9] o1 q==none)&&(tmpsOf o2== [d1])&&(cT [o0,o1,o2,o3,o4,o5,o6,o7,o8,o9] o2 d1==some 1)&&(tmpsOf o3== [d0,d2])&&(cT [o0,o1,o2,o3,o4,o5,o6,o7,o8,o9] o3 d0==some 0)&&(cT [o0,o1,o2,o3,o4,o5,o6,o7,o8,o9] o3 d2==some 2)&&(tmpsOf o4== [q])&&(cT [o0,o1,o2,o3,o4,o5,o6,o7,o8,o9] o4 q==none)&&(tmpsOf o5== [d4])&&(cT [o0,o1,o2,o3,o4,o5,o6,o7,o8,o9] o5 d4==some 4)&&(tmpsOf o6== [d3,d5])&&(cT [o0,o1,o2,o3,o4,o5,o6,o7,o8,o9] o6 d3==some 3)&&(cT [o0,o1,o2,o3,o4,o5,o6,o7,o8,o9] o6 d5==some 5)&&(tmpsOf o7== [q])&&(cT [o0,o1,o2,o3,o4,o5,o6,o7,o8,o9] o7 q==none)&&(tmpsOf o8== [d7])&&(cT [o0,o1,o2,o3,o4,o5,o6,o7,o8,o9] o8 d7==some 7)&&(tmpsOf o9== [d6,d8])&&(cT [o0,o1,o2,o3,o4,o5,o6,o7,o8,o9] o9 d6==some 6)&&(cT [o0,o1,o2,o3,o4,o5,o6,o7,o8,o9] o9 d8==some 8)&&(o0.dst==some d0)&&(o1.dst==some d1)&&(o2.dst==some d2)&&(o3.dst==some d3)&&(o4.dst==some d4)&&(o5.dst==some d5)&&(o6.dst==some d6)&&(o7.dst==some d7)&&(o8.dst==some d8)&&(o9.dst==some d9)&& o0.guard.isNone && o1.guard.isNone && o2.guard.isNone && o3.guard.isNone && o4.guard.isNone && o5.guard.isNone && o6.guard.isNone && o7.guard.isNone && o8.guard.isNone && o9.guard.isNone
section
variable {P:Program} {J:List Value->World->Prop} {w0:World} {Q:Exit->Act->World->Prop} {a0:Act} {id:Nat} {o0 o1 o2 o3 o4 o5 o6 o7 o8 o9 qB:Oper} {q s d0 d1 d2 d3 d4 d5 d6 d7 d8 d9:Tmp} {pq v0 p1 p2 p3 s1 s2 s3:Value} {A1 A2 A3:Addr}
theorem LU (t:TypeId)
  (nO:∀vs w,J vs w->J vs w.drew) (hJ:J [] w0)
  (hm:P.follows .mixedOrders=true) (aZ:dM [o0,o1,o2,o3,o4,o5,o6,o7,o8,o9] a0.tmps.size [o0,o1,o2,o3,o4,o5,o6,o7,o8,o9] 0=true) (hz:eI ([o0,o1,o2,o3,o4,o5,o6,o7,o8,o9]++ [qB]) [qB] 10=true) (hch:lx [o0,o1,o2,o3,o4,o5,o6,o7,o8,o9] [3,6,9]=true) (BX:D4 o0 o1 o2 o3 o4 o5 o6 o7 o8 o9 q s d0 d1 d2 d3 d4 d5 d6 d7 d8 d9=true)
  (hq:a0.eval (.tmp q)=pq) (h0:a0.eval (.tmp s)=v0)
  (Ei:∀ρ w,ρ (.tmp s)=v0->(execOp ρ o0).run P w=.ok (.value v0) w)
  (hfa:∀ρ w,ρ (.tmp q)=pq->(execOp ρ o1).run P w=.ok (.value p1) w) (ZO:∀ρ w,ρ (.tmp q)=pq->(execOp ρ o4).run P w=.ok (.value p2) w) (hf3:∀ρ w,ρ (.tmp q)=pq->(execOp ρ o7).run P w=.ok (.value p3) w)
  (LT:∀vs w,J vs w->w.cell? A1=some s1/\w.cell? A2=some s2/\w.cell? A3=some s3)
  (ft:∀ρ w,ρ (.tmp d1)=p1->w.cell? A1=some s1->(execOp ρ o2).run P w=.ok (.value s1) w) (hl2:∀ρ w,ρ (.tmp d4)=p2->w.cell? A2=some s2->(execOp ρ o5).run P w=.ok (.value s2) w) (ub:∀ρ w,ρ (.tmp d7)=p3->w.cell? A3=some s3->(execOp ρ o8).run P w=.ok (.value s3) w)
  (atx:∀ρ w v x v' w',ρ (.tmp d0)=v->ρ (.tmp d2)=x->(Builtin.append_ #[t,t] t #[v,x]).run P w=.ok v' w'->(execOp ρ o3).run P w=.ok (.value v') w')
  (aty:∀ρ w v x v' w',ρ (.tmp d3)=v->ρ (.tmp d5)=x->(Builtin.append_ #[t,t] t #[v,x]).run P w=.ok v' w'->(execOp ρ o6).run P w=.ok (.value v') w')
  (atz:∀ρ w v x v' w',ρ (.tmp d6)=v->ρ (.tmp d8)=x->(Builtin.append_ #[t,t] t #[v,x]).run P w=.ok v' w'->(execOp ρ o9).run P w=.ok (.value v') w')
  (ha1:∀w,J [] w->∃v' w',(Builtin.append_ #[t,t] t #[v0,s1]).run P w=.ok v' w'/\J [v'] w')
  (ha2:∀a w,J [a] w->∃v' w',(Builtin.append_ #[t,t] t #[a,s2]).run P w=.ok v' w'/\J [a,v'] w')
  (ha3:∀a b w,J [a,b] w->∃v' w',(Builtin.append_ #[t,t] t #[b,s3]).run P w=.ok v' w'/\J [a,b,v'] w')
  (mh:∀a b c W,J [a,b,c] W->wpList P [o0,o1,o2,o3,o4,o5,o6,o7,o8,o9,qB].toArray Q [qB] ((((((((((a0.put (some d0) v0).put (some d1) p1).put (some d2) s1).put (some d3) a).put (some d4) p2).put (some d5) s2).put (some d6) b).put (some d7) p3).put (some d8) s3).put (some d9) c) W):
  (Code.region id [o0,o1,o2,o3,o4,o5,o6,o7,o8,o9,qB].toArray true).wp P Q a0 w0:=by
 simp only[D4,Bool.and_eq_true,beq_iff_eq,Option.isNone_iff_eq_none] at BX;obtain⟨⟨⟨⟨⟨⟨⟨⟨⟨⟨⟨⟨⟨⟨⟨⟨⟨⟨⟨⟨⟨⟨⟨⟨⟨⟨⟨⟨⟨⟨⟨⟨⟨⟨⟨⟨⟨⟨⟨⟨⟨⟨t2,m0⟩,t0⟩,s0⟩,t1⟩,m2⟩,t3⟩,m3⟩,m3'⟩,t6⟩,s6⟩,t4⟩,s4⟩,KK⟩,m6⟩,m6'⟩,t7⟩,m7⟩,t8⟩,m8⟩,t9⟩,m9⟩,s5'⟩,e0⟩,e1⟩,e2⟩,e3⟩,e4⟩,e5⟩,e6⟩,e7⟩,e8⟩,e9⟩,g2⟩,g0⟩,LE⟩,g3⟩,g6⟩,Ly⟩,g4⟩,g7⟩,g8⟩,g5⟩:=BX;refine oU [qB] [o0,o1,o2,o3,o4,o5,o6,o7,o8,o9] rfl (λ i=>if i=0 then v0 else if i=1 then p1 else if i=2 then s1 else if i=4 then p2 else if i=5 then s2 else if i=7 then p3 else s3) [3,6,9] J nO hJ hm aZ hz hch Tab rfl ?_ ?_
 ·refine⟨Zdm,Zdk,?_,?_,Zdn,?_,?_,?_,?_,?_,trivial⟩
  ·intro ρ w vs hc hG hr;rw[t1] at hr;have r0:=hr.1;simp only[m2] at r0;exact⟨LE,ft ρ w r0 (LT _ _ hG).1⟩
  ·intro ρ w vs hc hG hr;rw[t3] at hr;have r0:=hr.1;simp only[m3] at r0;have r1:=hr.2.1;simp only[m3'] at r1;refine⟨g3,?_⟩;show vs.length=0->_;intro hl;obtain rfl:=eq_nil_of_length_eq_zero hl;obtain⟨v',w',hrun,hj⟩:=ha1 w hG;exact aq (atx ρ w _ _ v' w' r0 r1 hrun) hj
  ·intro ρ w vs hc hG hr;rw[t4] at hr;have r0:=hr.1;simp only[s4] at r0;exact⟨Ly,hl2 ρ w r0 (LT _ _ hG).2.1⟩
  ·intro ρ w vs hc hG hr;rw[KK] at hr;have r0:=hr.1;simp only[m6] at r0;have r1:=hr.2.1;simp only[m6'] at r1;refine⟨g4,?_⟩;show vs.length=1->_;intro hl
   match vs,hl with
   | [a],_=>have r0:some a=some (ρ (.tmp d3)):=r0;injection r0 with r0;obtain⟨v',w',hrun,hj⟩:=ha2 a w hG;exact aq (aty ρ w _ _ v' w' r0.symm r1 hrun) hj
  ·intro ρ w vs hc hG hr;rw[t7] at hr;have r0:=hr.1;simp only[m7] at r0;exact⟨g7,hf3 ρ w (r0.trans hq)⟩
  ·intro ρ w vs hc hG hr;rw[t8] at hr;have r0:=hr.1;simp only[m8] at r0;exact⟨g8,ub ρ w r0 (LT _ _ hG).2.2⟩
  ·intro ρ w vs hc hG hr;rw[t9] at hr;have r0:=hr.1;simp only[m9] at r0;have r1:=hr.2.1;simp only[s5'] at r1;refine⟨g5,?_⟩;show vs.length=2->_;intro hl
   match vs,hl with
   | [a,b],_=>have r0:some b=some (ρ (.tmp d6)):=r0;injection r0 with r0;obtain⟨v',w',hrun,hj⟩:=ha3 a b w hG;exact aq (atz ρ w _ _ v' w' r0.symm r1 hrun) hj
 ·intro vs w hl hG
  match vs,hl with
  | [a,b,c],_=>simp only[bE,e0,e1,e2,e3,e4,e5,e6,e7,e8,e9];intro a0' z0 a1 z1 a2 z2 a3 z3 a4 Lw a5 Kx a6 z4 a7 z7 a8 z8 a9 z5;have z0:a0'=v0:=z0;have z1:a1=p1:=z1;have z2:a2=s1:=z2;have z3:some a=some a3:=z3;have Lw:a4=p2:=Lw;have Kx:a5=s2:=Kx;have z4:some b=some a6:=z4;have z7:a7=p3:=z7;have z8:a8=s3:=z8;have z5:some c=some a9:=z5;injection z3 with z3;injection z4 with z4;injection z5 with z5;rw[z0,z1,z2,<- z3,Lw,Kx,<- z4,z7,z8,<- z5];exact mh a b c w hG
end
end Go.Proofs.YtndgjggokjickaaGreatDoor
namespace Go.Proofs.YtndgjggokjickaaGreatDoor.R
set_option maxHeartbeats 90000000
set_option maxRecDepth 100000
open Go.ChangeShapes Go.WideShapes Go.ChangeAt Go.RowKit List
set_option linter.unusedVariables false
set_option linter.unusedSimpArgs false
def st0:Array Value:=(sO {}).toArray
section
variable {ρ:dr} {w wr w2:World} {big:Bool} {P:Ps St} {σ yT:cj} {q b:Nat} {m:B8} {d:St}
end
section
variable {ρ:dr} {w wr w2:World} {big:Bool} {P:Ps St} {σ yT:cj} {q b:Nat} {m:B8} {d:St}
end
theorem FX (w:World)(q:Nat)(cs:Array Value):w.grownBy (w.setRow q cs) (some q):=
 ⟨rfl,rfl,rfl,by simp,λ i hi hne=>setRow_other w q i cs (λ e=>hne Tbb)⟩
variable{B q:Nat}
theorem SM(w:World)(hq:q < B)(cs:Array Value):∀b,jg B w b->(∀o,(w.setRow q cs).cell? ⟨b,o,none⟩=w.cell? ⟨b,o,none⟩)/\jg B (w.setRow q cs) b:=λ b hb=>
 ⟨cell_of_heap (setRow_other w q b cs (by have:=hb.1;omega)),hb.1,by rw[size_setRow];exact hb.2⟩
variable{w:World}{T:TypeId}{old:Array Value}
theorem _root_.Go.Proofs.YtndgjggokjickaaGreatDoor.aB.row(h:aB w q T old)(cs:Array Value):aB (w.setRow q cs) q T cs:=setRow_heap w q old cs T (0,0) h
variable{b:Nat}
theorem _root_.Go.Proofs.YtndgjggokjickaaGreatDoor.aB.ack(h:aB w b T old)(hq:b≠q)(cs:Array Value):aB (w.setRow q cs) b T old:=(setRow_other w q b cs hq).trans h
variable{P:Program}{fn:Func}{u v:Tmp}
theorem IP{p:Tmp} {ty:TypeId}(h:fn.results= #[.cell p ty,.tmp u,.tmp v])(tmps:Array Value)(w:World)(g:Nat)(t:TypeId)(cs:Array Value)(fr:Nat×Nat)(d:TypeDesc)(x y:Value)
  (hp:tmps.getD p undef=aw g) (hg:w.heap[g]?=some (.cells cs t fr))
  (hu:P.underlying ty=some d) (hd:(match d with | .struct _ | .array _ _=>true | _=>false)=true) (hi:(P.info? ty).map (·.size)=some cs.size) (hx:tmps.getD u undef=x) (hy:tmps.getD v undef=y):
  (results fn tmps).run P w=.ok (.tuple #[.agg cs,x,y]) w:=by
 have hp':tmps[p]?.getD undef=aw g:=by simpa using hp
 have hx':tmps[u]?.getD undef=x:=by simpa using hx
 have hy':tmps[v]?.getD undef=y:=by simpa using hy
 simp[results,h,hp',hx',hy',asAddr,Sem.run_bind,run_loadVar_row w g t ty cs fr d hg hu hd hi,Result.andThen]
variable{ρ:dr}{W:World}{σ:cj}{big:Bool}
theorem eE.row(h:eE ρ W w σ big)(hW:ρ.g < W.heap.size)(hq:W.heap.size<=q)(cs:Array Value):eE ρ W (w.setRow q cs) σ big:=
 h.own hW (FX w q cs) (λ G e=>by injection e with e;omega)
variable{gl:Nat}{l:List rp}
theorem dr.start{c:Nat} (zT:gl < w.heap.size)(hc:∀k t,l[k]?=some t->w.cell? ⟨gl,k*4,none⟩=some (ag t.w.k)/\w.cell? ⟨gl,k*4+1,none⟩=some (.string ⟨t.w.s.toArray⟩)/\w.cell? ⟨gl,k*4+2,none⟩=some (af t.w.n)/\w.cell? ⟨gl,k*4+3,none⟩=some (af t.p))
  (he:yP (l.map (·.w))) (hlen:l.length<=4097) (hwd:∀t∈l,acd t.w):
  (⟨w.heap.size,gl,c,l⟩:dr).at (w.alloc (.cells #[aH gl l.length c,af 0,af (-1),.bool false] 169)) (.good (l.map (·.w))) false:=by
 have hb:=aB.new w 169 #[aH gl l.length c,af 0,af (-1),.bool false];refine⟨?_,zT,?_,⟨suffix_refl _,he⟩,?_,λ t ht=>(hwd t ht).1⟩
 ·have e:(⟨w.heap.size,gl,c,l⟩:dr).cells (.good (l.map (·.w))) false= #[aH gl l.length c,af 0,af (-1),.bool false]:=by simp[dr.cells,dr.n,dr.bad,cj.left]
  rw[e];exact hb
 ·intro k t hk;have c:=λ o=>World.cell?_alloc_lt w (.cells #[aH gl l.length c,af 0,af (-1),.bool false] 169) ⟨gl,o,none⟩ zT
  obtain⟨h1,h2,h3,h4⟩:=hc k t hk;exact⟨(c _).trans h1,(c _).trans h2,(c _).trans h3,(c _).trans h4⟩
 ·show l.length<=5000;omega
theorem LV(w:World)(o:Obj)(cs:Array Value):∀b,jg B w b->(∀i,((w.alloc o).setRow w.heap.size cs).cell? ⟨b,i,none⟩=w.cell? ⟨b,i,none⟩)/\jg B ((w.alloc o).setRow w.heap.size cs) b:=λ b hb=>
 ⟨cell_of_heap ((setRow_other _ w.heap.size b cs (by have:=hb.2;omega)).trans (Below.heap_alloc w o b hb.2)),hb.1,by rw[size_setRow];have:=hb.2;simp;omega⟩
section
variable {t:Wd} {r:dG}
end
section
variable {α:Type} {E:El α} {T:TypeId} {lng:α->Bool} {el:Ps α} {ρ:dr} {w wr w8:World} {big bg:Bool} {P:Ps St} {σ0 σ yT:cj} {q b i k:Nat} {m:B8} {d:St} {w1 gF w2 W:World} {y:E.β} {v v':Value} {acc:List α} {cs:Array Value}
end
end Go.Proofs.YtndgjggokjickaaGreatDoor.R
namespace Go.Proofs.YtndgjggokjickaaGreatDoor
variable{p:Prop}
set_option maxHeartbeats 90000000
set_option maxRecDepth 100000
open Go.ChangeShapes Go.WideShapes Go.ChangeAt Go.RowKit List
set_option linter.unusedVariables false
set_option linter.unusedSimpArgs false
def FY (v:R.Val):Val:=⟨v.k,v.n,v.s⟩
mutual
def qj:R.Tr->Tr
 | .mk op v name width args=> .mk op (FY v) name width (gJ args)
def gJ:List R.Tr->List Tr
 | []=> []
 | t::ts=>qj t::gJ ts
end
def Eo (y:R.Ex):Ex:=⟨y.op,FY y.v,y.name,y.width,y.A,y.n,y.c⟩
theorem lD:∀ts:List R.Tr,(gJ ts).length=ts.length
 | []=>by simp[gJ]
 | t::ts=>by simp[gJ,lD ts]
variable{w:World}{S:Nat->Prop}
theorem aeZ{A:Option Addr} {ys:List R.Ex}(h:R.RL R.bH 7 w S A ys):Yd w S A (ys.map Eo):=by
 rcases h with rfl |⟨b,off,Kx,h2,h3⟩
 ·exact .inl rfl
 ·refine .inr ⟨b,off,Kx,h2,λ i x h1=>?_⟩;rw[getElem?_map] at h1
  cases hy:ys[i]? with
  | none=>rw[hy] at h1;cases h1
  | some y=>rw[hy] at h1;injection h1 with h1;subst h1;have k:=h3 i y;exact⟨k 0 _ hy rfl,k 1 _ hy rfl,k 2 _ hy rfl,k 3 _ hy rfl,k 4 _ hy rfl,k 5 _ hy rfl,k 6 _ hy rfl⟩
mutual
theorem SN {w:World} {S:Nat->Prop}:∀(t:R.Tr) (y:R.Ex),t.at_ w S y->(qj t).at_ w S (Eo y)
 | .mk op v name width args,y,h=>by unfold R.Tr.at_ at h;obtain⟨h1,h2,h3,h4,h5,ys,h6,h7⟩:=h;unfold qj Tr.at_;exact⟨h1,by rw[<- h2];rfl,h3,h4,by rw[lD];exact h5,ys.map Eo,aeZ h6,xU args ys h7⟩
theorem xU {w:World} {S:Nat->Prop}:∀(ts:List R.Tr) (ys:List R.Ex),R.Tr.aO w S ts ys->Tr.aO w S (gJ ts) (ys.map Eo)
 | [],ys,h=>by unfold R.Tr.aO at h;subst h;unfold gJ Tr.aO;rfl
 | t::ts,ys,h=>by unfold R.Tr.aO at h;obtain⟨y,ys',rfl,h1,h2⟩:=h;unfold gJ Tr.aO;exact⟨Eo y,ys'.map Eo,rfl,SN t y h1,xU ts ys' h2⟩
end
theorem LW:∀ {ts:List R.Tr} {ys:List R.Ex},R.mD (R.Tr.at_ w S) ts ys->R.Tr.aO w S ts ys
 | _,_,.nil=>by unfold R.Tr.aO;rfl
 | _,_,.cons h k=>by unfold R.Tr.aO;exact⟨_,_,rfl,h,LW k⟩
variable{n:Nat}
theorem Cj{A:Option Addr}  {l:List R.Tr}(h:R.Ix.lies w (Old w) A n l):gI w (gJ l) A n:=by obtain⟨h1,ys,h2,h3⟩:=h;exact⟨by rw[lD];exact h1,ys.map Eo,aeZ h2,xU l ys (LW h3)⟩
variable{γ:Type}
theorem SP(g:γ->Value):∀ {l:List (R.Tr×γ)} {ys:List (R.Ex×γ)},R.mD (λ x y=>x.1.at_ w S y.1/\y.2=x.2) l ys->Tr.aO w S ((l.map λ x=>(qj x.1,g x.2)).map (·.1)) ((ys.map λ y=>(Eo y.1,g y.2)).map (·.1))/\(ys.map λ y=>(Eo y.1,g y.2)).map (·.2)=(l.map λ x=>(qj x.1,g x.2)).map (·.2)
 | _,_,.nil=>⟨by simp only[map_nil];unfold Tr.aO;rfl,rfl⟩
 | _,_,.cons h k=>by obtain⟨k1,k2⟩:=SP g k;simp only[map_cons];refine⟨?_,by rw[k2,h.2]⟩;unfold Tr.aO;exact⟨_,_,rfl,SN _ _ h.1,k1⟩
theorem D5(g:γ->Value) {A:Option Addr}  {l:List (R.Tr×γ)} {ys:List (R.Ex×γ)}(hn:n=l.length)(h:R.RL (λ y:R.Ex×γ=>R.bH y.1++ [g y.2]) 8 w (Old w) A ys)(h2:R.mD (λ x y=>x.1.at_ w (Old w) y.1/\y.2=x.2) l ys):eO w (l.map λ x=>(qj x.1,g x.2)) A n:=by
 obtain⟨k1,k2⟩:=SP g h2;refine⟨by rw[length_map];exact hn,ys.map λ y=>(Eo y.1,g y.2),?_,k2,k1⟩;rcases h with rfl |⟨b,off,Kx,h2,h3⟩
 ·exact .inl rfl
 ·refine .inr ⟨b,off,Kx,h2,λ i x h1=>?_⟩;rw[getElem?_map] at h1
  cases hy:ys[i]? with
  | none=>rw[hy] at h1;cases h1
  | some y=>rw[hy] at h1;injection h1 with h1;subst h1;have k:=h3 i y;exact⟨⟨k 0 _ hy rfl,k 1 _ hy rfl,k 2 _ hy rfl,k 3 _ hy rfl,k 4 _ hy rfl,k 5 _ hy rfl,k 6 _ hy rfl⟩,k 7 _ hy rfl⟩
theorem SQ:∀ {l:List Int} {ys:List Int},R.mD (λ x y=>y=x) l ys->ys=l
 | _,_,.nil=>rfl
 | _,_,.cons h k=>by rw[h,SQ k]
def fo (d:R.Qu):Qy:=⟨d.items.map λ x=>(qj x.1,x.2),d.bT,d.only,gJ d.cD,gJ d.group,gJ d.having,d.order.map λ x=>(qj x.1,x.2),d.dv⟩
def PG (y:R.xQ):QL:=⟨⟨y.items.A,y.items.n,y.items.c⟩,⟨y.cD.A,y.cD.n,y.cD.c⟩,⟨y.group.A,y.group.n,y.group.c⟩,⟨y.having.A,y.having.n,y.having.c⟩,⟨y.order.A,y.order.n,y.order.c⟩,⟨y.dv.A,y.dv.n,y.dv.c⟩⟩
variable{d:R.Qu}
theorem SR{y:R.xQ}(h:d.at_ w (Old w) y):pY w (fo d) (PG y)/\R.quV y=mR (fo d) (PG y):=by
 refine⟨⟨?_,Cj h.cD,Cj h.group,Cj h.having,?_,?_⟩,?_⟩
 ·obtain⟨h1,ys,h2,h3⟩:=h.items;have k:=D5 (λ s:ByteArray=>Value.string s) h1 h2 h3;unfold fo;rw[map_map];exact k
 ·obtain⟨h1,ys,h2,h3⟩:=h.order;have k:=D5 (λ s:Bool=>Value.bool s) h1 h2 h3;unfold fo;rw[map_map];exact k
 ·obtain⟨h1,ys,h2,h3⟩:=h.dv;have k:=SQ h3;subst k;refine⟨h1,?_⟩;rcases h2 with h2 |⟨b,off,h2,h3,h4⟩
  ·exact .inl h2
  ·refine .inr ⟨b,off,h2,h3,λ i x hx=>?_⟩;have:=h4 i x 0 _ hx rfl;rw[show off+i*R.Sb.size+0=off+i by show off+i*1+0=off+i;omega] at this;exact this
 ·unfold R.quV R.LF mR fo PG R.nL;rw[h.bT,h.only]
def cY (q:Nat):List Value:=[aw q]
theorem D7:(Tryz.prog.info? 145).map (λ i=>(i.zero,i.size,i.bytes))=some (some (.pointer none),1,8):=by exact Zgx
structure dE (w:World) (B:Nat) (qs:List Nat) (ss:List St):Prop where
 len:qs.length=ss.length
 at_:∀(i:Nat) (q:Nat) (s:St),qs[i]?=some q->ss[i]?=some s->cC w q s
 low:∀q∈qs,B<=q/\q < w.heap.size
 apart:qs.Nodup
variable{B:Nat}
theorem dE.nil:dE w B [] []:=⟨rfl,(λ i q s h _=>by simp at h),(λ q h=>by cases h),List.Pairwise.nil⟩
variable{w':World}
theorem dE.keep{qs:List Nat} {ss:List St}(h:dE w B qs ss)(hs:w.heap.size<=w'.heap.size)(hk:∀q∈qs,w'.heap[q]?=w.heap[q]?):dE w' B qs ss:=
 ⟨h.len,λ i q s hq hs2=>(hk q (mem_of_getElem? hq)).trans (h.at_ i q s hq hs2),λ q hq=>⟨(h.low q hq).1,Nat.lt_of_lt_of_le (h.low q hq).2 hs⟩,h.apart⟩
theorem dE.later{qs:List Nat} {ss:List St}(h:dE w B qs ss)(hb:aj w w'):dE w' B qs ss:=
 h.keep hb.size λ q hq=>hb.block q (h.low q hq).2
variable{q:Nat}{s:St}
theorem dE.snoc{qs:List Nat} {ss:List St} (h:dE w B qs ss)(hs:cC w q s)(hB:B<=q)(hq:q∉qs)(hl:q < w.heap.size):dE w B (qs++ [q]) (ss++ [s]):=by
 refine⟨by simp[h.len],λ i r t hr ht=>?_,λ r hr=>?_,?_⟩
 ·rcases Nat.lt_or_ge i qs.length with hi | hi
  ·rw[getElem?_append_left hi] at hr;rw[getElem?_append_left TaK] at ht;exact h.at_ i r t hr ht
  ·rw[getElem?_append_right hi] at hr;rw[getElem?_append_right TaK,<- h.len] at ht
   have h0:i - qs.length=0:=by
    rcases Nat.lt_or_ge 0 (i - qs.length)with h1 | h1
    ·rw[getElem?_eq_none (by simp only[length_singleton];omega)] at hr;cases hr
    ·omega
   rw[h0] at hr ht;simp at hr ht;subst hr ht;exact hs
 ·rcases List.mem_append.1 hr with hr | hr
  ·exact h.low r hr
  ·rw[mem_singleton] at hr;subst hr;exact⟨hB,hl⟩
 ·rw[nodup_append];exact⟨h.apart,by simp,λ a ha b hb e=>by rw[mem_singleton] at hb;subst hb e;exact hq ha⟩
variable{base:Nat}{v:Value}
theorem dE.ne{qs:List Nat} {ss:List St}  {l:List Nat}(h:dE w B qs ss)(ho:aI cY 145 1 w base v l):∀q∈qs,v.ownBlock≠some q:=λ q hq=>by obtain⟨i,hi,he⟩:=getElem_of_mem hq;have h1:=h.at_ i q (ss[i]' TaK) Tax (getElem?_eq_getElem _);exact ho.other h1 Tab
theorem dE.own{qs:List Nat} {ss:List St}  {l:List Nat}(h:dE w B qs ss)(ho:aI cY 145 1 w base v l)(hg:w.grownBy w' v.ownBlock):dE w' B qs ss:=
 h.keep hg.size λ q hq=>hg.block q (h.low q hq).2 (Ne.symm (h.ne ho q hq))
variable{i:Nat}{u:Value}
theorem dE.set{g:Nat} {qs:List Nat} {ss:List St} (h:dE w B qs ss)(hg:g∉qs):dE (w.setCell ⟨g,i,none⟩ u) B qs ss:=
 h.keep Tad λ q hq=>Below.heap_setCell w ⟨g,i,none⟩ u q (λ e=>hg (by have e2:q=g:=e;rw[<- e2];exact hq))
theorem FZ (gp:Nat)(ys:List Ex)(AA:Option Addr)(ac:Nat)(KA:Option Addr)(kn kc:Nat)(w:World)(hn:ys.length<=1000000)(sF:gp < w.heap.size)(hpa:w.cell? ⟨gp,9,none⟩=some (.slice AA ys.length ac))(hA:RE w w.heap.size AA ys)(Z2:∀y∈ys,isAgg y.op=true):
  ar 63 #[aw gp,.slice KA kn kc] w λ e w'=>∃g sv qs,e=.returned (aw g)/\w.heap.size<=g/\g∉qs/\aB w' g 141 #[.slice KA kn kc,sv]/\aI cY 145 1 w' w.heap.size sv qs/\dE w' w.heap.size qs (ys.map λ y=>fh y.op)/\aj w w':=by
 have HX:=aB.new w 141 #[.slice KA kn kc,az];have hb0:=ah w (.cells #[.slice KA kn kc,az] 141);have HPA:=aa ((hb0.cell (p:=⟨gp,9,none⟩) sF).trans hpa);have JM:=aa (Nat.lt_of_lt_of_le sF hb0.size);have HA:=aa hA;have HAG:=aa Z2;have HSW:=aa (show w.heap.size <(w.alloc (.cells #[.slice KA kn kc,az] 141)).heap.size by rw[World.size_alloc];omega);clear sF hpa hA Z2;go_enter Tryz.func63,Tryz.ntmps63;go_upto_region 2 with fail;generalize w.alloc _=W1 at*;obtain⟨g,hg⟩:∃g,g=w.heap.size:=⟨_,rfl⟩;rw[<- hg] at HX ⊢;have wA:=aa hg;have Bz:=aa hb0;have Kx:=aa HX;clear hg hb0 HX;have hpa:=HPA.ae;go_wp2_with fail;clear hpa;go_loopw [18] (λ i wr=>∃(j:Nat) (sv:Value) (qs:List Nat),j<=ys.length/\i=af j/\g∉qs/\aB wr g 141 #[.slice KA kn kc,sv]/\aI cY 145 1 wr W1.heap.size sv qs/\dE wr W1.heap.size qs ((ys.take j).map λ y=>fh y.op)/\aj w wr/\W1.heap.size<=wr.heap.size) (λ i _=>ys.length - (intOf i).toNat);case atStart=>exact⟨0,_,[],Nat.zero_le _,rfl,by simp,Kx.ae,aI.nil,.nil,Bz.ae,Nat.le_refl _⟩
 case round=>
  obtain⟨j,sv,qs,hk,rfl,IQ,hG,hO,hS,hb,hs⟩:=hrel;have zW:=aa hO;have J3:=aa hS;have HGQ:=aa IQ;have Mw:=aa hG;clear hO hS IQ hG Kx Bz;by_cases hlt:j < ys.length
  ·obtain⟨b,off,rfl,kF,hex⟩:=(HA.ae.below hb).at_ hlt;have Z2:=HAG.ae ys[j] (getElem_mem hlt);have oZ:=aa (show(ys.take (j+1)).map (λ y=>fh y.op)=(ys.take j).map (λ y=>fh y.op)++ [fh ys[j].op] by rw[take_add_one,getElem?_eq_getElem hlt,map_append];rfl);have SL:qs.length<=1000000:=by have:=J3.ae.len;simp at this;omega
   generalize ys[j]=y at*;generalize (ys.take j).map (λ y=>fh y.op)=ss at*;unfold cw at hex;go_upto_region 5 with fail;have k1:=aB.new wr 46 (ay y);have Mn:=ah wr (.cells (ay y) 46);have HG:=k1.cell 0;simp only[getElem?_toArray,getElem?_cons_zero] at HG;have HNW:=aa (abD y.op (wr.alloc (.cells (ay y) 46)) Z2);have bJ:g < wr.heap.size:=Mw.ae.lt;generalize wr.alloc _=W2 at*;obtain⟨g8,Xp⟩:∃g8,g8=wr.heap.size:=⟨_,rfl⟩;rw[<- Xp] at HG ⊢;clear Xp k1 hex Z2;go_wp2_with fail;refine HNW.ae.mono ?_;rintro e w6 ⟨p,hp,rfl,hst,b1⟩;have b6:=ai.then Mn b1;have DM:wr.heap.size<=p:=Nat.le_trans Mn.size hp;clear Mn b1 HNW HG hp;go_upto_region 6 with fail;have bN:=ah w6 (.cells #[aw p] 145);have hGN:=aB.new w6 145 #[aw p];have hL:=ai.then b6 bN;have Mg:=aa (zW.ae.later hL);have DR:=aa (J3.ae.later hL);have Ck:=aa (Mw.ae.later hL);have sQ:=aa (aB.later hst bN);have LY:=aa (ai.then hb hL);have hbase:W1.heap.size<=(w6.alloc (.cells #[aw p] 145)).heap.size:=Nat.le_trans hs hL.size;have Gc:=aa hGN;have hne:=Mg.ae.other Ck.ae Tab;have hnp:=Mg.ae.other sQ.ae Tab;have nJ:=aa hne;have HNP:=aa hnp;have hpl:=sQ.ae.lt;have Pj:=aa hpl;have hc1:=(Mw.ae.later b6).cell 1;simp only[Uaa] at hc1;have Sv:p≠g:=by omega
   have X9:p∉qs:=λ h=>by have:=(J3.ae.low p h).2;omega
   have HPG:=aa Sv;have HPQ:=aa X9;have HWP:=aa (Nat.le_trans hs DM);clear hGN hne hnp hpl bN b6 hL J3 Mw hst Sv X9 zW bJ;go_wp2_with (first
    |(at_builtin
      refine aU rfl (.tmp 32) (.tmp 34) 139 rfl _ 8 Tryz.underlying139 D7 rfl WC p rfl TaY rfl Mg.ae w6.heap.size rfl Gc.ae WC WC hbase ?_
      intro v4 w4 R5 g4
      obtain⟨A4,Qg,hv4,_⟩:=R5.reads
      rw[length_append,length_singleton] at hv4
      subst hv4
      have G4:=aa (Ck.ae.grown g4 (Ne.symm nJ.ae))
      have gc:=G4.ae.cell 1
      have gf:=G4.ae.frozen 1
      simp only[Uaa] at gc
      have S4:=aa (DR.ae.own Mg.ae g4)
      have P4:=aa (aB.grown sQ.ae g4 (Ne.symm HNP.ae))
      have B4:=aa (br Mg.ae g4 hbase)
      have s4:=aa g4.size
      have O4:=aa R5
      clear R5 g4))
   go_roundw
   case rel=>
    have hq4:g∉qs++ [p]:=by
     rw[mem_append,mem_singleton];rintro(h | h)
     ·exact HGQ.ae h
     ·exact HPG.ae h.symm
    have hn4:=O4.ae.other G4.ae Tab;refine⟨j+1,_,qs++ [p],hlt,by go_num,hq4,G4.ae.aT 1 _,O4.ae.keep λ Lw KK=>Below.heap_setCell w4 ⟨g,1,none⟩ _ Lw (λ e=>hn4 (by rw[KK];exact congrArg some e)),?_,(LY.ae.trans (B4.ae.mono (Nat.le_of_lt HSW.ae))).setCell TaR _,?_⟩
    ·rw[oZ.ae];exact(S4.ae.snoc P4.ae HWP.ae HPQ.ae (aB.lt P4.ae)).set hq4
    ·have h1:=s4.ae;rw[World.size_setCell];exact Nat.le_trans hbase h1
   case measure=>exact Za1
  ·have fH:j=ys.length:=by omega
   subst fH;rw[take_length] at J3;go_wp2_with fail;go_ret;exact⟨g,sv,qs,rfl,by rw[wA.ae];exact Nat.le_refl _,HGQ.ae,Mw.ae,zW.ae.down (Nat.le_of_lt HSW.ae),⟨J3.ae.len,J3.ae.at_,λ q hq=>⟨Nat.le_trans (Nat.le_of_lt HSW.ae) (J3.ae.low q hq).1,(J3.ae.low q hq).2⟩,J3.ae.apart⟩,hb⟩
def Vd (base:Nat)(l:List Val)(w:World)(e:Ending)(w':World):Prop:=∃v,e=.returned v/\aI aV 44 3 w' base v l/\aj w w'
theorem val_one (l:List Val):∀u∈l.flatMap aV,u.oneCell'=true:=by
 intro u hu;obtain⟨v,_,hv⟩:=List.mem_flatMap.1 hu;simp[aV] at hv;rcases hv with rfl | rfl | rfl <;> rfl
theorem Ve (w:World)(base:Nat)(hb:base<=w.heap.size):aI aV 44 3 (w.alloc (.cells #[] 44)) base (aH w.heap.size 0 0) []:=
 ⟨by simp,.inr ⟨w.heap.size,0,#[],rfl,hb,heap_alloc_new w _,Nat.le_refl _,by simp,by simp,by simp⟩⟩
theorem Cl (A:Option Addr)(c:Nat)(l:List Val)(w:World)(h:RV w w.heap.size A l)(hl:l.length<=1000):
  ar 37 #[.slice A l.length c] w (Vd w.heap.size l w):=by
 have HR:=aa h;clear h
 cases A with
 | none=>
   have hl0:l=[]:=by
    rcases HR.ae with h |⟨b,off,h,_⟩
    ·exact h
    ·cases h
   subst hl0;have hnil:(binOp .eql 38 (.slice none 0 c) (az)).run Tryz.prog w=.ok (.bool true) w:=Go.Lib.run_eql_slice_nil w 38 44 none 0 c 0 0 Tryz.underlying38;go_enter Tryz.func37,Tryz.ntmps37;exact Zhy
 | some ad=>
   have hnil:(binOp .eql 38 (.slice (some ad) l.length c) (az)).run Tryz.prog w=.ok (.bool false) w:=Go.Lib.run_eql_slice_nil w 38 44 (some ad) l.length c 0 0 Tryz.underlying38;obtain⟨i0,kZ,hg4,oy,HZ⟩:=info_parts lW;have bb:=ah w (.cells #[] 44);have HO:=aa (Ve w w.heap.size (Nat.le_refl _));have Xr:=aa (HR.ae.later bb).reads;have hsz:w.heap.size<=(w.alloc (.cells #[] 44)).heap.size:=bb.size;have HI:=aa kZ;have JO:=aa hg4;have Gi:=aa oy;have tD:=aa HZ;clear kZ hg4 oy HZ;go_enter Tryz.func37,Tryz.ntmps37;go_wp2_with (first
    |(at_builtin
      refine cM _ rfl (.tmp 5) (.tmp 6) 38 rfl w.heap.size 44 i0 _ 3 32 Tryz.underlying38 HI.ae JO.ae Gi.ae tD.ae rfl WC _ 0 [] rfl HO.ae _ (some ad) l.length c (l.flatMap aV) rfl Xr.ae (val_one l) Tan WC hsz ?_
      intro v2 w2 o2 g2 _
      have O2:=aa o2
      have G2:=aa g2
      clear o2 g2))
   have b2:=br HO.ae G2.ae hsz;have O3:aI aV 44 3 w2 w.heap.size v2 l:=by have:=O2.ae;unfold aI;simpa using this
   go_ret;exact⟨_,rfl,O3,bb.trans b2⟩
theorem rG:(Tryz.prog.info? 113).map (λ i=>(i.zero,i.size,i.bytes))=some (some (.agg #[au,ag 0]),2,24):=by exact Zgx
theorem afa:∀ys:List aX,(ys.flatMap aS).length=ys.length*2
 | []=>rfl
 | y::ys=>by rw[flatMap_cons,length_append,afa ys,length_cons];show 2+_=_;omega
theorem RC.reads{A:Option Addr} {l:List aX}(h:RC w B A l):Reads w B 2 A l.length (l.flatMap aS):=by
 refine⟨afa l,λ hn=>?_⟩;rcases h with h |⟨b,off,hA,hb,hc⟩
 ·subst h;simp at hn
 ·refine⟨⟨b,off,none⟩,hA,hb,λ j u hu=>?_⟩;obtain⟨k,r,x,rfl,hr,h2,h3⟩:=Ci (f:=aS) (size:=2) (λ _=>rfl) WC l j u hu;rw[PD,<- Nat.add_assoc];have hx:=hc k x h2;unfold pS at hx;unfold aS at h3
  match r,hr with
  | 0,_=>rw[<- h3];exact hx.1
  | 1,_=>rw[<- h3];exact hx.2
def IU (base:Nat)(l:List aX)(w:World)(e:Ending)(w':World):Prop:=∃v,e=.returned v/\aI aS 113 2 w' base v l/\aj w w'
theorem acn (l:List aX):∀u∈l.flatMap aS,u.oneCell'=true:=by
 intro u hu;obtain⟨v,_,hv⟩:=List.mem_flatMap.1 hu;simp[aS] at hv;rcases hv with rfl | rfl <;> rfl
theorem Vf (w:World)(base:Nat)(hb:base<=w.heap.size):aI aS 113 2 (w.alloc (.cells #[] 113)) base (aH w.heap.size 0 0) []:=
 ⟨by simp,.inr ⟨w.heap.size,0,#[],rfl,hb,heap_alloc_new w _,Nat.le_refl _,by simp,by simp,by simp⟩⟩
theorem IV (A:Option Addr)(c:Nat)(l:List aX)(w:World)(h:RC w w.heap.size A l)(hl:l.length<=1000):
  ar 55 #[.slice A l.length c] w (IU w.heap.size l w):=by
 have HR:=aa h;clear h
 cases A with
 | none=>
   have hl0:l=[]:=by
    rcases HR.ae with h |⟨b,off,h,_⟩
    ·exact h
    ·cases h
   subst hl0;have hnil:(binOp .eql 28 (.slice none 0 c) (az)).run Tryz.prog w=.ok (.bool true) w:=Go.Lib.run_eql_slice_nil w 28 113 none 0 c 0 0 Tryz.underlying28;go_enter Tryz.func55,Tryz.ntmps55;exact Zhy
 | some ad=>
   have hnil:(binOp .eql 28 (.slice (some ad) l.length c) (az)).run Tryz.prog w=.ok (.bool false) w:=Go.Lib.run_eql_slice_nil w 28 113 (some ad) l.length c 0 0 Tryz.underlying28;obtain⟨i0,kZ,hg4,oy,HZ⟩:=info_parts rG;have bb:=ah w (.cells #[] 113);have HO:=aa (Vf w w.heap.size (Nat.le_refl _));have Xr:=aa (HR.ae.later bb).reads;have hsz:w.heap.size<=(w.alloc (.cells #[] 113)).heap.size:=bb.size;have HI:=aa kZ;have JO:=aa hg4;have Gi:=aa oy;have tD:=aa HZ;clear kZ hg4 oy HZ;go_enter Tryz.func55,Tryz.ntmps55;go_wp2_with (first
    |(at_builtin
      refine cM _ rfl (.tmp 5) (.tmp 6) 28 rfl w.heap.size 113 i0 _ 2 24 Tryz.underlying28 HI.ae JO.ae Gi.ae tD.ae rfl WC _ 0 [] rfl HO.ae _ (some ad) l.length c (l.flatMap aS) rfl Xr.ae (acn l) Tan WC hsz ?_
      intro v2 w2 o2 g2 _
      have O2:=aa o2
      have G2:=aa g2
      clear o2 g2))
   have b2:=br HO.ae G2.ae hsz;have O3:aI aS 113 2 w2 w.heap.size v2 l:=by have:=O2.ae;unfold aI;simpa using this
   go_ret;exact⟨_,rfl,O3,bb.trans b2⟩
def Mine (w:World)(base:Nat)(cl:List aW):Prop:=∀r∈cl,aI aV 44 3 w base r.v r.l
variable{cl:List aW}
theorem Mine.later(h:Mine w base cl)(hb:aj w w'):Mine w' base cl:=λ r hr=>(h r hr).later hb
variable{base':Nat}{cl':List aW}{ov:Value}
theorem Mine.grown(h:Mine w base cl)(ho:aI ck 38 1 w base' ov cl')(hg:w.grownBy w' ov.ownBlock):Mine w' base cl:=λ r hr=>by
 refine(h r hr).keep λ q hq=>?_
 obtain⟨h1,h2,cur,h3⟩:=(h r hr).lt hq;exact hg.block q h1 λ e=>ho.other (show aB w q 44 cur from h3) Tab e.symm
theorem SU(h:aI ck 38 1 w base v cl)(hm:Mine w base cl):∃A c,v=.slice A cl.length c/\RR w w.heap.size A cl:=by
 obtain⟨A,c,hv,hc⟩:=ej (f:=ck) (size:=1) (λ _=>rfl) h;refine⟨A,c,hv,?_⟩;rcases hc with hc |⟨g,hA,hg,hc⟩
 ·exact .inl hc
 ·refine .inr ⟨g,0,hA,hg,λ i r hr=>⟨?_,?_⟩⟩
  ·have:=hc i r 0 _ hr WC rfl;exact Ze5
  ·obtain⟨A2,c2,e1,e2⟩:=Hl (hm r (mem_of_getElem? hr));unfold aW.v at e1;injection e1 with e1;rw[e1];exact e2
theorem pC(h:w.grownBy w' none):aj w w':=⟨h.os,h.tape,h.output,h.size,λ k hk=>h.block k hk Tad⟩
theorem aco (aL:List aW)(RA:Option Addr)(rc:Nat)(w:World)(hn:aL.length<=1000000)(hl:∀r∈aL,r.l.length<=1000000)(hR:RR w w.heap.size RA aL):
  ar 12 #[.slice RA aL.length rc] w λ e w'=>∃v cl,e=.returned v/\aI ck 38 1 w' w.heap.size v cl/\Mine w' w.heap.size cl/\cl.map (·.l)=aL.map (·.l)/\aj w w':=by
 have HR:=aa hR;have zL:=aa hl;clear hR hl;go_enter Tryz.func12,Tryz.ntmps12;go_wp2_with fail;go_loopw [3,4] (λ v i wr=>∃(k:Nat) (cl:List aW),k<=aL.length/\i=af k/\aI ck 38 1 wr w.heap.size v cl/\Mine wr w.heap.size cl/\cl.map (·.l)=(aL.take k).map (·.l)/\aj w wr) (λ _ i _=>aL.length - (intOf i).toNat);case atStart=>exact⟨0,[],Nat.zero_le _,rfl,aI.nil,(λ r hr=>by cases hr),rfl,Below.refl _ _⟩
 case round=>
  obtain⟨k,cl,hk,rfl,ho,hm,he,hb⟩:=hrel;have HO:=aa ho;have HM:=aa hm;have HE:=aa he;clear ho hm he;by_cases hlt:k < aL.length
  ·obtain⟨b,off,rfl,kF,hcell,vd⟩:=(HR.ae.below hb).at_ hlt;have oZ:=aa (show(aL.take (k+1)).map (·.l)=(aL.take k).map (·.l)++ [aL[k].l] by rw[take_add_one,getElem?_eq_getElem hlt,map_append];rfl);have kN:=zL.ae aL[k] (getElem_mem hlt);have cf:cl.length<=1000000:=by have h1:=congrArg List.length HE.ae;simp only[length_map,length_take] at h1;omega
   generalize aL[k]=r at*;have uA:=aa (vd.more hb.size).reads;have hbase:=hb.size;obtain⟨i0,kZ,hz0,hz1,hz2⟩:=info_parts lW;have HI:=aa kZ;have HZ0:=aa hz0;have uZ:=aa hz1;have tD:=aa hz2;have hnil:wr.ownsRow w.heap.size 44 3 (az) 0 []:=⟨rfl,.inl ⟨rfl,rfl⟩⟩;have ZC:=aa hnil;clear kZ hz0 hz1 hz2 vd hnil;go_wp2_with (first
    |(at_builtin
      refine cM wr rfl (.const (az)) (.tmp 15) 38 rfl w.heap.size 44 i0 _ 3 32 Tryz.underlying38 HI.ae HZ0.ae uZ.ae tD.ae rfl WC _ 0 [] rfl ZC.ae wr.heap.size r.A r.l.length r.c (r.l.flatMap aV) rfl uA.ae (val_one r.l) Tan WC hbase ?_
      intro v2 w2 o2 g2 _
      have b2:=pC g2
      have O2:aI aV 44 3 w2 w.heap.size v2 r.l:=by
       unfold aI
       simpa using o2
      obtain⟨A2,c2,hv2,_⟩:=O2.reads
      subst hv2
      have O2H:=aa O2
      have B2:=aa b2
      clear o2 g2 O2 b2)
    |(at_builtin
      refine aU rfl (.tmp 11) (.tmp 17) 29 rfl _ 24 Tryz.underlying29 qY rfl WC (⟨A2,r.l,c2⟩:aW) rfl TaC rfl ((HO.ae.later B2.ae).later (ah w2 _)) w2.heap.size rfl (aB.new w2 _ _) WC WC (Nat.le_trans hbase (Nat.le_trans B2.ae.size (ah w2 _).size)) ?_
      intro v4 w4 o4 g4
      have M4:=aa (Mine.grown (Mine.later (Mine.later HM.ae B2.ae) (ah w2 _)) ((HO.ae.later B2.ae).later (ah w2 _)) g4)
      have N4:=aa (Mine.grown (cl:=[(⟨A2,r.l,c2⟩:aW)]) (λ q hq=>by rw[mem_singleton] at hq;subst hq;exact O2H.ae.later (ah w2 _)) ((HO.ae.later B2.ae).later (ah w2 _)) g4)
      have b4:=br ((HO.ae.later B2.ae).later (ah w2 _)) g4 (Nat.le_trans hbase (Nat.le_trans B2.ae.size (ah w2 _).size))
      have B4:=aa ((ai.then (ai.then hb B2.ae) (ah w2 _)).trans b4)
      have O4:=aa o4
      clear o4 g4 b4))
   go_roundw
   case rel=>
    refine⟨k+1,cl++ [⟨A2,r.l,c2⟩],hlt,by go_num,O4.ae,λ q hq=>?_,?_,B4.ae⟩
    ·rcases List.mem_append.1 hq with h | h
     ·exact M4.ae q h
     ·exact N4.ae q h
    ·rw[map_append,HE.ae,oZ.ae];rfl
   case measure=>exact Za1
  ·have fH:k=aL.length:=by omega
   subst fH;rw[take_length] at HE;go_wp2_with fail;exact bodyPost_ret (v:=u3) (by simp[results,Tryz.results12,go_sem]) rfl ⟨_,rfl,cl,HO.ae,HM.ae,HE.ae,hb⟩
variable{b:Nat}
theorem bI(h:w'.heap[b]?=w.heap[b]?)(o:Nat):w'.cell? ⟨b,o,none⟩=w.cell? ⟨b,o,none⟩:=by unfold World.cell?;dsimp only;rw[h]
def Kp (w:World)(gp:Nat)(us:List Value)(b:Nat):Prop:=b < w.heap.size/\b≠gp/\∀u∈us,u.ownBlock≠some b
def Mv (w:World)(u u':Value):Prop:=u'.ownBlock=u.ownBlock\/∀q,u'.ownBlock=some q->w.heap.size<=q
theorem Mv.refl (w:World)(u:Value):Mv w u u:=.inl rfl
variable{w1:World}{u1 u2:Value}
theorem Mv.trans(h:Mv w u u1)(k:Mv w1 u1 u2)(hs:w.heap.size<=w1.heap.size):Mv w u u2:=by
 rcases k with k | k
 ·rcases h with h | h
  ·exact .inl (k.trans h)
  ·exact .inr λ q hq=>h q (k▸hq)
 ·exact .inr λ q hq=>Nat.le_trans hs (k q hq)
variable{u':Value}
theorem Mv.ne(h:Mv w u u')(hb:b < w.heap.size)(hu:u.ownBlock≠some b):u'.ownBlock≠some b:=λ e=>by
 rcases h with h | h
 ·exact hu (h▸e)
 ·have:=h b e;omega
structure gK (gp:Nat) (w:World) (u v:Value) (w':World) (u' v':Value):Prop where
 os:w'.os=w.os
 tape:w'.tape=w.tape
 output:w'.output=w.output
 size:w.heap.size<=w'.heap.size
 block:∀k,Kp w gp [u,v] k->w'.heap[k]?=w.heap[k]?
 mu:Mv w u u'
 mv:Mv w v v'
variable{gp:Nat}
theorem ew:Kp w gp [u,v] b↔b < w.heap.size/\b≠gp/\u.ownBlock≠some b/\v.ownBlock≠some b:=by unfold Kp;simp
variable{v':Value}
theorem gK.kp(h:gK gp w u v w' u' v')(hb:Kp w gp [u,v] b):Kp w' gp [u',v'] b:=by rw[ew] at*;exact⟨Nat.lt_of_lt_of_le hb.1 h.size,hb.2.1,h.mu.ne hb.1 hb.2.2.1,h.mv.ne hb.1 hb.2.2.2⟩
theorem gK.refl (gp:Nat)(w:World)(u v:Value):gK gp w u v w u v:=⟨rfl,rfl,rfl,Nat.le_refl _,λ _ _=>rfl,.inl rfl,.inl rfl⟩
variable{w2:World}{v1 v2:Value}
theorem gK.trans(h:gK gp w u v w1 u1 v1)(k:gK gp w1 u1 v1 w2 u2 v2):gK gp w u v w2 u2 v2:=
 ⟨k.os.trans h.os,k.tape.trans h.tape,k.output.trans h.output,Nat.le_trans h.size k.size,λ b hb=>(k.block b (h.kp hb)).trans (h.block b hb),h.mu.trans k.mu h.size,h.mv.trans k.mv h.size⟩
theorem gK.later(h:gK gp w u v w1 u1 v1)(hb:aj w1 w2):gK gp w u v w2 u1 v1:=
 h.trans ⟨hb.os,hb.tape,hb.output,hb.size,λ k hk=>hb.block k hk.1,.inl rfl,.inl rfl⟩
theorem gK.own(h:gK gp w u v w1 u1 v1)(hb:w1.grownBy w2 (some q))(hq:w.heap.size<=q):gK gp w u v w2 u1 v1:=
 ⟨hb.os.trans h.os,hb.tape.trans h.tape,hb.output.trans h.output,Nat.le_trans h.size hb.size,λ k hk=>(hb.block k (Nat.lt_of_lt_of_le hk.1 h.size) λ e=>by injection e with e;have:=hk.1;omega).trans (h.block k hk),h.mu,h.mv⟩
variable{r:Value}
theorem gK.atC(h:gK gp w u v w1 u1 v1)(hb:w1.grownBy w2 r.ownBlock)(hq:∀q,r.ownBlock=some q->w.heap.size<=q):gK gp w u v w2 u1 v1:=
 ⟨hb.os.trans h.os,hb.tape.trans h.tape,hb.output.trans h.output,Nat.le_trans h.size hb.size,λ k hk=>(hb.block k (Nat.lt_of_lt_of_le hk.1 h.size) λ e=>by have:=hq k e.symm;have:=hk.1;omega).trans (h.block k hk),h.mu,h.mv⟩
theorem gK.low(h:gK gp w u v w' u' v')(hB:B<=w.heap.size)(hg:B<=gp)(hu:∀q,u.ownBlock=some q->B<=q)(hv:∀q,v.ownBlock=some q->B<=q):Below B w w':=
 ⟨h.os,h.tape,h.output,h.size,λ k hk=>h.block k (ew.2 ⟨by omega,by omega,λ e=>by have:=hu k e;omega,λ e=>by have:=hv k e;omega⟩)⟩
variable{y:Ex}
theorem gK.tree{t:Tr}  (h:gK gp w u v w' u' v')(ht:t.at_ w (λ b=>S b/\Kp w gp [u,v] b) y):t.at_ w' (λ b=>S b/\Kp w' gp [u',v'] b) y:=
 Tr.at_.keep (λ b hb=>⟨λ o=>bI (h.block b hb.2) o,hb.1,h.kp hb.2⟩) t y ht
theorem gK.trees{t:List Tr} {y:List Ex} (h:gK gp w u v w' u' v')(ht:Tr.aO w (λ b=>S b/\Kp w gp [u,v] b) t y):Tr.aO w' (λ b=>S b/\Kp w' gp [u',v'] b) t y:=
 Tr.aO.keep (λ b hb=>⟨λ o=>bI (h.block b hb.2) o,hb.1,h.kp hb.2⟩) t y ht
variable{α:Type}{f:α->List Value}{e:TypeId}
theorem gK.atD{size:Nat}   {l:List α}(h:gK gp w u v w' u' v')(ho:aI f e size w base r l)(hr:∀q,r.ownBlock=some q->Kp w gp [u,v] q):aI f e size w' base r l:=ho.keep λ g hg=>h.block g (hr g hg)
variable{t:TypeId}{cs:Array Value}
theorem gK.blk{g:Nat}    (h:gK gp w u v w' u' v')(ho:aB w g t cs)(hr:Kp w gp [u,v] g):aB w' g t cs:=(h.block g hr).trans ho
variable{us:List Value}
theorem D8{t:Tr} (h:t.at_ w (λ b=>S b/\Kp w gp us b) y):t.at_ w (Old w) y:=Tr.at_.keep (λ b hb=>⟨λ _=>rfl,hb.2.1⟩) t y h
theorem Tr.all_append:∀ {ts us:List Tr} {ys zs:List Ex},Tr.aO w S ts ys->Tr.aO w S us zs->Tr.aO w S (ts++us) (ys++zs)
 | [],us,ys,zs,h,k=>by unfold Tr.aO at h;subst h;exact k
 | t::ts,us,ys,zs,h,k=>by unfold Tr.aO at h;obtain⟨y,ys',rfl,h1,h2⟩:=h;rw[cons_append,cons_append];unfold Tr.aO;exact⟨y,ys'++zs,rfl,h1,Tr.all_append h2 k⟩
theorem Tr.fL{t:Tr} (h:t.at_ w S y):Tr.aO w S [t] [y]:=by unfold Tr.aO;refine⟨y,[],rfl,h,?_⟩;unfold Tr.aO;rfl
variable{P:Program}{rest:List Oper}{o:Oper}{a:Act}{Q:Exit->Act->World->Prop}
theorem nc{size:Nat}   {l:List α}  {ops:Array Oper}    (hgd:o.guard=none)(s x:Operand)(t:TypeId)
  (ho:o.op=.call { callee:=.builtin .append,args:= #[s,x],argTypes:= #[t,t] })
  (z:Value) (bytes:Nat) (ht:P.underlying t=some (.slice e)) (jm:(P.info? e).map (λ i=>(i.zero,i.size,i.bytes))=some (some z,size,bytes)) (hzs:z.cells.size=size) (hsz:0 < size)
  (y:α) (hf:(f y).length=size) (h1:∀u∈f y,u.oneCell'=true)
  (hs:a.eval s=v) (hown:aI f e size w base v l)
  (g:Nat) (hx:a.eval x=aH g 1 1) (hg:aB w g e (f y).toArray)
  (hlen:(l.length+1)*bytes<=140737488355328) (mJ:l.length+1<=140737488355328) (hbase:base<=w.heap.size)
  (h:∀v' w',aI f e size w' base v' (l++ [y])->w.grownBy w' v.ownBlock->Mv w v v'->wpList P ops Q rest (a.put o.dst v') w'):wpList P ops Q (o::rest) a w:=by
 obtain⟨i0,kZ,hz0,hz1,hz2⟩:=info_parts jm;refine cM w hgd s x t ho base e i0 z size bytes ht kZ hz0 hz1 hz2 hzs hsz v l.length (l.flatMap f) hs hown (g+1) (some ⟨g,0,none⟩) 1 1 (f y) hx ⟨by omega,λ _=>⟨_,rfl,Nat.lt_succ_self _,?_⟩⟩ h1 Tan hlen hbase ?_
 ·exact Ze0
 ·intro v' w' h2 h3 h4;refine h v' w' Zhd h3 ZfO
def acp (k:Int)(q:Qy)(L:QL):Array Value:= #[ag k,au,az,au,af 0,au,af 0,.slice L.i.A L.i.n L.i.c,.string q.bT,.bool q.only,.slice L.w.A L.w.n L.w.c,.slice L.g.A L.g.n L.g.c,.slice L.h.A L.h.n L.h.c,.slice L.o.A L.o.n L.o.c,.slice L.l.A L.l.n L.l.c,ag 0,au,af 0,af 0,az,az,az,ag 0,af 0,au,ag 0,af 0,au]
def Ns (q:Qy)(L:QL):Array Value:= #[ag 0,au,az,au,af 0,au,af 0,.slice L.i.A L.i.n L.i.c,.string q.bT,.bool q.only,.slice L.w.A L.w.n L.w.c,.slice L.g.A L.g.n L.g.c,.slice L.h.A L.h.n L.h.c,.slice L.o.A L.o.n L.o.c,.slice L.l.A L.l.n L.l.c,ag 0,au,af 0,af 0,az,az,az,ag 0,af 0,au,ag 0,af 0,au]
structure kt (w:World) (g:Nat) (cs:Array Value) (v:Value) (l:List Ex) (wr:World):Prop where
 own:aI bH 46 7 wr w.heap.size v l
 blk:aB wr g 27 cs
 low:aj w wr
variable{wr:World}
theorem kt.later{g:Nat}   {l:List Ex} (h:kt w g cs v l wr)(hb:aj wr w'):kt w g cs v l w':=⟨h.own.later hb,h.blk.later hb,Below.trans h.low (hb.mono h.low.size)⟩
def exK (w:World)(g:Nat)(cs:Array Value)(v0:Value)(acc l1 l2 l3:List Ex):List Value->World->Prop
 | [],wr=>kt w g cs v0 acc wr
 | [a],wr=>kt w g cs a (acc++l1) wr
 | [_,b],wr=>kt w g cs b (acc++l1++l2) wr
 | [_,_,c],wr=>kt w g cs c (acc++l1++l2++l3) wr
 | _,_=>False
theorem D9 (w:World)(g:Nat)(cs:Array Value)(v0:Value)(acc l1 l2 l3:List Ex):∀vs wr,exK w g cs v0 acc l1 l2 l3 vs wr->exK w g cs v0 acc l1 l2 l3 vs wr.drew
 | [],wr,h=>kt.later h (Below.refl _ _).drew
 | [a],wr,h=>kt.later h (Below.refl _ _).drew
 | [_,b],wr,h=>kt.later h (Below.refl _ _).drew
 | [_,_,c],wr,h=>kt.later h (Below.refl _ _).drew
 | _::_::_::_::_,wr,h=>h.elim
variable{v0:Value}{acc l1 l2 l3:List Ex}
theorem IW{g:Nat}   :∀vs wr,exK w g cs v0 acc l1 l2 l3 vs wr->aB wr g 27 cs
 | [],wr,h=>h.blk
 | [a],wr,h=>h.blk
 | [_,b],wr,h=>h.blk
 | [_,_,c],wr,h=>h.blk
 | _::_::_::_::_,wr,h=>h.elim
variable{m:List Ex}
theorem mm{g:Nat}   {l:List Ex} {A:Option Addr} {c:Nat}(h:kt w g cs v l wr)(hm:RE wr wr.heap.size A m)(hl:l.length+m.length<=4400000):
  ∃v' w',(Builtin.append_ #[23,23] 23 #[v,.slice A m.length c]).run Tryz.prog wr=.ok v' w'/\kt w g cs v' (l++m) w':=by obtain⟨i0,kZ,hz0,hz1,hz2⟩:=info_parts fI;obtain⟨v',w',h1,h2,h3,_⟩:=iV (P:=Tryz.prog) wr w.heap.size 23 23 46 i0 _ 7 88 Tryz.underlying23 kZ hz0 hz1 hz2 rfl WC v l.length (l.flatMap bH) h.own _ A m.length c (m.flatMap bH) hm.reads (PE m) Tan WC h.low.size;refine⟨v',w',h1,?_,h.blk.grown h3 (λ e=>h.own.other h.blk Tab e.symm),Below.trans h.low (br h.own h3 h.low.size)⟩;unfold aI;rw[length_append,flatMap_append];exact h2
theorem E0{l:List (Tr×Value)} {A:Option Addr} (h:eO w l A n):∃ys:List (Ex×Value),n=ys.length/\RI w w.heap.size A ys/\Tr.aO w (Old w) (l.map (·.1)) (ys.map (·.1)):=by obtain⟨hn,ys,h1,h2,h3⟩:=h;refine⟨ys,?_,h1,h3⟩;have:=congrArg List.length h2;simp at this;omega
variable{ts:List Tr}
theorem IX{A:Option Addr} (h:gI w ts A n):∃ys,n=ys.length/\RE w w.heap.size A ys/\Tr.aO w (Old w) ts ys:=by obtain⟨hn,ys,h1,h2⟩:=h;refine⟨ys,by rw[hn,Tr.aO.length h2],?_,h2⟩;exact ZcU
theorem uC{k:Int}(q:Qy)(L:QL)(w:World)(hq:pY w q L)(hlen:q.items.length+q.cD.length+q.aL.length+q.eU.length+q.ord.length<=1100000):
  ar 23 #[.agg (acp k q L)] w λ e w'=>∃v ys,e=.returned v/\aI bH 46 7 w' w.heap.size v ys/\Tr.aO w (Old w) q.all ys/\aj w w':=by
 obtain⟨zi,ni,hF,ti⟩:=E0 hq.i;obtain⟨zo,no,ih,eD⟩:=E0 hq.o;obtain⟨yw,nw,q1,tw⟩:=IX hq.w;obtain⟨yg,ng,q2,tg⟩:=IX hq.g;obtain⟨yh,nh,q3,th⟩:=IX hq.h;have q4:zi.length+yw.length+yg.length+yh.length+zo.length<=1100000:=by have a1:=Tr.aO.length ti;have a2:=Tr.aO.length eD;have a3:=Tr.aO.length tw;have a4:=Tr.aO.length tg;have a5:=Tr.aO.length th;simp at a1 a2;omega
 have BP:=aa (show Tr.aO w (Old w) q.all (zi.map (·.1)++yw++yg++yh++zo.map (·.1)) by
  unfold Qy.all
  have e1:q.items.map (·.1)=(q.items.map λ x=>(x.1,Value.string x.2)).map (·.1):=by rw[map_map];rfl
  have e2:q.ord.map (·.1)=(q.ord.map λ x=>(x.1,Value.bool x.2)).map (·.1):=by rw[map_map];rfl
  rw[e1,e2,<- append_assoc,<- append_assoc]
  exact Tr.all_append (Tr.all_append (Tr.all_append (Tr.all_append ti tw) tg) th) eD)
 have HF:=aa hF;have IH:=aa ih;have Q1:=aa q1;have HFN:=aa q2;have Q3:=aa q3;have Q4:=aa q4;obtain⟨i0,kZ,hg4,oy,HZ⟩:=info_parts fI;have HI:=aa kZ;have JO:=aa hg4;have Gi:=aa oy;have tD:=aa HZ;clear kZ hg4 oy HZ;unfold acp;rw[ni,no,nw,ng,nh];have b1:=ah w (.cells #[ag k,au,az,au,af 0,au,af 0,.slice L.i.A zi.length L.i.c,.string q.bT,.bool q.only,.slice L.w.A yw.length L.w.c,.slice L.g.A yg.length L.g.c,.slice L.h.A yh.length L.h.c,.slice L.o.A zo.length L.o.c,.slice L.l.A L.l.n L.l.c,ag 0,au,af 0,af 0,az,az,az,ag 0,af 0,au,ag 0,af 0,au] 64);have k1:=aB.new w 64 #[ag k,au,az,au,af 0,au,af 0,.slice L.i.A zi.length L.i.c,.string q.bT,.bool q.only,.slice L.w.A yw.length L.w.c,.slice L.g.A yg.length L.g.c,.slice L.h.A yh.length L.h.c,.slice L.o.A zo.length L.o.c,.slice L.l.A L.l.n L.l.c,ag 0,au,af 0,af 0,az,az,az,ag 0,af 0,au,ag 0,af 0,au];have eL:=aa b1;have c7:=k1.cell 7;have c8:=k1.cell 8;have c9:=k1.cell 9;have c10:=k1.cell 10;have c11:=k1.cell 11;have c12:=k1.cell 12;have XJ:=k1.cell 13;have c14:=k1.cell 14;have Rf:=k1.cell 19;have Rg:=k1.cell 20;have c21:=k1.cell 21;simp only[Uaa] at c7 c8 c9 c10 c11 c12 XJ c14 Rf Rg c21;clear hq hlen ni no nw ng nh hF ih q1 q2 q3 ti eD tw tg th q4 b1 k1;go_enter Tryz.func23,Tryz.ntmps23;go_upto_region 1 with fail;generalize w.alloc _=W1 at*;go_wp2_with fail;go_loopw [3,4] (λ v iv wr=>v=az/\iv=af 0/\wr=W1) (λ _ _ _=>0);case atStart=>exact⟨rfl,rfl,rfl⟩
 case round=>
  obtain⟨rfl,rfl,rfl⟩:=hrel;go_wp2_with fail;go_loopw [3,5] (λ v iv wr2=>v=az/\iv=af 0/\wr2=wr) (λ _ _ _=>0);case atStart=>exact⟨rfl,rfl,rfl⟩
  case round=>
   obtain⟨rfl,rfl,rfl⟩:=hrel;go_upto_region 12 with fail;clear c7 c8 c9 c10 c11 c12 XJ c14 Rf Rg c21;have b2:=ah wr (.cells #[.slice L.i.A zi.length L.i.c,.string q.bT,.bool q.only,.slice L.w.A yw.length L.w.c,.slice L.g.A yg.length L.g.c,.slice L.h.A yh.length L.h.c,.slice L.o.A zo.length L.o.c,.slice L.l.A L.l.n L.l.c] 27);have k2:=aB.new wr 27 #[.slice L.i.A zi.length L.i.c,.string q.bT,.bool q.only,.slice L.w.A yw.length L.w.c,.slice L.g.A yg.length L.g.c,.slice L.h.A yh.length L.h.c,.slice L.o.A zo.length L.o.c,.slice L.l.A L.l.n L.l.c];have HX:=aa (kt.mk aI.nil k2 (Below.trans eL.ae (b2.mono eL.ae.size)):kt w wr.heap.size _ (az) [] _);generalize wr.alloc (.cells #[.slice L.i.A zi.length L.i.c,.string q.bT,.bool q.only,.slice L.w.A yw.length L.w.c,.slice L.g.A yg.length L.g.c,.slice L.h.A yh.length L.h.c,.slice L.o.A zo.length L.o.c,.slice L.l.A L.l.n L.l.c] 27)=W2 at*;obtain⟨gq,IQ⟩:∃gq,gq=wr.heap.size:=⟨_,rfl⟩;rw[<- IQ] at HX ⊢;clear b2 k2 IQ eL;go_wp2_with fail;generalize wr=wz at*;go_loopw [3,7] (λ v iv wr=>∃(k:Nat),k<=zi.length/\iv=af k/\kt w gq #[.slice L.i.A zi.length L.i.c,.string q.bT,.bool q.only,.slice L.w.A yw.length L.w.c,.slice L.g.A yg.length L.g.c,.slice L.h.A yh.length L.h.c,.slice L.o.A zo.length L.o.c,.slice L.l.A L.l.n L.l.c] v ((zi.take k).map (·.1)) wr) (λ _ iv _=>zi.length - (intOf iv).toNat);case atStart=>exact⟨0,Nat.zero_le _,rfl,HX.ae⟩
   case round=>
    obtain⟨k,hk,rfl,hx⟩:=hrel;have Xs:=aa hx;have Kx:=hx.blk.cell 0;simp only[getElem?_toArray,getElem?_cons_zero] at Kx;have hk9:k<=1100000:=by have:=Q4.ae;omega
    clear hx HX;by_cases Y0:k < zi.length
    ·obtain⟨b,off,hA,kF,hex⟩:∃b off,L.i.A=some ⟨b,off,none⟩/\b < w.heap.size/\cw w b (off+k*8) zi[k].1:=by
      rcases HF.ae with h |⟨b,off,h1,h2,h3⟩
      ·rw[h] at Y0;simp at Y0
      ·exact Zhr
     have iB:=hex.keep (λ o=>Xs.ae.low.cell (p:=⟨b,o,none⟩) kF);have oZ:=aa (show(zi.take (k+1)).map (·.1)=(zi.take k).map (·.1)++ [zi[k].1] by rw[take_add_one,getElem?_eq_getElem Y0,map_append];rfl);have xp:((zi.take k).map (·.1)).length=k:=by rw[length_map,length_take];omega
     generalize zi[k].1=y at*;generalize (zi.take k).map (·.1)=acc at*;unfold cw at iB;obtain⟨A3,c3,hv3,_⟩:=Xs.ae.own.reads;rw[xp] at hv3;subst hv3;rw[hA] at Kx;clear hA;have bN:=ah wr (.cells (ay y) 46);have hG:=aB.new wr 46 (ay y);have kG:=aa (Xs.ae.later bN);have HG:=aa hG;have hbase:=kG.ae.low.size;clear bN hG hex kF;go_wp2_with (first
      |(at_builtin
        refine aU (f:=bH) rfl (.tmp 52) (.tmp 59) 23 rfl _ 88 Tryz.underlying23 fI rfl WC y rfl (by intro u hu;simp[bH] at hu;rcases hu with rfl | rfl | rfl | rfl | rfl | rfl | rfl <;> rfl) rfl kG.ae.own wr.heap.size rfl HG.ae WC WC hbase ?_
        intro v4 w4 o4 g4
        have O4:=aa (kt.mk o4 (kG.ae.blk.grown g4 (λ e=>kG.ae.own.other kG.ae.blk Tab e.symm)) (Below.trans kG.ae.low (br kG.ae.own g4 hbase)))
        clear o4 g4))
     exact Zf3
    ·have fH:k=zi.length:=by omega
     subst fH;have Vg:=aa (show kt w gq _ u3 (zi.map (·.1)) wr by have h1:=Xs.ae;rwa [take_length] at h1);have hlz:(zi.map (·.1)).length=zi.length:=length_map _;have HLZ:=aa hlz;obtain⟨acc,abS⟩:∃acc,acc=zi.map (·.1):=⟨_,rfl⟩;rw[<- abS] at Vg HLZ BP;clear abS;obtain⟨A3,c3,hv3,_⟩:=Vg.ae.own.reads;subst hv3;clear Xs hlz;go_upto_region 16 with fail;clear Kx;obtain⟨cs,hcs⟩:∃cs:Array Value,cs= #[.slice L.i.A zi.length L.i.c,.string q.bT,.bool q.only,.slice L.w.A yw.length L.w.c,.slice L.g.A yg.length L.g.c,.slice L.h.A yh.length L.h.c,.slice L.o.A zo.length L.o.c,.slice L.l.A L.l.n L.l.c]:=⟨_,rfl⟩;have hk3:cs[3]?=some (.slice L.w.A yw.length L.w.c):=by rw[hcs];rfl
     have hk4:cs[4]?=some (.slice L.g.A yg.length L.g.c):=by rw[hcs];rfl
     have hk5:cs[5]?=some (.slice L.h.A yh.length L.h.c):=by rw[hcs];rfl
     have rF:=aa (show kt w gq cs (.slice A3 acc.length c3) acc wr by rw[hcs];exact Vg.ae);have Nt:=aa hcs;clear hcs Vg;refine LU (P:=Tryz.prog) (J:=exK w gq cs (.slice A3 acc.length c3) acc yw yg yh) (q:=6) (s:=3) (d0:=61) (d1:=62) (d2:=63) (d3:=64) (d4:=65) (d5:=66) (d6:=67) (d7:=68) (d8:=69) (d9:=70) (pq:=aw gq) (v0:=.slice A3 acc.length c3) (p1:=bh gq 3) (p2:=bh gq 4) (p3:=bh gq 5) (s1:=.slice L.w.A yw.length L.w.c) (s2:=.slice L.g.A yg.length L.g.c) (s3:=.slice L.h.A yh.length L.h.c) (A1:=⟨gq,3,none⟩) (A2:=⟨gq,4,none⟩) (A3:=⟨gq,5,none⟩) 23 (D9 _ _ _ _ _ _ _ _) rF.ae Taa Taa Taa Taa Taa rfl rfl ?_ ?_ ?_ ?_ (λ vs w' h=>⟨((IW vs w' h).cell 3).trans hk3,((IW vs w' h).cell 4).trans hk4,((IW vs w' h).cell 5).trans hk5⟩) ?_ ?_ ?_ ?_ ?_ ?_ ?_ ?_ ?_ ?_
     ·exact Zb7
     ·exact Zb7
     ·exact Zb7
     ·exact Zb7
     ·exact Zdy
     ·exact Zdy
     ·exact Zdy
     ·exact ZgJ
     ·exact ZgJ
     ·exact ZgJ
     ·intro w5 KK;exact mm KK ((Q1.ae.below (show kt w gq cs _ acc w5 from KK).low).more (show kt w gq cs _ acc w5 from KK).low.size) (by have:=Q4.ae;have:=HLZ.ae;omega)
     ·intro a w5 KK;have KK:kt w gq cs a (acc++yw) w5:=KK;exact mm KK ((HFN.ae.below KK.low).more KK.low.size) (by have:=Q4.ae;have:=HLZ.ae;rw[length_append];omega)
     ·intro a b w5 KK;have KK:kt w gq cs b (acc++yw++yg) w5:=KK;exact mm KK ((Q3.ae.below KK.low).more KK.low.size) (by have:=Q4.ae;have:=HLZ.ae;rw[length_append,length_append];omega)
     intro va vb vc W7 hX7;have SV:=aa (show kt w gq cs vc (acc++yw++yg++yh) W7 from hX7);clear hX7 rF hk3 hk4 hk5;have Ai:=aa (show(acc++yw++yg++yh).length=zi.length+yw.length+yg.length+yh.length by simp only[length_append,HLZ.ae]);obtain⟨PH,afc⟩:∃PH,PH=acc++yw++yg++yh:=⟨_,rfl⟩;rw[<- afc] at SV Ai BP;clear afc;have A4:cs[6]?=some (.slice L.o.A zo.length L.o.c):=by rw[Nt.ae];rfl
     have HC6:=aa A4;clear A4 Nt;simp only[Act.put,Uac];go_wp2_with fail;generalize wr=wy at*;go_loopw [3,8] (λ v iv wr=>∃(k:Nat),k<=zo.length/\iv=af k/\kt w gq cs v (PH++(zo.take k).map (·.1)) wr) (λ _ iv _=>zo.length - (intOf iv).toNat);case atStart=>exact⟨0,Nat.zero_le _,rfl,by rw[take_zero,map_nil,append_nil];exact SV.ae⟩
     case round=>
      clear SV;obtain⟨k,hk,rfl,hx⟩:=hrel;have Xs:=aa hx;have c6:=(hx.blk.cell 6).trans HC6.ae;have hk9:k<=1100000:=by have:=Q4.ae;omega
      clear hx;by_cases Y0:k < zo.length
      ·obtain⟨b,off,hA,kF,hex⟩:∃b off,L.o.A=some ⟨b,off,none⟩/\b < w.heap.size/\cw w b (off+k*8) zo[k].1:=by
        rcases IH.ae with h |⟨b,off,h1,h2,h3⟩
        ·rw[h] at Y0;simp at Y0
        ·exact Zhr
       have iB:=hex.keep (λ o=>Xs.ae.low.cell (p:=⟨b,o,none⟩) kF);have oZ:=aa (show PH++(zo.take (k+1)).map (·.1)=PH++(zo.take k).map (·.1)++ [zo[k].1] by rw[take_add_one,getElem?_eq_getElem Y0,map_append,append_assoc];rfl);have xp:(PH++(zo.take k).map (·.1)).length<=2200000:=by have:=Ai.ae;have:=Q4.ae;rw[length_append,length_map,length_take];omega
       generalize zo[k].1=y at*;generalize PH++(zo.take k).map (·.1)=acc at*;unfold cw at iB;obtain⟨A3,c3,hv3,_⟩:=Xs.ae.own.reads;subst hv3;rw[hA] at c6;clear hA;have bN:=ah wr (.cells (ay y) 46);have hG:=aB.new wr 46 (ay y);have kG:=aa (Xs.ae.later bN);have HG:=aa hG;have hbase:=kG.ae.low.size;clear bN hG hex kF;go_wp2_with (first
        |(at_builtin
          refine aU (f:=bH) rfl (.tmp 78) (.tmp 85) 23 rfl _ 88 Tryz.underlying23 fI rfl WC y rfl (by intro u hu;simp[bH] at hu;rcases hu with rfl | rfl | rfl | rfl | rfl | rfl | rfl <;> rfl) rfl kG.ae.own wr.heap.size rfl HG.ae WC WC hbase ?_
          intro v4 w4 o4 g4
          have O4:=aa (kt.mk o4 (kG.ae.blk.grown g4 (λ e=>kG.ae.own.other kG.ae.blk Tab e.symm)) (Below.trans kG.ae.low (br kG.ae.own g4 hbase)))
          clear o4 g4))
       exact Zf3
      ·have fH:k=zo.length:=by omega
       subst fH;rw[take_length] at Xs;go_wp2_with fail;go_ret;exact⟨_,_,rfl,Xs.ae.own,BP.ae,Xs.ae.low⟩
def LZ (w:World)(B:Nat)(A:Option Addr)(gs:List Nat):Prop:=gs=[]\/∃g,A=some ⟨g,0,none⟩/\g < B/\∀(i:Nat) q,gs[i]?=some q->w.cell? ⟨g,i,none⟩=some (aw q)
theorem LZ.later{A:Option Addr} {l:List Nat}(h:LZ w w.heap.size A l)(hb:aj w w'):LZ w' w'.heap.size A l:=by
 rcases h with h |⟨g,h1,h2,h3⟩
 ·exact .inl h
 ·exact .inr ⟨g,h1,Nat.lt_of_lt_of_le h2 hb.size,λ i x hx=>(hb.cell (p:=⟨g,i,none⟩) h2).trans (h3 i x hx)⟩
theorem LZ.at_{A:Option Addr} {l:List Nat}(h:LZ w B A l) {k:Nat}(hk:k < l.length):∃g,A=some ⟨g,0,none⟩/\g < B/\w.cell? ⟨g,k,none⟩=some (.pointer (some ⟨l[k],0,none⟩)):=by
 rcases h with h |⟨g,h1,h2,h3⟩
 ·subst h;simp at hk
 ·exact⟨g,h1,h2,h3 k l[k] (getElem?_eq_getElem hk)⟩
variable{gs:List Nat}
theorem wD(h:aI cY e 1 w base v gs):∃A c,v=.slice A gs.length c/\gs.length<=c/\LZ w w.heap.size A gs:=by
 obtain⟨A0,c0,e0,_,hle,_⟩:=h.reads;obtain⟨A,c,rfl,h1⟩:=ej (f:=cY) (size:=1) (λ _=>rfl) h;injection e0 with _ _ e0;refine⟨A,c,rfl,by rw[e0];exact hle,?_⟩;rcases h1 with h1 |⟨g,h1,h2,h3⟩
 ·exact .inl h1
 ·refine .inr ⟨g,h1,h2,λ i q hq=>?_⟩;have:=h3 i q 0 _ hq WC rfl;exact Ze5
theorem PI (gg:Nat)(KA tA:Option Addr)(k t:List Val)(kc tc:Nat)(w:World)(hg:gg < w.heap.size)(hk:w.cell? ⟨gg,0,none⟩=some (.slice KA k.length kc))(hK:RV w w.heap.size KA k)(hT:RV w w.heap.size tA t)(hl:k.length<=1000)(ht:t.length<=1000):
  ar 65 #[aw gg,.slice tA t.length tc] w λ e w'=>e=.returned (af (bX k t))/\aj w w':=by have HR:=vJ KA kc k tA tc t w hK hT hl ht;clear hK hT hl ht;go_enter Tryz.func65,Tryz.ntmps65;go_wp2_with fail;refine HR.mono ?_;rintro e w1 ⟨rfl,b1⟩;clear HR hk;go_wp2_with fail;go_ret;exact⟨rfl,b1⟩
def Cm (n:Nat)(c:Nat->Int)(w:World)(e:Ending)(w':World):Prop:=∃k:Nat,k<=n/\e=.returned (.tuple #[af k,.bool (decide (k < n)&& decide (c k=0))])/\(∀i,i < k->c i < 0)/\(∀i,k<=i->i < n->0<=c i)/\aj w w'
theorem zes.KaR(h:p:=by
 have Ek:m < gs.length:=by have:=HN.ae;omega
 obtain⟨g,rfl,hg,Kx⟩:=HA.ae.at_ Ek;have hz:=(hb.cell (p:=⟨g,m,none⟩) hg).trans Kx;have hex:=HE.ae m Ek _ hb;have HML:=aa Ek;generalize gs[m]=q at*;clear Kx hg Ek;go_wp2_with fail;refine hex.mono ?_;rintro e w1 ⟨rfl,b1⟩;have hb1:=ai.then hb b1;clear hex hz b1 hb;by_cases hc:c m < 0
 ·go_wp2_with fail;go_roundw;case rel=>exact⟨m+1,j,by omega,hj,by go_num,rfl,λ t ht=>HL.ae t m WC HML.ae hc,HHI.ae,hb1⟩
  case measure=>exact Za1
 ·go_wp2_with fail;go_roundw;case rel=>exact⟨i,m,by omega,by omega,rfl,rfl,E1.ae,λ t h1 h2=>Int.not_lt.1 λ h=>absurd (HL.ae m t h1 Tbl h) WC,hb1⟩
  case measure=>exact Za1):p:=h
theorem PJ (gs:List Nat)(SA tA:Option Addr)(sc tn tc:Nat)(c:Nat->Int)(w:World)(hn:gs.length<=1000000)(hA:LZ w w.heap.size SA gs)
  (hE:∀i (h:i < gs.length),∀W,aj w W->ar 65 #[.pointer (some ⟨gs[i],0,none⟩),.slice tA tn tc] W λ e w'=>e=.returned (af (c i))/\aj W w')
  (hm:∀i j,i<=j->j < gs.length->c j < 0->c i < 0):
  ar 64 #[.slice SA gs.length sc,.slice tA tn tc,.func (.func 65) #[] #[]] w (Cm gs.length c w):=by
 have HA:=aa hA;have HE:=aa hE;have HL:=aa hm;clear hA hE hm;obtain⟨n,ug⟩:∃n,n=gs.length:=⟨_,rfl⟩;have HN:=aa ug;rw[<- ug] at hn ⊢;clear ug;go_enter Tryz.func64,Tryz.ntmps64;go_wp2_with fail;go_loopw [9,10] (λ lo hi wr=>∃i j:Nat,i<=j/\j<=n/\lo=af i/\hi=af j/\(∀t,t < i->c t < 0)/\(∀t,j<=t->t < n->0<=c t)/\aj w wr) (λ lo hi _=>(intOf hi).toNat - (intOf lo).toNat);case atStart=>exact⟨0,n,Nat.zero_le _,Nat.le_refl _,rfl,rfl,λ t h=>by omega,λ t h1 h2=>by omega,Below.refl _ _⟩
 case round=>
  obtain⟨i,j,nP,hj,rfl,rfl,fG,hhi,hb⟩:=hrel;have E1:=aa fG;have HHI:=aa hhi;clear fG hhi;by_cases hlt:i < j
  ·go_upto_region 5 with fail;open zes in exact Zch
  ·have E3:j=i:=by omega
   subst E3;by_cases zu:j < n
   ·have Ek:j < gs.length:=by have:=HN.ae;omega
    obtain⟨g,rfl,hg,Kx⟩:=HA.ae.at_ Ek;have hz:=(hb.cell (p:=⟨g,j,none⟩) hg).trans Kx;have hex:=HE.ae j Ek _ hb;generalize gs[j]=q at*;clear Kx hg Ek hlt;go_wp2_with fail;refine hex.mono ?_;rintro e w1 ⟨rfl,b1⟩;have hb1:=ai.then hb b1;clear hex hz b1 hb;by_cases hc:c j=0
    ·have t1:(c j==0)=true:=by simp[hc]
     go_wp2_with fail;exact bodyPost_ret (v:=.tuple #[af j,.bool true]) TaJ rfl ⟨j,hj,by rw[decide_eq_true zu,decide_eq_true hc];rfl,E1.ae,HHI.ae,hb1⟩
    ·have t1:(c j==0)=false:=by simp[hc]
     go_wp2_with fail;exact bodyPost_ret (v:=.tuple #[af j,.bool false]) TaJ rfl ⟨j,hj,by rw[decide_eq_true zu,decide_eq_false hc];rfl,E1.ae,HHI.ae,hb1⟩
   ·clear hlt;go_wp2_with fail;exact bodyPost_ret (v:=.tuple #[af j,.bool false]) TaJ rfl ⟨j,hj,by rw[decide_eq_false zu];rfl,E1.ae,HHI.ae,hb⟩
structure pD (w w':World) (qs:List Nat):Prop where
 os:w'.os=w.os
 tape:w'.tape=w.tape
 output:w'.output=w.output
 size:w.heap.size<=w'.heap.size
 block:∀k,k < w.heap.size->k∉qs->w'.heap[k]?=w.heap[k]?
theorem pD.refl (w:World)(qs:List Nat):pD w w qs:=⟨rfl,rfl,rfl,Nat.le_refl _,λ _ _ _=>rfl⟩
theorem pD.below{qs:List Nat}(h:pD w w1 qs)(hb:aj w1 w2):pD w w2 qs:=
 ⟨hb.os.trans h.os,hb.tape.trans h.tape,hb.output.trans h.output,Nat.le_trans h.size hb.size,λ k hk hn=>(hb.block k (Nat.lt_of_lt_of_le hk h.size)).trans (h.block k hk hn)⟩
theorem pD.grown{qs:List Nat} (h:pD w w1 qs)(hq:q∈qs)(hb:w1.grownBy w2 (some q)):pD w w2 qs:=
 ⟨hb.os.trans h.os,hb.tape.trans h.tape,hb.output.trans h.output,Nat.le_trans h.size hb.size,λ k hk hn=>(hb.block k (Nat.lt_of_lt_of_le hk h.size) λ e=>by injection e with e;subst e;exact hn hq).trans (h.block k hk hn)⟩
theorem pD.blk{qs:List Nat} {g:Nat}  (h:pD w w' qs)(hg:aB w g t cs)(hn:g∉qs):aB w' g t cs:=(h.block g hg.lt hn).trans hg
theorem pD.low{qs:List Nat} (h:pD w w' qs)(hB:B<=w.heap.size)(hq:∀q∈qs,B<=q):Below B w w':=
 ⟨h.os,h.tape,h.output,h.size,λ k hk=>h.block k (Nat.lt_of_lt_of_le hk hB) λ hm=>by have:=hq k hm;omega⟩
structure RVq (w:World) (qs:List Nat) (A:Option Addr) (l:List Val):Prop where
 rv:RV w w.heap.size A l
 off:∀a,A=some a->a.block∉qs
variable{l:List Val}
theorem RVq.turn{qs:List Nat} {A:Option Addr} (h:RVq w qs A l)(ht:pD w w' qs):RV w' w'.heap.size A l:=by
 rcases h.rv with h0 |⟨b,off,rfl,hb,hc⟩
 ·exact .inl h0
 ·refine .inr ⟨b,off,rfl,Nat.lt_of_lt_of_le hb ht.size,λ i x hx=>(hc i x hx).keep λ o=>bI (ht.block b hb (h.off _ rfl)) o⟩
def eQ (A:Option Addr)(c n:Nat):Option Addr:=if c=n then A else A.map (·.add (n*3))
theorem RV.SX{A:Option Addr} (h:RV w B A l)(n c:Nat)(hc:l.length<=c):RV w B (eQ A c n) (l.drop n):=by
 unfold eQ;rcases h with h0 |⟨b,off,rfl,hb,hx⟩
 ·subst h0;exact .inl Tad
 ·split
  ·left;rw[drop_eq_nil_iff];omega
  ·refine .inr ⟨b,off+n*3,by simp[et],hb,λ i x hi=>?_⟩;rw[getElem?_drop] at hi;have:=hx (n+i) x hi;rw[show off+n*3+i*3=off+(n+i)*3 by omega];exact this
theorem RV.E4{A:Option Addr} (h:RV w B A l)(n:Nat):RV w B A (l.take n):=by
 rcases h with h0 |⟨b,off,rfl,hb,hx⟩
 ·subst h0;exact .inl Tad
 ·refine .inr ⟨b,off,rfl,hb,λ i x hi=>?_⟩;rw[getElem?_take] at hi;split at hi
  ·exact hx i x hi
  ·cases hi
theorem xV{qs:List Nat} {A:Option Addr} {c:Nat}(h:∀a,A=some a->a.block∉qs):∀a,eQ A c n=some a->a.block∉qs:=by
 intro a ha;unfold eQ at ha;split at ha
 ·exact h a ha
 ·cases A with
  | none=>cases ha
  | some ad=>simp only[Option.map_some,Option.some.injEq] at ha;rw[<- ha,vq];exact h ad rfl
theorem Cn (u:World):(sizeOf (Tryz.prog.elem 38)).run Tryz.prog u=.ok 3 u:=by exact Zgx
theorem sR (a:Addr):a.add 0=a:=by obtain⟨b,o,s⟩:=a;unfold Addr.add;split <;> simp_all
theorem sS (A1:Option Addr)(n c1 k:Nat)(hk:k<=n)(u:World):(Instr.slice 38 (.slice A1 n c1) (some (af k)) none none).run Tryz.prog u=.ok (.slice (eQ A1 c1 k) (n - k) (c1 - k)) u:=by unfold eQ;rw[run_slice_l u 38 A1 n c1 Tryz.underlying38 .i64 k WC WC,Cn];simp[sliced]
theorem Vh (A1:Option Addr)(n c1 k:Nat)(hk:k<=c1)(u:World):(Instr.slice 38 (.slice A1 n c1) none (some (af k)) none).run Tryz.prog u=.ok (.slice A1 k c1) u:=by rw[run_slice_h u 38 A1 n c1 Tryz.underlying38 .i64 k WC WC,Cn];exact Zhg
theorem Gd (A1:Option Addr)(n c1 k m:Nat)(hk:k<=m)(hm:m<=c1)(u:World):(Instr.slice 38 (.slice A1 n c1) none (some (af k)) (some (af m))).run Tryz.prog u=.ok (.slice A1 k m) u:=by rw[run_slice_hm u 38 A1 n c1 Tryz.underlying38 .i64 .i64 k m WC WC WC,Cn];exact Zhg
theorem Ep (w:World)(ty:TypeId)(g:Nat)(t:TypeId)(cur:Array Value)(A:Option Addr)(l:List Val)(c dl dc:Nat)(hg:aB w g t cur)(pE:l.length*3<=cur.size)(hl:l.length<=dl)(hR:Reads w w.heap.size 3 A l.length (l.flatMap aV)):
  (Builtin.copy_ #[38,38] ty #[aH g dl dc,.slice A l.length c]).run Tryz.prog w=.ok (goInt l.length) (w.setRow g (l.flatMap aV++cur.toList.drop (l.length*3)).toArray):=by
 have hn:Nat.min l.length dl=l.length:=Nat.min_eq_left hl;have Hp:=KE l;have hst:=run_storeCells_at Tryz.prog g 0 t (l.flatMap aV) 0 cur w hg (by rw[Hp];simpa using pE) (val_one l);simp only[Nat.zero_add,take_zero,nil_append,Hp] at hst;have hsz:∀u:World,(sizeOf 44).run Tryz.prog u=.ok 3 u:=λ u=>by kernel_rfl
 cases A with
 | none=>
   have h0:l=[]:=by
    cases l with
    | nil=>rfl
    | cons x xs=>obtain⟨a,ha,_⟩:=hR.2 Tad;cases ha
   subst h0;simp[Builtin.copy_,run_underlying Tryz.underlying38,Builtin.lenOf,Builtin.firstCells,hsz,storeCells];rw[setRow_self w g cur t (0,0) hg]
 | some a=>
   have Z9:=run_loadCells_list (P:=Tryz.prog) w a (l.flatMap aV) (by
    intro j v hj
    cases l with
    | nil=>simp at hj
    | cons x xs=>
      obtain⟨a2,ha,hb,hc⟩:=hR.2 Tad
      injection ha with ha
      subst ha
      exact hc j v hj)
   rw[Hp] at Z9;simp[Builtin.copy_,run_underlying Tryz.underlying38,Builtin.lenOf,Builtin.firstCells,hsz,hn,Z9,hst]
def lg (l:List Val):Val×Val:=(l.getD 0 aN,l.getD 1 aN)
variable{h:Nat}{ds:Array Value}
theorem kS{g:Nat} {u:TypeId} (hg:aB w g t cs)(hh:aB w h u ds)(hn:t≠u):g≠h:=λ e=>by subst e;have h1:w.heap[g]?=some (.cells cs t (0,0)):=hg;have h2:w.heap[g]?=some (.cells ds u (0,0)):=hh;rw[h1] at h2;injection h2 with h2;injection h2 with _ h2 _;exact hn h2
def nd:Array Value:= #[ag 0,af 0,au,ag 0,af 0,au]
def Co (a b:Val):Array Value:= #[ag a.k,af a.n,.string a.s,ag b.k,af b.n,.string b.s]
theorem zV{ops:Array Oper}     (hgd:o.guard=none)(d s:Operand)
  (ho:o.op=.call { callee:=.builtin .copy,args:= #[d,s],argTypes:= #[38,38] }) (g:Nat) (A:Option Addr) (l:List Val) (c dc n:Nat) (hd:a.eval d=aH g 2 dc) (hs:a.eval s=.slice A n c) (hn:n=l.length)
  (hg:aB w g 187 nd) (hl:l.length<=2) (hR:RV w w.heap.size A l)
  (h:∀w' u,aB w' g 187 (Co (lg l).1 (lg l).2)->w.grownBy w' (some g)->wpList Tryz.prog ops Q rest (a.put o.dst u) w'):wpList Tryz.prog ops Q (o::rest) a w:=by
 subst hn;refine wpList_plain hgd λ K hK=>?_
 have hrun:=Ep w o.type g 187 nd A l c 2 dc hg (by show l.length*3<=6;omega) hl hR.reads;unfold Oper.wp;simp[execOp,ho,resolve,invoke,builtin,hd,hs,hrun,Result.andThen];refine hK _ _ (h _ _ ?_ ⟨rfl,rfl,rfl,by simp[World.setRow],λ k hk hne=>setRow_other w g k _ (λ e=>hne Tbb)⟩);have:=setRow_heap w g nd (l.flatMap aV++nd.toList.drop (l.length*3)).toArray 187 (0,0) hg;refine Eq.trans this ?_
 match l,hl with
 | [],_=>rfl
 | [x],_=>rfl
 | [x,y],_=>rfl
def mn:List Nat->List Val->List (Val×Val)
 | [],_=> []
 | n::ns,l=>lg (l.take n)::mn ns (l.drop n)
def Ma:List Nat->Nat
 | []=>0
 | n::ns=>n+Ma ns
def eA (ss:List St)(ps:List (Val×Val)):List St:=List.zipWith (λ s p=>s.feed p.1 p.2) ss ps
theorem dE.put{k:Nat} {qs:List Nat} {ss:List St} (h:dE w B qs ss)(hq:qs[k]?=some q)(hg:w.grownBy w' (some q))(hs:cC w' q s):dE w' B qs (ss.set k s):=by
 have Ah:k < qs.length:=by
  rcases Nat.lt_or_ge k qs.length with h1 | h1
  ·exact h1
  ·rw[getElem?_eq_none h1] at hq;cases hq
 refine⟨by rw[length_set];exact h.len,λ i r t hr ht=>?_,λ r hr=>⟨(h.low r hr).1,Nat.lt_of_lt_of_le (h.low r hr).2 hg.size⟩,h.apart⟩;by_cases hik:i=k
 ·subst hik;rw[hq] at hr;injection hr with hr;rw[getElem?_set_self (by rw[<- h.len];exact Ah)] at ht;injection ht with ht;subst hr ht;exact hs
 ·rw[getElem?_set_ne (Ne.symm hik)] at ht
  have hne:q≠r:=λ e=>by
   subst e
   have rZ:i < qs.length:=by
    rcases Nat.lt_or_ge i qs.length with h1 | h1
    ·exact h1
    ·rw[getElem?_eq_none h1] at hr;cases hr
   rw[getElem?_eq_getElem rZ] at hr;rw[getElem?_eq_getElem Ah] at hq;injection hr with hr;injection hq with hq;rcases Nat.lt_or_ge i k with hlt | vt
   ·exact List.pairwise_iff_getElem.1 h.apart i k rZ Ah hlt (hr.trans hq.symm)
   ·exact List.pairwise_iff_getElem.1 h.apart k i Ah rZ WC (hq.trans hr.symm)
  exact(hg.block r (h.low r (mem_of_getElem? hr)).2 (λ e=>by injection e with e;exact hne e.symm)).trans (h.at_ i r t hr ht)
theorem dE.tQ{qs:List Nat} {ss:List St} {g:Nat}  (h:dE w B qs ss)(hg:aB w g t cs)(ht:t≠199):g∉qs:=λ hm=>by obtain⟨i,hi,he⟩:=getElem_of_mem hm;have h1:=h.at_ i g (ss[i]' TaK) Tax (getElem?_eq_getElem _);unfold cC aB at h1;unfold aB at hg;rw[hg] at h1;injection h1 with h1;injection h1 with _ h1 _;exact ht h1
def d4V (g7 g8 m c1 n yc:Nat)(A1 yA:Option Addr):Nat->World->Value->Prop
 | 0,_,v=>v=aH g8 2 2
 | 1,_,v=>v=.slice A1 m c1
 | 2,_,v=>v=bh g7 6
 | 3,_,v=>v=.slice yA n yc
 | 4,_,v=>v=af n
 | 5,_,v=>v=.slice A1 n c1
 | _,_,_=>False
theorem Vi (g7 g8 m c1 n yc:Nat)(A1 yA:Option Addr):∀i w w' v,d4V g7 g8 m c1 n yc A1 yA i w v->ai w w'->d4V g7 g8 m c1 n yc A1 yA i w' v:=by
 intro i w w' v h hl
 match i with
 | 0 | 1 | 2 | 3 | 4 | 5=>exact h
 | n+6=>exact h
def d6V (gg g8 sb sn sc k q:Nat)(a b:Val):Nat->World->Value->Prop
 | 0,_,v=>v=aw gg
 | 1,_,v=>v=aw gg
 | 2,_,v=>v=bh gg 1
 | 3,_,v=>v=aH sb sn sc
 | 4,_,v=>v=af k
 | 5,_,v=>v=bh sb k
 | 6,_,v=>v=aw q
 | 7,_,v=>v=aw g8
 | 8,_,v=>v=.agg (aD a)
 | 9,_,v=>v=bh g8 3
 | 10,_,v=>v=.agg (aD b)
 | _,_,_=>False
theorem Vj (gg g8 sb sn sc k q:Nat)(a b:Val):∀i w w' v,d6V gg g8 sb sn sc k q a b i w v->ai w w'->d6V gg g8 sb sn sc k q a b i w' v:=by exact Zdr
theorem zcP.Kax(h:p:=by
 have amQ:=aa (λ q hq=>(hS.low q hq).1);clear nX XN hS hR hc fM aZ hv hF ih q1 q2 q3 q4 q5 Av B3 hz hcw Nk;go_enter Tryz.func67,Tryz.ntmps67;go_wp2_with fail;clear Tp;go_loopw [2,14] (λ v i wr=>∃(j:Nat) (A1:Option Addr) (c1:Nat) (rem:List Val),j<=ys.length/\i=af j/\v=.slice A1 rem.length c1/\RVq w qs A1 rem/\rem.length<=c1/\rem.length<=1000000/\(∀v∈rem,v.Ok)/\mn ((ys.map Ex.n).drop j) rem=ps.drop j/\Ma ((ys.map Ex.n).drop j)<=rem.length/\dE wr B qs ((eA ss ps).take j++ss.drop j)/\pD w wr qs) (λ _ i _=>ys.length - (intOf i).toNat);case atStart=>exact⟨0,A0,Lw,l,Nat.zero_le _,rfl,rfl,HR.ae,HC.ae,F7.ae,HV.ae,sT.ae,PK.ae,HS0.ae,pD.refl _ _⟩
 case round=>
  clear HS0 sT PK HR HC HV F7;obtain⟨j,A1,c1,rem,hk,rfl,rfl,hR,hc,Nk,hv,nX,XN,hS,hT⟩:=hrel;have HS:=aa hS;have HT:=aa hT;have HR:=aa hR;have HC:=aa hc;have HV:=aa hv;have sT:=aa nX;have PK:=aa XN;have F7:=aa Nk;clear hS hT hR hc hv nX XN Nk;by_cases hlt:j < ys.length
  ·obtain⟨b,off,rfl,kF,hex⟩:=(HF.ae.below (HT.ae.low GI.ae amQ.ae)).at_ hlt;have fM:=HY2.ae ys[j] (getElem_mem hlt);have hdr:(ys.map Ex.n).drop j=ys[j].n::(ys.map Ex.n).drop (j+1):=by rw[drop_eq_getElem_cons Tao];simp
   rw[hdr] at sT PK;have hp0:ps.drop j=lg (rem.take ys[j].n)::mn ((ys.map Ex.n).drop (j+1)) (rem.drop ys[j].n):=sT.ae.symm;have Aj:ps[j]?=some (lg (rem.take ys[j].n)):=by have h1:=congrArg (λ l=>l[0]?) hp0;simpa using h1
   have Gp:mn ((ys.map Ex.n).drop (j+1)) (rem.drop ys[j].n)=ps.drop (j+1):=by have h1:=congrArg List.tail hp0;rw[tail_drop] at h1;exact h1.symm
   have atH:ys[j].n+Ma ((ys.map Ex.n).drop (j+1))<=rem.length:=PK.ae;have hkq:j < qs.length:=by have:=Q5.ae;omega
   have pR:j < ss.length:=by have:=oz.ae;omega
   have aov:=HS.ae.at_ j qs[j] ss[j] (getElem?_eq_getElem hkq) (by
    rw[getElem?_append_right TaV,length_take]
    have hm:min j (eA ss ps).length=j:=by
     refine Nat.min_eq_left (Nat.le_of_lt ?_)
     unfold eA
     rw[length_zipWith]
     have hpl:j < ps.length:=by
      rcases Nat.lt_or_ge j ps.length with h | h
      ·exact h
      ·rw[getElem?_eq_none h] at Aj;cases Aj
     omega
    rw[hm,Nat.sub_self,getElem?_drop,Nat.add_zero,getElem?_eq_getElem pR])
   have aZ:=HG.ae ss[j] (getElem_mem pR)
   have Qs:((eA ss ps).take j++ss.drop j).set j (ss[j].feed (lg (rem.take ys[j].n)).1 (lg (rem.take ys[j].n)).2)=(eA ss ps).take (j+1)++ss.drop (j+1):=by
    have hpl:j < ps.length:=by
     rcases Nat.lt_or_ge j ps.length with h | h
     ·exact h
     ·rw[getElem?_eq_none h] at Aj;cases Aj
    have Hp:j <(eA ss ps).length:=by unfold eA;rw[length_zipWith];omega
    have hfk:(eA ss ps)[j]'Hp=ss[j].feed (lg (rem.take ys[j].n)).1 (lg (rem.take ys[j].n)).2:=by
     have h1:(eA ss ps)[j]?=some (ss[j].feed (lg (rem.take ys[j].n)).1 (lg (rem.take ys[j].n)).2):=by unfold eA;rw[getElem?_zipWith,getElem?_eq_getElem pR,Aj]
     rw[getElem?_eq_getElem Hp] at h1;injection h1
    rw[take_add_one,getElem?_eq_getElem Hp,hfk];have tu:((eA ss ps).take j).length=j:=by rw[length_take];omega
    rw[set_append_right _ _ WC,tu,Nat.sub_self,drop_eq_getElem_cons pR,set_cons_zero,append_assoc];rfl
   have kN:=getElem_mem hkq;have hX:qs[j]?=some qs[j]:=getElem?_eq_getElem hkq
   obtain⟨lb,hSA,Z5,hsc⟩:∃lb,SA=some ⟨lb,0,none⟩/\lb < w.heap.size/\w.cell? ⟨lb,j,none⟩=some (.pointer (some ⟨qs[j],0,none⟩)):=by
    rcases Q4.ae with h |⟨g,h1,h2,h3⟩
    ·rw[h] at hkq;simp at hkq
    ·refine⟨g,h1,h2,?_⟩;have:=h3 j qs[j] 0 _ hX WC rfl;exact Ze5
   subst hSA;have hsq:=λ h=>Q3.ae lb h rfl
   have hGw:=HT.ae.blk IH.ae HFN.ae;have hsw:wr.heap[lb]?=w.heap[lb]?:=HT.ae.block lb Z5 hsq;have eU:=(bI hsw j).trans hsc;have hP:=Nat.lt_of_lt_of_le Z5 HT.ae.size;have hRw:=HR.ae.turn HT.ae;have axp:=Q5.ae;generalize ys[j]=y at*;generalize qs[j]=q at*;generalize ss[j]=s at*;unfold cw at hex;have HNX:=aa (show Ma ((ys.map Ex.n).drop (j+1))<=(rem.drop y.n).length by rw[length_drop];omega);have hI0:y.n<=rem.length:=by omega
   have jI:=aa Gp;have HQN:=aa Qs;have aie:=aa kN;have HB:=aa hX;have VH:=aa eU;have HP:=aa hP;have J1:=aa aov;have JP:=aa aZ;have HG0:=aa fM;have HI0:=aa hI0;have HHL:=aa hkq;clear hdr sT PK hp0 Aj Gp atH pR aov aZ Qs kN hX Z5 hsc hsq hsw eU hP fM hI0 hkq;go_upto_region 4 with fail;have k1:=aB.new wr 46 (ay y);have Mn:=ah wr (.cells (ay y) 46);generalize hW1:wr.alloc (.cells (ay y) 46)=W1 at*;have HZ:=aB.new W1 187 nd;have b2:=ah W1 (.cells nd 187);unfold nd at HZ b2;generalize hW2:W1.alloc _=W2 at*;have k1:=k1.later b2;have bb:=ai.then Mn b2;obtain⟨g7,Nu⟩:∃g7,g7=wr.heap.size:=⟨_,rfl⟩;have hs1:W1.heap.size=g7+1:=by rw[<- hW1,World.size_alloc,Nu]
   rw[<- Nu] at k1 ⊢;rw[hs1] at HZ;obtain⟨g8,hg8⟩:∃g8,g8=g7+1:=⟨_,rfl⟩;rw[<- hg8] at HZ ⊢;have nJ:g7≠g8:=by omega
   have HT2:=aa (HT.ae.below bb);have Xr:=aa (hRw.later bb);have zW:=aa (hGw.later bb);have Mw:=aa (HS.ae.later bb);have amZ:=aa (show cC W2 q s from aB.later J1.ae bb);have ana:=aa ((bb.cell (p:=⟨lb,j,none⟩) HP.ae).trans VH.ae);have ahx:=aa (Nat.lt_of_lt_of_le HP.ae bb.size);have Xt:=aa (show wr.heap.size<=g8 by omega);have HGS:=aa (show lb≠g8 by have:=HP.ae;omega);clear hGw hRw HS J1 VH HP Mn b2 bb hW1 hW2 hs1 Nu hg8 hex;obtain⟨m,hm⟩:∃m,m=rem.length:=⟨_,rfl⟩;rw[<- hm];have HM:=aa hm;have hYR:y.n<=m:=by rw[hm];exact HI0.ae
   have hC1:m<=c1:=by rw[hm];exact HC.ae
   clear hm;have HZH:=aa HZ;have J3:=aa k1;clear HZ k1;refine bC 6 (d4V g7 g8 m c1 y.n y.c A1 y.A) (Vi _ _ _ _ _ _ _ _) Taa Taa Taa ?_ ?_
   ·simp only[take_succ_cons,take_zero];refine⟨Zaa,Zaa,Zaa,?_,Zaa,?_,trivial⟩
    ·intro ρ w3 hc hL hr;have h0:_=_:=hr.1;have c0:=(J3.ae.later hL).cell 6;exact ZaR
    ·intro ρ w3 hc hL hr;have h0:_=_:=hr.1;have h1:_=_:=hr.2.1;have hs:=Vh A1 m c1 y.n WC w3;exact ZcQ
   intro W3 hL;simp only[Uab];rintro _ rfl a1 - a2 - a3 - a4 - _ rfl;simp only[bE,Act.put,Uac];have PL:=aa (show aB W3 g8 187 nd from HZH.ae.later hL);have HR3:=aa (((Xr.ae.later hL).E4 y.n));have HLT:=aa (show(rem.take y.n).length=y.n by rw[length_take];have:=HI0.ae;omega);have Mg:=aa (zW.ae.later hL);have DR:=aa (J3.ae.later hL);have Ck:=aa (Mw.ae.later hL);have ane:=aa (show cC W3 q s from aB.later amZ.ae hL);have anf:=aa ((hL.cell (p:=⟨lb,j,none⟩) ahx.ae).trans ana.ae);have ahz:=aa (Nat.lt_of_lt_of_le ahx.ae hL.size);have HT3:=aa (HT2.ae.below hL);clear hL HZH J3 zW Mw amZ ana ahx HT2 Xr;have fG:=λ u=>sS A1 m c1 y.n hYR u
   refine zV rfl (.tmp 19) (.tmp 24) rfl g8 A1 (rem.take y.n) c1 2 y.n rfl rfl HLT.ae.symm PL.ae (by rw[HLT.ae];exact HG0.ae) HR3.ae ?_;intro W4 u4 hz4 hg4;have sQ:=aa (Mg.ae.grown hg4 (λ e=>by injection e with e;exact kS Mg.ae PL.ae Tab e));have HX:=DR.ae.grown hg4 (λ e=>by injection e with e;exact nJ e);have x6:=HX.cell 6;simp only[Uaa] at x6;have IE:=aa (Ck.ae.tQ PL.ae Tab);have GK:=aa (Ck.ae.keep hg4.size λ q hq=>hg4.block q (Ck.ae.low q hq).2 (λ e=>by injection e with e;subst e;exact IE.ae hq));have NC:=aa (show cC W4 q s from aB.grown ane.ae hg4 (λ e=>by injection e with e;subst e;exact IE.ae aie.ae));have Mr:=aa ((bI (hg4.block lb ahz.ae (λ e=>by injection e with e;exact HGS.ae e)) j).trans anf.ae);have Tt:=aa (Nat.lt_of_lt_of_le ahz.ae hg4.size);have atK:=aa (show w.heap.size<=g8 from Nat.le_trans HT.ae.size Xt.ae);have HT4:=aa (show pD w W4 qs from⟨hg4.os.trans HT3.ae.os,hg4.tape.trans HT3.ae.tape,hg4.output.trans HT3.ae.output,Nat.le_trans HT3.ae.size hg4.size,λ j hk hn=>(hg4.block j (Nat.lt_of_lt_of_le hk HT3.ae.size) (λ e=>by injection e with e;have:=atK.ae;omega)).trans (HT3.ae.block j hk hn)⟩);have Xu:=aa hz4;clear hz4 hg4 Mg DR Ck ane anf ahz HT3 PL HR3 HX;go_wp2_with fail;have K1:=sQ;have xM:=GK;have HYB:=NC;have tL:=Mr;have Wt:=Tt;have Gi:=Xu;have HT5:=HT4;have HAB:=aa (show(lg (rem.take y.n)).1.Ok/\(lg (rem.take y.n)).2.Ok by
    have aZ:∀Kx,((rem.take y.n).getD Kx aN).Ok:=λ Kx=>by
     rw[getD_eq_getElem?_getD]
     cases hj:(rem.take y.n)[Kx]? with
     | none=>exact dY
     | some v=>exact HV.ae v (mem_of_mem_take (mem_of_getElem? hj))
    exact⟨aZ 0,aZ 1⟩)
   obtain⟨a,ha⟩:∃a,a=(lg (rem.take y.n)).1:=⟨_,rfl⟩;obtain⟨b2,hb2⟩:∃b2,b2=(lg (rem.take y.n)).2:=⟨_,rfl⟩;rw[<- ha,<- hb2] at HAB Gi HQN;clear sQ GK NC Mr Tt Xu HT4 x6 ha hb2 fG;refine bC 11 (d6V gg g8 lb qs.length sc j q a b2) (Vj _ _ _ _ _ _ _ _ _) Taa Taa Taa ?_ ?_
   ·simp only[take_succ_cons,take_zero];refine⟨Zaa,Zaa,Zaa,?_,Zaa,?_,ZfI,Zaa,?_,?_,?_,trivial⟩
    ·intro ρ w3 hc hL hr;have h0:_=_:=hr.1;have c0:=(K1.ae.later hL).cell 1;exact ZaR
    ·intro ρ w3 hc hL hr;have h0:_=_:=hr.1;have h1:_=_:=hr.2.1;have Ue:=HHL.ae;exact aq (w':=w3) (by simp[go_sem,h0,h1,Ue,et];done) ⟨ai.refl _,rfl⟩
    ·intro ρ w3 hc hL hr;have h0:_=_:=hr.1;have cJ:=Gi.ae.later hL;have y0:=cJ.cell 0;have y1:=cJ.cell 1;have c2:=cJ.cell 2;exact ZfK
    ·intro ρ w3 hc hL hr;have h0:_=_:=hr.1;exact aq (w':=w3) (by simp[go_sem,h0,hc.const,et];done) ⟨ai.refl _,rfl⟩
    ·intro ρ w3 hc hL hr;have h0:_=_:=hr.1;have cJ:=Gi.ae.later hL;have y0:=cJ.cell 3;have y1:=cJ.cell 4;have c2:=cJ.cell 5;exact ZfK
   intro W5 hL;simp only[Uab];rintro a0 - a1 - a2 - a3 - a4 - a5 - _ rfl a7 - _ rfl a9 - _ rfl;simp only[bE,Act.put,Uac];have HS6:=aa (xM.ae.later hL);have ano:=aa (show cC W5 q s from aB.later HYB.ae hL);have xa:=aa (HT5.ae.below hL);clear hL K1 xM HYB tL Wt Gi HT5;go_wp2_with fail;refine(YK q s a b2 W5 ano.ae JP.ae.1 JP.ae.2 HAB.ae.1).mono ?_;rintro e w7 ⟨rfl,hst,Nu⟩;have HS7:=aa (HS6.ae.put HB.ae Nu hst);have HT7:=aa (xa.ae.grown aie.ae Nu);clear hst Nu HS6 ano xa;go_wp2_with fail;go_roundw
   case rel=>
    refine⟨j+1,eQ A1 c1 y.n,c1 - y.n,rem.drop y.n,hlt,by go_num,?_,⟨?_,xV HR.ae.off⟩,?_,?_,?_,jI.ae,HNX.ae,?_,HT7.ae⟩
    ·rw[length_drop,<- HM.ae]
    ·exact HR.ae.rv.SX y.n c1 (by have:=HC.ae;omega)
    ·rw[length_drop];have:=HC.ae;omega
    ·rw[length_drop];have:=F7.ae;omega
    ·exact λ v hv=>HV.ae v (mem_of_mem_drop hv)
    ·rw[<- HQN.ae];exact HS7.ae
   case measure=>exact Za1
  ·have fH:j=ys.length:=by omega
   subst fH;have Hp:(eA ss ps).length=ss.length:=by have h1:=Pj.ae;have h2:=oz.ae;unfold eA;rw[length_zipWith];omega
   have hst:=HS.ae;rw[take_of_length_le (by rw[Hp];have:=oz.ae;omega),drop_eq_nil_of_le (by have:=oz.ae;omega),append_nil] at hst;have HST:=aa hst;clear hst Hp HS;go_wp2_with fail;go_end0;exact⟨rfl,HST.ae,HT.ae⟩):p:=h
theorem zb (gp gg B base:Nat)(ys:List Ex)(AA:Option Addr)(ac:Nat)(kv sv:Value)(qs:List Nat)(ss:List St)(l:List Val)(A0:Option Addr)(Lw:Nat)(w:World)
  (hn:ys.length<=1000000) (B3:gp < B) (hz:B<=w.heap.size) (Tp:w.cell? ⟨gp,9,none⟩=some (.slice AA ys.length ac)) (hF:RE w B AA ys) (ih:aB w gg 141 #[kv,sv]) (q1:aI cY 145 1 w base sv qs)
  (hS:dE w B qs ss) (q5:qs.length=ys.length) (hR:RVq w qs A0 l) (hc:l.length<=Lw) (XN:Ma (ys.map Ex.n)<=l.length) (fM:∀y∈ys,y.n<=2) (aZ:∀s∈ss,s.Ok/\s.all < 4611686018427387904) (hv:∀v∈l,v.Ok) (Nk:l.length<=1000000):
  ar 67 #[aw gp,aw gg,.slice A0 l.length Lw] w λ e w'=>e=.returned (.tuple #[])/\dE w' B qs (eA ss (mn (ys.map Ex.n) l))/\pD w w' qs:=by
 have q2:=hS.tQ ih Tab;have q3:=hS.ne q1;have Av:ss.length=ys.length:=by rw[<- hS.len];exact q5
 obtain⟨SA,sc,rfl,q4⟩:=ej (f:=cY) (size:=1) (λ _=>rfl) q1;have hcw:=ih.cell 1;obtain⟨ps,nX⟩:∃ps,ps=mn (ys.map Ex.n) l:=⟨_,rfl⟩;rw[<- nX];have Pj:=aa (show ps.length=ys.length by
  have hp:∀(ns:List Nat) (l:List Val),(mn ns l).length=ns.length:=by
   intro ns
   induction ns with
   | nil=>intro l;rfl
   | cons n ns Ly=>intro l;show(mn ns (l.drop n)).length+1=_;rw[Ly];rfl
  rw[nX,hp,length_map])
 have sT:=aa (show mn ((ys.map Ex.n).drop 0) l=ps.drop 0 from nX.symm);have PK:=aa (show Ma ((ys.map Ex.n).drop 0)<=l.length from XN);have HS0:=aa (show dE w B qs ((eA ss ps).take 0++ss.drop 0)from hS);have KK:=aa (show(eA ss ps).length<=ss.length by unfold eA;rw[length_zipWith];omega);have HR:=aa hR;have HC:=aa hc;have HY2:=aa fM;have HG:=aa aZ;have HV:=aa hv;open zcP in exact Zbd
theorem Cp:(Tryz.prog.info? 135).map (λ i=>(i.zero,i.size,i.bytes))=some (some (.pointer none),1,8):=by exact Zgx
theorem Mb (u:World):(sizeOf (Tryz.prog.elem 134)).run Tryz.prog u=.ok 1 u:=by exact Zgx
theorem iC (A1:Option Addr)(n c1 k:Nat)(hk:k<=n)(u:World):(Instr.slice 134 (.slice A1 n c1) (some (af k)) none none).run Tryz.prog u=.ok (.slice (if c1=k then A1 else A1.map (·.add (k*1))) (n - k) (c1 - k)) u:=by rw[run_slice_l u 134 A1 n c1 Tryz.underlying134 .i64 k WC WC,Mb];simp[sliced]
theorem Cq (A1:Option Addr)(n c1 k:Nat)(hk:k<=c1)(u:World):(Instr.slice 134 (.slice A1 n c1) none (some (af k)) none).run Tryz.prog u=.ok (.slice A1 k c1) u:=by rw[run_slice_h u 134 A1 n c1 Tryz.underlying134 .i64 k WC WC,Mb];exact Zhg
theorem Mc (w:World)(ty:TypeId)(g q:Nat)(cur:Array Value)(a:Addr)(cs:List Value)(dl dc sl sc:Nat)(hg:aB w g 135 cur)(pE:q+cs.length<=cur.size)(hn:cs.length=Nat.min sl dl)
  (hs:∀(j:Nat) v,cs[j]?=some v->w.cell? (a.add j)=some v) (h1:∀v∈cs,v.oneCell'=true):
  (Builtin.copy_ #[134,134] ty #[.slice (some ⟨g,q,none⟩) dl dc,.slice (some a) sl sc]).run Tryz.prog w=.ok (goInt cs.length) (w.setRow g (cur.toList.take q++(cs++cur.toList.drop (q+cs.length))).toArray):=by
 have hst:=run_storeCells_at Tryz.prog g q 135 cs 0 cur w hg (by simpa using pE) h1;have Z9:=run_loadCells_list (P:=Tryz.prog) w a cs hs;have hsz:∀u:World,(sizeOf 135).run Tryz.prog u=.ok 1 u:=λ u=>by kernel_rfl
 simp only[Nat.add_zero] at hst;simp[Builtin.copy_,run_underlying Tryz.underlying134,Builtin.lenOf,Builtin.firstCells,hsz,<- hn,Z9,hst]
variable{ac:Act}
theorem ja{ops:Array Oper}     (hgd:o.guard=none)(d s:Operand)
  (ho:o.op=.call { callee:=.builtin .copy,args:= #[d,s],argTypes:= #[134,134] }) (g q:Nat) (cur:Array Value) (a:Addr) (cs:List Value) (dl dc sl sc:Nat) (hd:ac.eval d=.slice (some ⟨g,q,none⟩) dl dc) (hs:ac.eval s=.slice (some a) sl sc)
  (hg:aB w g 135 cur) (pE:q+cs.length<=cur.size) (hn:cs.length=Nat.min sl dl) (atL:∀(j:Nat) v,cs[j]?=some v->w.cell? (a.add j)=some v) (h1:∀v∈cs,v.oneCell'=true)
  (h:∀w' u,aB w' g 135 (cur.toList.take q++(cs++cur.toList.drop (q+cs.length))).toArray->w.grownBy w' (some g)->wpList Tryz.prog ops Q rest (ac.put o.dst u) w'):wpList Tryz.prog ops Q (o::rest) ac w:=by
 refine wpList_plain hgd λ K hK=>?_
 have hrun:=Mc w o.type g q cur a cs dl dc sl sc hg pE hn atL h1;unfold Oper.wp;simp[execOp,ho,resolve,invoke,builtin,hd,hs,hrun,Result.andThen];exact hK _ _ (h _ _ (setRow_heap w g cur _ 135 (0,0) hg) ⟨rfl,rfl,rfl,by simp[World.setRow],λ k hk hne=>setRow_other w g k _ (λ e=>hne Tbb)⟩)
theorem fB (A:Option Addr)(n c:Nat):(Value.slice A n c).ownBlock=A.map (·.block):=by cases A <;> rfl
def eT (q:Nat):Value:=aw q
theorem rH (l:List Nat):l.flatMap cY=l.map eT:=by
 induction l with
 | nil=>rfl
 | cons x l ih=>rw[flatMap_cons,ih];rfl
theorem Ay (l:List Nat):∀v∈l.map eT,v.oneCell'=true:=by intro v hv;obtain⟨x,_,rfl⟩:=List.mem_map.1 hv;simp[eT,Value.oneCell']
def Az (lv:Value)(base:Nat)(l:List Nat)(w:World)(e:Ending)(w':World):Prop:=∃v',e=.returned v'/\aI cY 135 1 w' base v' l/\w.grownBy w' lv.ownBlock
theorem PM (gs:List Nat)(x:Nat)(lv:Value)(base vb:Nat)(w:World)(hl:gs.length<=1000000)(hO:aI cY 135 1 w base lv gs)(hv:aB w vb 135 #[aw x])(hbase:base<=w.heap.size):
  ar 66 #[lv,af gs.length,aH vb 1 1] w (Az lv base (gs++ [x]) w):=by
 obtain⟨LA,lc,rfl,hle,_⟩:=wD hO;have HV:=aa hv;obtain⟨n,ug⟩:∃n,n=gs.length:=⟨_,rfl⟩;have HN:=aa ug;have hl2:n<=1000000:=by omega
 rw[<- ug] at hle hO ⊢;have HO:=aa hO;have fG:=λ u=>iC LA n lc n (Nat.le_refl _) u
 clear hO hv ug hl;go_enter Tryz.func66,Tryz.ntmps66;go_wp2_with (first
  |(at_builtin
    refine aU (l:=gs) rfl (.tmp 23) (.tmp 24) 134 rfl _ 8 Tryz.underlying134 Cp rfl WC x rfl TaY rfl HO.ae vb rfl HV.ae Tbl Tbl hbase ?_
    intro v4 w4 R5 g4
    obtain⟨A4,Qg,hv4,_⟩:=R5.reads
    rw[length_append,length_singleton] at hv4
    subst hv4
    have O4:=aa R5
    have G4:=aa (show w.grownBy w4 (Value.slice LA n lc).ownBlock from g4)
    clear R5 g4))
 all_goals
  go_ret;refine⟨_,rfl,O4.ae,?_⟩;have h4:=G4.ae;rw[fB] at h4 ⊢;exact h4
def ahC (g n cap k:Nat):Nat->World->Value->Prop
 | 0,_,v=>v=aH g (n+1) cap
 | 1,_,v=>v=af k
 | 2,_,v=>v=af 1
 | 3,_,v=>v=af (k+1)
 | 4,_,v=>v=.slice (some ⟨g,k+1,none⟩) (n+1 - (k+1)) (cap - (k+1))
 | 5,_,v=>v=aH g (n+1) cap
 | 6,_,v=>v=af k
 | 7,_,v=>v=.slice (some ⟨g,k,none⟩) (n+1 - k) (cap - k)
 | _,_,_=>False
theorem PN (g n cap k:Nat):∀i w w' v,ahC g n cap k i w v->ai w w'->ahC g n cap k i w' v:=by exact Zgi
theorem zhe.KbT(h:p:=by
 have ve:=aa (HG.ae.later hL);have HV3:=aa (HV.ae.later hL);have HL:=aa hL;clear hL HG HV;have hg:((gs.drop k).map eT).length=n - k:=by rw[length_map,length_drop,<- HN.ae]
 have hcell:∀(j:Nat) v,((gs.drop k).map eT)[j]?=some v->W3.cell? ((⟨g,k,none⟩:Addr).add j)=some v:=λ j v hj=>by
  rw[PD,ve.ae.cell];rw[<- Array.getElem?_toList];have e:(cur.toList.take n)[k+j]?=some v:=by rw[HF.ae];rw[getElem?_map,getElem?_drop,<- getElem?_map] at hj;exact hj
  rw[getElem?_take] at e;split at e
  ·exact e
  ·cases e
 have Nt:=aa hcell;have TW:=aa hg;clear hcell hg;refine ja rfl (.tmp 73) (.tmp 76) rfl g (k+1) cur ⟨g,k,none⟩ ((gs.drop k).map eT) _ _ _ _ rfl rfl ve.ae (by rw[TW.ae,Q1.ae];omega) (by rw[TW.ae];simp only[Nat.min_def];split <;> omega) Nt.ae (Ay _) ?_;intro W4 u4 hg4 Vm;have JO:=aa hg4;have HV4:=aa (HV3.ae.grown Vm (λ e=>by injection e with e;exact HFN.ae e.symm));have ahE:=aa (show w.grownBy W4 (some g)from aY (aR HL.ae) Vm);clear hg4 Vm ve HV3 HL Nt;obtain⟨c4,hc4⟩:∃c4:Array Value,c4=(cur.toList.take (k+1)++((gs.drop k).map eT++cur.toList.drop (k+1+((gs.drop k).map eT).length))).toArray:=⟨_,rfl⟩;rw[<- hc4] at JO;have HC4:=aa hc4;clear hc4;have hs4:c4.size=cap:=by rw[HC4.ae];have h1:=TW.ae;have h2:=Q1.ae;simp only[size_toArray,length_append,length_take,length_drop,Array.length_toList] at h1 ⊢;rw[length_map,length_drop] at h1 ⊢;omega
 have HS4:=aa hs4;have RH:∀(j:Nat) v,[eT x][j]?=some v->W4.cell? ((⟨vb,0,none⟩:Addr).add j)=some v:=λ j v hj=>by rw[PD,Nat.zero_add,HV4.ae.cell];simpa [eT] using hj
 have HCX:=aa RH;clear hs4 RH;go_wp2_with (first
  |(refine ja rfl (.tmp 80) (.tmp 81) rfl g k c4 ⟨vb,0,none⟩ [eT x] _ _ _ _ rfl rfl JO.ae (by rw[HS4.ae,length_singleton];omega) TaQ HCX.ae (Ay [x]) ?_
    intro W5 u5 IY anq
    have Vk:=aa IY
    have atM:=aa (aY ahE.ae anq)
    clear IY anq))
 go_ret;refine⟨_,rfl,⟨?_,.inr ⟨g,cap,_,?_,hbg,Vk.ae,?_,IH.ae,?_,?_⟩⟩,atM.ae⟩
 ·have:=HN.ae;simp[rH,cY]
 ·have:=HN.ae;congr 1;simp;omega
 ·have:=HN.ae;simp;omega
 ·have:=HS4.ae;simp;omega
 ·have h3:=HF.ae;have h4:=HC4.ae;have h5:=HN.ae;have h6:=Q1.ae;obtain⟨R,hR⟩:∃R,R=cur.toList.drop (k+1+((gs.drop k).map eT).length):=⟨_,rfl⟩;rw[<- hR] at h4;have cf:cur.toList.length=cap:=by rw[Array.length_toList];exact h6
  have e0:cur.toList.take k=(gs.take k).map eT:=by have:=congrArg (List.take k) h3;rw[take_take,Nat.min_eq_left WC,<- map_take] at this;exact this
  have BO:(cur.toList.take (k+1)).length=k+1:=by rw[length_take];omega
  have e1:c4.toList.take k=(gs.take k).map eT:=by rw[h4,toList_toArray,take_append_of_le_length WC,take_take,Nat.min_eq_left WC,e0]
  have e2:c4.toList.drop (k+1)=(gs.drop k).map eT++R:=by rw[h4,toList_toArray,drop_append_of_le_length WC,drop_of_length_le WC,nil_append]
  rw[rH,toList_toArray,e1,length_singleton,e2,Nat.mul_one];have e3:(gs.take k).map eT++([eT x]++((gs.drop k).map eT++R))=(gs.take k++x::gs.drop k).map eT++R:=by simp
  exact ZgD):p:=h
theorem Md (gs:List Nat)(x k:Nat)(g cap base vb:Nat)(cur:Array Value)(w:World)(hl:gs.length<=1000000)(hk:k < gs.length)(hbg:base<=g)(aZ:aB w g 135 cur)(hroom:gs.length+1<=cap)(ih:cap<=maxLen)(q1:cur.size=cap)(hF:cur.toList.take gs.length=gs.map eT)(hv:aB w vb 135 #[aw x])(q2:g≠vb):
  ar 66 #[aH g gs.length cap,af k,aH vb 1 1] w (Az (aH g gs.length cap) base (gs.take k++x::gs.drop k) w):=by
 obtain⟨n,ug⟩:∃n,n=gs.length:=⟨_,rfl⟩;have HN:=aa ug;rw[<- ug] at hl hk hroom hF ⊢;have hmx:cap<=9223372036854775807:=by unfold maxLen at ih;omega
 have Lk:∀lb cb,(callFunc 101 #[aH vb 1 1,.slice (some ⟨g,k+1,none⟩) lb cb]).run Tryz.prog w=.ok (.value (.bool false)) w:=λ lb cb=>by
  rw[run_callFunc_extern Tryz.func101 Taa Taa Taa (e:=Extern.SlicesOverlaps.overlaps #[134,134] #[4]) Taa,
   Lib.run_overlaps_apart w 134 4 135 Tryz.underlying134 1 (λ u=>by kernel_rfl) ⟨vb,0,none⟩ ⟨g,k+1,none⟩ 1 1 lb cb (Ne.symm q2) 135 135 1 cap (by unfold World.shape?;dsimp only;rw[show w.heap[vb]?=some (.cells #[aw x] 135 (0,0))from hv];rfl) (by unfold World.shape?;dsimp only;rw[show w.heap[g]?=some (.cells cur 135 (0,0))from aZ,<- q1]) WC (hv.frozen 0) (hv.frozen 1)]
  rfl
 have Vl:=λ u=>iC (some ⟨g,0,none⟩) n cap k WC u
 have anp:=λ u=>Cq (some ⟨g,0,none⟩) n cap (n+1) hroom u
 have Er:=λ u=>iC (some ⟨g,0,none⟩) (n+1) cap (k+1) WC u
 have PO:=λ u=>iC (some ⟨g,0,none⟩) (n+1) cap k WC u
 rw[if_neg WC] at Vl Er PO;simp only[Option.map_some,et,Nat.mul_one,Nat.zero_add] at Vl Er PO;push_cast at anp Er;have mixed:Tryz.prog.follows .mixedOrders=true:=by kernel_rfl
 have t1:((k:Int)==(n:Int))=false:=by simp;omega
 have t2:decide ((cap:Int)<(n:Int)+1)=false:=decide_eq_false WC;have HG:=aa aZ;have HV:=aa hv;have HF:=aa hF;have IH:=aa ih;have Q1:=aa q1;have HFN:=aa q2;have HOV:=Lk;clear aZ hv hF ih q1 q2 ug Lk;go_enter Tryz.func66,Tryz.ntmps66;go_wp2_with (simp only[HOV]);refine bC 8 (ahC g n cap k) (PN _ _ _ _) Taa Taa Taa ?_ ?_
 ·exact Zbo
 open zhe in exact ZeX
theorem Vn (d:Bool):Good (Za d):=by
 cases d
 ·exact jC
 ·exact jC.flip
theorem Cr:∀ds,Good (vQ ds)
 | []=>⟨λ _ _=>rfl,λ _ _ _ _ _=>Int.le_refl _⟩
 | d::ds=>((Vn d).by_ λ l:List Val=>l.headD aN).lex ((Cr ds).by_ List.tail)
theorem mo (ds:List Bool):Good (vR ds):=((Cr ds).by_ fk.keys).lex (jD.by_ fk.row)
theorem PQ{ds:List Bool} {a b:fk}(h:vR ds a b=0):a.row=b.row:=by
 unfold vR ow at h;split at h
 ·exact iL _ _ h
 ·rename_i h2;exact absurd h h2
def jJ (s:dy):Prop:=∀a∈s.aJ,isAgg a.op=true
mutual
theorem Tr.Ge (aL:List Tr)(cols:List aX):∀(t:Tr) (s:dy) (y:Tr) (s':dy),t.turn aL cols s=.ok (y,s')->jJ s->jJ s'
 | .mk op v name width args,s,y,s',h,hs=>by
   unfold Tr.turn at h;split at h
   ·injection h with h;injection h with h1 h2;rw[<- h2];exact hs
   ·split at h
    ·rename_i hop;split at h
     ·cases h
     ·injection h with h;injection h with h1 h2;rw[<- h2];intro a ha;rcases List.mem_append.1 ha with ha | ha
      ·exact hs a ha
      ·rw[mem_singleton] at ha;rw[ha];exact hop
    ·split at h
     ·cases h
     ·rename_i ys s1 h1;split at h
      ·cases h
      ·split at h
       ·cases h
       ·injection h with h;injection h with h3 h4;rw[<- h4];exact Tr.Cs aL cols args s ys s1 h1 hs
theorem Tr.Cs (aL:List Tr)(cols:List aX):∀(ts:List Tr) (s:dy) (ys:List Tr) (s':dy),Tr.turns aL cols ts s=.ok (ys,s')->jJ s->jJ s'
 | [],s,ys,s',h,hs=>by unfold Tr.turns at h;injection h with h;injection h with h1 h2;rw[<- h2];exact hs
 | t::ts,s,ys,s',h,hs=>by
   unfold Tr.turns at h;split at h
   ·cases h
   ·rename_i y s1 h1;split at h
    ·cases h
    ·rename_i Xv s2 h2;injection h with h;injection h with h3 h4;rw[<- h4];exact Tr.Cs aL cols ts s1 Xv s2 h2 (Tr.Ge aL cols t s y s1 h1 hs)
end
variable{aL:List Tr}{cols:List aX}{s':dy}
theorem Ct{g:Bool}   {t:Tr} {s:dy} {y:Tr} {k:Int} (h:pd g aL cols t s=.ok (y,k,s'))(hs:jJ s):jJ s':=by
 unfold pd at h;split at h
 ·exact ZfH
 ·split at h
  ·cases h
  ·rename_i y1 s1 h1;split at h
   ·cases h
   ·injection h with h;injection h with h2 h;injection h with h3 h4;rw[<- h4];exact Tr.Ge aL cols t s y1 s1 h1 hs
theorem Cu{g:Bool}  :∀ {l:List (Tr×ByteArray)} {s:dy} {ys:List Tr} {hd:List aX} {s':dy},dm g aL cols l s=.ok (ys,hd,s')->jJ s->jJ s'
 | [],s,ys,hd,s',h,hs=>by unfold dm at h;injection h with h;injection h with h1 h;injection h with h2 h3;rw[<- h3];exact hs
 |(t,nm)::l,s,ys,hd,s',h,hs=>by
  unfold dm at h;split at h
  ·cases h
  ·rename_i y k s1 h1;split at h
   ·cases h
   ·rename_i Xv SY s2 h2;injection h with h;injection h with h3 h;injection h with h4 h5;rw[<- h5];exact Cu h2 (Ct h1 hs)
theorem ze{g:Bool}  :∀ {l:List Tr} {s:dy} {ys:List Tr} {s':dy},dz g aL cols l s=.ok (ys,s')->jJ s->jJ s'
 | [],s,ys,s',h,hs=>by unfold dz at h;injection h with h;injection h with h1 h2;rw[<- h2];exact hs
 | t::l,s,ys,s',h,hs=>by
   unfold dz at h;split at h
   ·cases h
   ·rename_i y k s1 h1;split at h
    ·cases h
    split at h
    ·cases h
    ·rename_i Xv s2 h2;injection h with h;injection h with h3 h4;rw[<- h4];exact ze h2 (Ct h1 hs)
theorem Cv{g:Bool}  :∀ {l:List (Tr×Bool)} {s:dy} {ys:List Tr} {s':dy},eu g aL cols l s=.ok (ys,s')->jJ s->jJ s'
 | [],s,ys,s',h,hs=>by unfold eu at h;injection h with h;injection h with h1 h2;rw[<- h2];exact hs
 |(t,d)::l,s,ys,s',h,hs=>by
  unfold eu at h;split at h
  ·cases h
  ·rename_i y k s1 h1;split at h
   ·cases h
   ·rename_i Xv s2 h2;injection h with h;injection h with h3 h4;rw[<- h4];exact Cv h2 (Ct h1 hs)
theorem zf4.Kbt(h:p:=by exact Cv h3 (ze h2 (Cu h1 (λ a ha=>by cases ha)))):p:=h
theorem Vo{q:Qy}  {p:ji}(h:dS q cols=.ok p):jJ p.st:=by
 open zf4 in exact Zd1
theorem PS{q:Qy}(h:q.lim=[]) {n:Int}(hn:0<=n)(cols:List aX):dS { q with lim:=[n] } cols=dS q cols:=by
 obtain⟨items,bT,only,cD,aL,eU,ord,lim⟩:=q;have h:lim=[]:=h;subst h;have e1:(1 < cD.length\/1 < eU.length\/1 < [n].length\/([n].length=1/\ [n].getD 0 0 < 0))↔(1 < cD.length\/1 < eU.length\/1 <([]:List Int).length\/(([]:List Int).length=1/\([]:List Int).getD 0 0 < 0)):=by simp;omega
 unfold dS;dsimp only;simp only[e1];rfl
theorem Vp{q:Qy}(h:q.lim=[]) {n:Int}(hn:0<=n)(cols:List aX)(rows:List (List Val)):
  jF { q with lim:=[n] } cols rows=match jF q cols rows with
   | .error e=> .error e
   | .ok (hd,l)=> .ok (hd,l.take n.toNat):=by
 unfold jF;rw[PS h hn]
 cases dS q cols with
 | error e=>rfl
 | ok p=>
   dsimp only;split
   ·rfl
   have e:qX { q with lim:=[n] } p cols rows=qX q p cols rows:=rfl;rw[e]
   cases qX q p cols rows with
   | error e=>rfl
   | ok left=>
     dsimp only
     cases uh p cols left with
     | error e=>rfl
     | ok ls=>dsimp only;rw[h];dsimp only;rw[map_take]
variable{rows:List (List Val)}{hd:List aX}
theorem Vq{q:Qy}(h:q.ord=[])    {l:List (List Val)}(hr:jF q cols rows=.ok (hd,l)):l.Pairwise (λ a b=>bX a b<=0):=by
 unfold jF at hr;split at hr
 ·cases hr
 split at hr
 ·cases hr
 split at hr
 ·cases hr
 split at hr
 ·cases hr
 rename_i ls _;injection hr with hr;injection hr with h1 h2;rw[<- h2,h];have hs:(jr [] ls).Pairwise (λ a b=>vR [] a b<=0):=oX (mo []) ls
 have hm:((jr [] ls).map fk.row).Pairwise (λ a b=>bX a b<=0):=by
  rw[pairwise_map];exact hs.imp λ {a b} h=>by have:vR [] a b=bX a.row b.row:=rfl;rw[<- this];exact h
 show((match q.lim with | []=>jr [] ls | n::_=>(jr [] ls).take n.toNat).map fk.row).Pairwise _;split
 ·exact hm
 ·rw[map_take];exact hm.sublist (take_sublist _ _)
theorem Cw{c:α->α->Int} {k:α}:∀ {l:List α} {j:Nat} {x:α},(∀i y,i < j->l[i]?=some y->c y k < 0)->l[j]?=some x->c x k=0->iy c k l=l
 | [],j,x,_,h,_=>by simp at h
 | y::l,0,x,_,h,h0=>by simp at h;subst h;unfold iy;rw[if_neg WC,if_pos h0]
 | y::l,j+1,x,hl,h,h0=>by unfold iy;rw[if_pos (hl 0 y WC rfl),Cw (j:=j) (λ i z hi hz=>hl (i+1) z WC Ta2) Tal h0]
theorem Me{c:α->α->Int} {k:α}:∀ {l:List α} {j:Nat},j<=l.length->(∀i y,i < j->l[i]?=some y->c y k < 0)->(∀y,l[j]?=some y->0 < c y k)->iy c k l=l.take j++k::l.drop j
 | [],j,hj,_,_=>by simp at hj;subst hj;rfl
 | y::l,0,_,_,h=>by have h0:=h y rfl;unfold iy;rw[if_neg WC,if_neg WC];rfl
 | y::l,j+1,hj,hl,h=>by unfold iy;rw[if_pos (hl 0 y WC rfl),Me (j:=j) (by simpa using hj) (λ i z hi hz=>hl (i+1) z WC Ta2) (λ z hz=>h z Ta2)];rfl
theorem Cx (l:List (List Val))(k:List Val):iN (l++ [k])=iy bX k (iN l):=by unfold iN yK;rw[foldl_append];rfl
def fp (ng:Nat)(l:List (List Val)):List (List Val):=if ng=0 then [[]] else iN l
theorem E5 (ng:Nat)(l:List (List Val)):(fp ng l).Pairwise (λ a b=>bX a b < 0):=by
 unfold fp;split
 ·simp
 ·exact(vP jD iL l).1
theorem xW (ng:Nat)(l:List (List Val)):(fp ng l).length<=l.length+1:=by
 unfold fp;split
 ·simp
 ·have:∀(l:List (List Val)),(iN l).length<=l.length:=by
   intro l
   have hk:∀(k:List Val) (m:List (List Val)),(iy bX k m).length<=m.length+1:=by
    intro k m
    induction m with
    | nil=>simp[iy]
    | cons x m ih=>
      unfold iy;split
      ·simp;omega
      ·split <;> simp
   suffices h:∀(l s:List (List Val)),(l.foldl (λ ks k=>iy bX k ks) s).length<=l.length+s.length by
    have:=h l [];simpa [iN,yK] using this
   intro l
   induction l with
   | nil=>intro s;simp
   | cons x l ih=>intro s;rw[foldl_cons];have h1:=ih (iy bX x s);have h2:=hk x s;simp only[length_cons];omega
  have:=this l;omega
def dT (ops:List Int)(ps:List (List Val×List (Val×Val)))(k:List Val):List St:=(List.range ops.length).map λ i=>lf (ops.getD i 0) (pZ i ps k)
theorem jb (ops:List Int)(ps:List (List Val×List (Val×Val)))(k:List Val):dP ops ps k=(dT ops ps k).map gD:=by unfold dP dT;rw[map_map];rfl
theorem nj (ops:List Int)(ps:List (List Val×List (Val×Val)))(k:List Val):(dT ops ps k).length=ops.length:=by simp[dT]
variable{ps:List (List Val×List (Val×Val))}{k k':List Val}{pr:List (Val×Val)}
theorem PT(h:bX k k'≠0):pZ i (ps++ [(k,pr)]) k'=pZ i ps k':=by unfold pZ;rw[filter_append,map_append,filter_cons_of_neg Tal];simp
theorem Vr(h:bX k k'=0):pZ i (ps++ [(k,pr)]) k'=pZ i ps k'++ [pr.getD i (aN,aN)]:=by unfold pZ;rw[filter_append,map_append,filter_cons_of_pos Tal];simp
theorem E6(h:∀p∈ps,bX p.1 k≠0):pZ i ps k=[]:=by unfold pZ;rw[List.filter_eq_nil_iff.2 λ p hp=>by simpa using h p hp];rfl
theorem PU (op:Int)(l:List (Val×Val))(x:Val×Val):lf op (l++ [x])=(lf op l).feed x.1 x.2:=by unfold lf St.yH;rw[foldl_append];rfl
variable{ops:List Int}
theorem IZ(h:bX k k'≠0):dT ops (ps++ [(k,pr)]) k'=dT ops ps k':=by
 unfold dT;exact map_congr_left λ i _=>by rw[PT h]
theorem Mf(h:bX k k'=0)(hl:pr.length=ops.length):dT ops (ps++ [(k,pr)]) k'=List.zipWith (λ s p=>St.feed s p.1 p.2) (dT ops ps k') pr:=by
 apply ext_getElem
 ·simp[dT,hl]
 ·intro i h1 h2;have hi:i < ops.length:=by simpa [dT] using h1
  simp only[dT,getElem_zipWith,getElem_map,getElem_range];rw[Vr h,PU,getD_eq_getElem?_getD (l:=pr),getElem?_eq_getElem (by omega:i < pr.length)];rfl
theorem Cy(h:∀p∈ps,bX p.1 k≠0):dT ops ps k=ops.map fh:=by
 apply ext_getElem
 ·simp[dT]
 ·intro i h1 h2;have hi:i < ops.length:=by simpa using h2
  simp only[dT,getElem_map,getElem_range];rw[E6 h,getD_eq_getElem?_getD,getElem?_eq_getElem hi];rfl
theorem Vs(kI:∀op∈ops,isAgg op=true)  :∀s∈dT ops ps k,∃op l,op∈ops/\l.length<=ps.length/\s=lf op l:=by
 intro s hs;unfold dT at hs;obtain⟨i,hi,rfl⟩:=List.mem_map.1 hs;have hi:i < ops.length:=List.mem_range.1 hi;refine⟨_,pZ i ps k,?_,?_,rfl⟩
 ·rw[getD_eq_getElem?_getD,getElem?_eq_getElem hi];exact getElem_mem hi
 ·unfold pZ;rw[length_map];exact length_filter_le _ _
theorem zfg.Ka8(h:p:=by
 unfold jz at fZ;have oJ:=aa fZ;clear fZ Hq;unfold cw at hex;go_wp2_with fail;have bY:=ah wr (.cells (ay bad) 46);refine(oJ.ae _ (ai.then hb bY)).mono ?_;rintro e W3 ⟨rfl,b1⟩;unfold bR;have eB:=ai.then hb (ai.then bY b1);have t1:(er != 0)=true:=by have:=NY.ae;simpa using this
 have t2:decide (er=0)=false:=by have:=NY.ae;simpa using this
 clear bY b1 oJ hex hb;go_wp2_with fail;exact bodyPost_ret (v:=.tuple #[az,af er]) Tbp rfl ⟨rfl,ai.then eB (ah W3 _)⟩):p:=h
theorem PV (A:Option Addr)(n c:Nat)(cV rV:Value)(args:List (Ex×Val))(bad:Ex)(bv:Val)(er:Int)(post:List Ex)(w:World)(hn:args.length+1+post.length=n)(hl:n<=1599289640356)(hA:RE w w.heap.size A (args.map (·.1)++bad::post))(hE:∀a∈args,jz w cV rV a.1 a.2 0)(jW:jz w cV rV bad bv er)(her:er≠0):
  ar 34 #[.slice A n c,cV,rV] w λ e w'=>e=.returned (.tuple #[az,af er])/\aj w w':=by
 have HN:=aa hn;have Hq:=aa jW;have NY:=aa her;clear hn jW her;have HA:=aa hA;have HE:=aa hE;clear hA hE;go_enter Tryz.func34,Tryz.ntmps34;go_wp2_with fail;go_loopw [8,15] (λ kv i wr=>∃k:Nat,k<=args.length/\i=af k/\aI aV 44 3 wr w.heap.size kv ((args.take k).map (·.2))/\aj w wr) (λ _ i _=>args.length - (intOf i).toNat);case atStart=>exact ZcH
 case round=>
  obtain⟨k,hk,rfl,hp,hb⟩:=hrel;have HP:=aa hp;clear hp;rcases Nat.lt_or_ge k args.length with hlt | vt
  ·have zA:k < n:=by have:=HN.ae;omega
   obtain⟨b,off,rfl,kF,hex⟩:=(HA.ae.below hb).at_ (show k <(args.map (·.1)++bad::post).length by simp;omega);have jn:(args.map (·.1)++bad::post)[k]' Tac=args[k].1:=by rw[getElem_append_left Tao];simp
   exact Zaq
  ·open zfg in exact ZcT
theorem PW (A:Option Addr)(n c:Nat)(cV rV:Value)(args:List (Ex×Val))(w:World)(hn:args.length=n)(hl:n<=1599289640356)(hA:RE w w.heap.size A (args.map (·.1)))(hE:∀a∈args,jz w cV rV a.1 a.2 0):
  ar 34 #[.slice A n c,cV,rV] w λ e w'=>∃v,e=.returned (.tuple #[v,af 0])/\aI aV 44 3 w' w.heap.size v (args.map (·.2))/\aj w w':=by
 have HN:=aa hn;clear hn;have HA:=aa hA;have HE:=aa hE;clear hA hE;go_enter Tryz.func34,Tryz.ntmps34;go_wp2_with fail;go_loopw [8,15] (λ kv i wr=>∃k:Nat,k<=args.length/\i=af k/\aI aV 44 3 wr w.heap.size kv ((args.take k).map (·.2))/\aj w wr) (λ _ i _=>args.length - (intOf i).toNat);case atStart=>exact ZcH
 case round=>
  obtain⟨k,hk,rfl,hp,hb⟩:=hrel;have HP:=aa hp;clear hp;rcases Nat.lt_or_ge k args.length with hlt | vt
  ·have zA:k < n:=by have:=HN.ae;omega
   obtain⟨b,off,rfl,kF,hex⟩:=(HA.ae.below hb).at_ (show k <(args.map (·.1)).length by simpa using hlt);have jn:(args.map (·.1))[k]' Tao=args[k].1:=by simp
   exact Zaq
  ·have lU:args.take k=args:=take_of_length_le vt;have zA:¬k < n:=by have:=HN.ae;omega
   rw[lU] at HP;go_wp2_with fail;exact bodyPost_ret (v:=.tuple #[u8,af 0]) Tbp rfl ⟨_,rfl,HP.ae,hb⟩
theorem aB.ku{size:Nat}   {l:List α}   (hq:aB w q t cs)(h:aI f e size w base v l)(ht:t≠e)(hg:w.grownBy w' v.ownBlock):aB w' q t cs:=hq.grown hg λ e=>h.other hq ht e.symm
theorem Ja:∀ {l:List (Val×Int)},(∀a∈l,a.2=0)->cL l=0
 | [],_=>rfl
 | a::l,h=>by unfold cL;rw[if_neg (by simp[h a (mem_cons_self ..)])];exact Ja λ b hb=>h b (mem_cons_of_mem _ hb)
theorem E7:∀ {pre:List (Val×Int)} {bad:Val×Int} {post:List (Val×Int)},(∀a∈pre,a.2=0)->bad.2≠0->cL (pre++bad::post)=bad.2
 | [],bad,post,_,hb=>by rw[nil_append];unfold cL;rw[if_pos hb]
 | a::pre,bad,post,h,hb=>by rw[cons_append];unfold cL;rw[if_neg (by simp[h a (mem_cons_self ..)])];exact E7 (λ b hb=>h b (mem_cons_of_mem _ hb)) hb
def rI (cols:List aX)(row:List Val)(ts:List Tr)(w:World)(e:Ending)(w':World):Prop:=
 match bB cols row ts with
 | .error er=>er≠0/\e=.returned (.tuple #[az,af er])/\aj w w'
 | .ok l=>∃v,e=.returned (.tuple #[v,af 0])/\aI aV 44 3 w' w.heap.size v l/\aj w w'
theorem Gf (cols:List aX)(CA:Option Addr)(cc:Nat)(row:List Val)(RA:Option Addr)(rc:Nat)(ts:List Tr)(ys:List Ex)(A:Option Addr)(c:Nat)(w:World)(cf:cols.length<=140737488355328)(kN:row.length<=140737488355328)(hro:∀v∈row,v.Ok)
  (aZ:Tr.cN ts) (hat:Tr.aO w (Old w) ts ys) (hl:ys.length<=1599289640356) (hA:RE w w.heap.size A ys) (hC:RC w w.heap.size CA cols) (hV:RV w w.heap.size RA row):
  ar 34 #[.slice A ys.length c,.slice CA cols.length cc,.slice RA row.length rc] w (rI cols row ts w):=by
 obtain⟨l,ft,hl2,ub⟩:=Tr.Bh cols CA cc row RA rc cf kN hro ts ys w aZ hat hC hV;rcases qR l with h |⟨pre,bad,post,rfl,h1,h2⟩
 ·have hw:bB cols row ts=.ok (l.map λ a=>a.2.1):=by unfold bB;rw[<- hl2,Ja (λ a ha=>by obtain⟨b,hb,rfl⟩:=List.mem_map.1 ha;exact h b hb),if_neg Tab,map_map];rfl
  have e1:(l.map λ a=>(a.1,a.2.1)).map (·.1)=ys:=by rw[map_map,<- ft];rfl
  refine(PW A ys.length c (.slice CA cols.length cc) (.slice RA row.length rc) (l.map λ a=>(a.1,a.2.1)) w (by rw[<- e1];simp) hl (by rw[e1];exact hA) ?_).mono ?_
  ·intro a ha;obtain⟨b,hb,rfl⟩:=List.mem_map.1 ha;have:=ub b hb;rw[h b hb] at this;exact this
  ·rintro e w' ⟨v,h1,h2,h3⟩;unfold rI;rw[hw];refine⟨v,h1,?_,h3⟩;rw[map_map] at h2;exact h2
 ·have hw:bB cols row ts=.error bad.2.2:=by
   have:cL (Tr.iK cols row ts)=bad.2.2:=by rw[<- hl2,map_append,map_cons];exact E7 (λ a ha=>by obtain⟨b,hb,rfl⟩:=List.mem_map.1 ha;exact h1 b hb) h2
   unfold bB;rw[this,if_pos h2]
  have e1:((pre.map λ a=>(a.1,a.2.1)).map (·.1))++bad.1::post.map (·.1)=ys:=by rw[map_map,<- ft,map_append,map_cons];rfl
  refine(PV A ys.length c (.slice CA cols.length cc) (.slice RA row.length rc) (pre.map λ a=>(a.1,a.2.1)) bad.1 bad.2.1 bad.2.2 (post.map (·.1)) w ?_ hl (by rw[e1];exact hA) ?_ ?_ h2).mono ?_
  ·rw[<- ft];simp;omega
  ·intro a ha;obtain⟨b,hb,rfl⟩:=List.mem_map.1 ha;have:=ub b (mem_append_left _ hb);rw[h1 b hb] at this;exact this
  ·exact ub bad (mem_append_right _ (mem_cons_self ..))
  ·rintro e w' ⟨h1,h3⟩;unfold rI;rw[hw];exact⟨h2,h1,h3⟩
theorem dX:∀ {ts:List Tr} {ys:List Ex},Tr.aO w S ts ys->ts.length=ys.length
 | [],ys,h=>by unfold Tr.aO at h;rw[h];rfl
 | t::ts,ys,h=>by unfold Tr.aO at h;obtain⟨y,ys',rfl,_,h2⟩:=h;rw[length_cons,length_cons,dX h2]
theorem wE:∀(ts:List Tr) (ys:List Ex),Tr.aO w (Old w) ts ys->∃l:List tP,l.length=ys.length/\(∀(i:Nat) y x,ys[i]?=some y->l[i]?=some x->y.A=x.A/\y.n=x.ys.length/\y.c=x.c/\RE w w.heap.size x.A x.ys)/\Tr.aO w (Old w) (ts.flatMap Tr.args) (l.flatMap tP.ys)/\ys.map Ex.n=ts.map λ t=>t.args.length
 | [],ys,h=>by unfold Tr.aO at h;subst h;exact⟨[],rfl,λ i y x h=>by simp at h,by simp[Tr.aO],rfl⟩
 | t::ts,ys,h=>by
   unfold Tr.aO at h;obtain⟨y,ys',rfl,h1,h2⟩:=h;obtain⟨l,l1,l2,l3,l4⟩:=wE ts ys' h2;obtain⟨op,v,name,width,args⟩:=t;unfold Tr.at_ at h1;obtain⟨_,_,_,_,hn,zs,hz1,hz2⟩:=h1;have hzl:zs.length=args.length:=(dX hz2).symm;refine⟨⟨y.A,y.c,zs⟩::l,by simp[l1],?_,?_,?_⟩
   ·intro i y' x hy hx;cases i with
    | zero=>
      simp at hy hx;subst hy hx;refine⟨rfl,by rw[hn];exact hzl.symm,rfl,?_⟩;rcases hz1 with h |⟨b,off,e1,e2,e3⟩
      ·exact .inl h
      ·exact .inr ⟨b,off,e1,e2,e3⟩
    | succ i=>exact l2 i y' x (by simpa using hy) (by simpa using hx)
   ·rw[flatMap_cons,flatMap_cons];exact Tr.all_append hz2 l3
   ·rw[map_cons,map_cons,l4,hn];rfl
theorem Jb:∀(ts:List Tr) (l:List Val),(∀t∈ts,t.args.length<=2)->(ts.map λ t=>t.args.length).sum<=l.length->mn (ts.map λ t=>t.args.length) l=gS ts l
 | [],l,_,_=>rfl
 | t::ts,l,h,hl=>by
   rw[map_cons] at hl ⊢;rw[sum_cons] at hl;unfold mn gS;rw[Jb ts (l.drop t.args.length) (λ u hu=>h u (mem_cons_of_mem _ hu)) (by rw[length_drop];omega)];congr 1;have h2:=h t (mem_cons_self ..);generalize t.args.length=n at*;unfold lg
   match n,h2 with
   | 0,_=>simp
   | 1,_=>
     match l,hl with
     | [],hl=>simp at hl
     | a::l,_=>simp
   | 2,_=>
     match l,hl with
     | [],hl=>simp at hl
     | [a],hl=>simp at hl;omega
     | a::b::l,_=>simp
theorem Cz{l:List α}  {a:α}(h:l[i]?=some a):l.set i a=l:=by
 apply ext_getElem?;intro j;rw[getElem?_set];split
 ·subst_vars;split
  ·exact h.symm
  ·rename_i hn;rw[getElem?_eq_none WC]
 ·rfl
variable{t':TypeId}{cs':Array Value}
theorem ahF{g:Nat}  (h:aB w g t cs)(h':aB w g t' cs'):t=t':=by have e1:w.heap[g]?=some (.cells cs t (0,0)):=h;have e2:w.heap[g]?=some (.cells cs' t' (0,0)):=h';rw[e1] at e2;injection e2 with e2;injection e2
theorem CB:∀l:List Nat,Ma l=l.sum
 | []=>rfl
 | n::l=>by unfold Ma;rw[CB l,sum_cons]
theorem CC:∀(ts:List Tr) (l:List Val),(gS ts l).length=ts.length
 | [],_=>rfl
 | t::ts,l=>by unfold gS;simp[CC ts]
structure gG where
 g:Nat
 KA:Option Addr
 kc:Nat
 key:List Val
 sv:Value
 qs:List Nat
 ss:List St
structure bM (w:World) (A:Option Addr) (l:List Val):Prop where
 rv:RV w w.heap.size A l
 ty:∀a,A=some a->∃cur,aB w a.block 44 cur
theorem bM.keep{A:Option Addr} (h:bM w A l)(hs:w.heap.size<=w'.heap.size)(hk:∀b cur,aB w b 44 cur->w'.heap[b]?=w.heap[b]?):bM w' A l:=by
 refine⟨?_,λ a ha=>?_⟩
 ·rcases h.rv with h0 |⟨b,off,rfl,hb,hc⟩
  ·exact .inl h0
  ·obtain⟨cur,xX⟩:=h.ty _ rfl;refine .inr ⟨b,off,rfl,Nat.lt_of_lt_of_le hb hs,λ i x hx=>(hc i x hx).keep λ o=>bI (hk b cur xX) o⟩
 ·obtain⟨cur,xX⟩:=h.ty a ha;exact⟨cur,(hk _ cur xX).trans xX⟩
theorem bM.off{A:Option Addr}  {qs:List Nat} {ss:List St}(h:bM w A l)(hs:dE w B qs ss):∀a,A=some a->a.block∉qs:=λ a ha=>by obtain⟨cur,xX⟩:=h.ty a ha;exact hs.tQ xX Tab
theorem Jc(h:aI aV 44 3 w base v l):∃A c,v=.slice A l.length c/\l.length<=c/\bM w A l:=by
 obtain⟨A0,c0,e0,_,hle,_⟩:=h.reads;obtain⟨A,c,rfl,hr⟩:=Hl h;injection e0 with e1 e2 e3;refine⟨A,c,rfl,by rw[e3];exact hle,hr,λ a ha=>?_⟩;have qO:(Value.slice A l.length c).ownBlock=some a.block:=by rw[fB,ha];rfl
 obtain⟨_,_,cur,hc⟩:=h.lt qO;exact⟨cur,hc⟩
structure gG.At (w:World) (B:Nat) (x:gG):Prop where
 blk:aB w x.g 141 #[.slice x.KA x.key.length x.kc,x.sv]
 low:B<=x.g
 own:aI cY 145 1 w B x.sv x.qs
 qD:dE w B x.qs x.ss
 key:bM w x.KA x.key
variable{x:gG}
theorem gG.At.keep(h:x.At w B)(hs:w.heap.size<=w'.heap.size)(hk:∀b t cs,aB w b t cs->(t=141\/t=145\/t=44\/t=199/\b∈x.qs)->w'.heap[b]?=w.heap[b]?):x.At w' B:=by
 refine⟨(hk _ _ _ h.blk (.inl rfl)).trans h.blk,h.low,h.own.keep λ g hg=>?_,h.qD.keep hs λ q hq=>?_,h.key.keep hs λ b cur hb=>hk b _ cur hb (.inr (.inr (.inl rfl)))⟩
 ·obtain⟨_,_,cur,hc⟩:=h.own.lt hg;exact hk g _ cur hc (.inr (.inl rfl))
 ·obtain⟨i,hi,he⟩:=getElem_of_mem hq;have h1:=h.qD.at_ i q (x.ss[i]'(by rw[<- h.qD.len];exact hi)) Tax (getElem?_eq_getElem _);exact hk q _ _ h1 (.inr (.inr (.inr ⟨rfl,hq⟩)))
structure kx (w:World) (B:Nat) (xs:List gG):Prop where
 at_:∀x∈xs,x.At w B
 apart:(xs.map gG.qs).Pairwise λ a b=>∀q∈a,q∉b
theorem kx.nil:kx w B []:=⟨λ x h=> Tae,List.Pairwise.nil⟩
variable{xs:List gG}
theorem kx.later(h:kx w B xs)(hb:aj w w'):kx w' B xs:=
 ⟨λ x hx=>(h.at_ x hx).keep hb.size λ b t cs hc _=>hb.block b hc.lt,h.apart⟩
theorem kx.grown{g:Nat}   (h:kx w B xs)(hg:w.grownBy w' (some g))(hc:aB w g t cs)(h1:t≠141)(h2:t≠145)(h3:t≠44)(h4:t≠199):kx w' B xs:=
 ⟨λ x hx=>(h.at_ x hx).keep hg.size λ b t' cs' hc' ho=>hg.block b hc'.lt λ e=>by
   injection e with e
   rw[e] at hc'
   have e2:=ahF hc hc'
   rw[<- e2] at ho
   rcases ho with ho | ho | ho |⟨ho,_⟩
   ·exact h1 ho
   ·exact h2 ho
   ·exact h3 ho
   ·exact h4 ho,h.apart⟩
theorem kx.own{size:Nat}  {l:List α}   (h:kx w B xs)(ho:aI f e size w base v l)(hg:w.grownBy w' v.ownBlock)(h1:e≠141)(h2:e≠145)(h3:e≠44)(h4:e≠199):kx w' B xs:=by
 cases hv:v.ownBlock with
 | none=>rw[hv] at hg;exact h.later (pC hg)
 | some g=>rw[hv] at hg;obtain⟨_,_,cur,hc⟩:=ho.lt hv;exact h.grown hg hc h1 h2 h3 h4
theorem kx.feed{k:Nat}   {ss:List St}(h:kx w B xs)(hx:xs[k]?=some x)(ht:pD w w' x.qs)(hs:dE w' B x.qs ss):kx w' B (xs.set k { x with ss:=ss }):=by
 have hk:k < xs.length:=by
  rcases Nat.lt_or_ge k xs.length with h | h
  ·exact h
  ·rw[getElem?_eq_none h] at hx;cases hx
 have E8:xs[k]=x:=by rw[getElem?_eq_getElem hk] at hx;injection hx
 have PX:=mem_of_getElem? hx
 have hap:(xs.set k { x with ss:=ss }).map gG.qs=xs.map gG.qs:=by
  rw[map_set];have:(xs.map gG.qs)[k]?=some x.qs:=by rw[getElem?_map,hx];rfl
  exact Cz this
 refine⟨λ y hy=>?_,by rw[hap];exact h.apart⟩;obtain⟨i,hi,he⟩:=getElem_of_mem hy;have Gg:i < xs.length:=by simpa using hi
 rw[getElem_set] at he;by_cases hik:k=i
 ·rw[if_pos hik] at he;subst he;have hA:=h.at_ x PX;have hb:∀b t cs,aB w b t cs->t≠199->w'.heap[b]?=w.heap[b]?:=λ b t cs hc hn=>ht.block b hc.lt (hA.qD.tQ hc hn)
  refine⟨(hb _ _ _ hA.blk Tab).trans hA.blk,hA.low,hA.own.keep λ g hg=>?_,hs,hA.key.keep ht.size λ b cur hc=>hb b _ cur hc Tab⟩;obtain⟨_,_,cur,hc⟩:=hA.own.lt hg;exact hb g _ cur hc Tab
 ·rw[if_neg hik] at he;subst he;have hA:=h.at_ xs[i] (getElem_mem Gg);refine hA.keep ht.size λ b t cs hc ho=>ht.block b hc.lt λ hm=>?_
  rcases ho with ho | ho | ho |⟨ho,hm2⟩
  ·exact Zgl
  ·exact Zgl
  ·exact Zgl
  ·have hp:=h.apart;rw[pairwise_iff_getElem] at hp;rcases Nat.lt_or_gt_of_ne hik with h1 | h1
   ·have:=hp k i Ta3 (by simpa using Gg) h1;simp only[getElem_map,E8] at this;exact this b hm hm2
   ·have:=hp i k (by simpa using Gg) Ta3 h1;simp only[getElem_map,E8] at this;exact this b hm2 hm
theorem kx.insert{k:Nat}  (h:kx w B xs)(hx:x.At w B)(hn:∀y∈xs,∀q∈y.qs,q∉x.qs):kx w B (xs.take k++x::xs.drop k):=by
 have hp:(xs.take k++x::xs.drop k).Perm (x::xs):=by have:=perm_middle (a:=x) (l₁:=xs.take k) (l₂:=xs.drop k);rwa [take_append_drop] at this
 refine⟨λ y hy=>?_,?_⟩
 ·rcases List.mem_cons.1 (hp.mem_iff.1 hy)with rfl | h1
  ·exact hx
  ·exact h.at_ y h1
 ·refine((hp.map gG.qs).pairwise_iff (λ {a b} hab q hq lu=>hab q lu hq)).2 ?_;rw[map_cons,pairwise_cons];refine⟨λ b hb q hq=>?_,h.apart⟩;obtain⟨y,hy,rfl⟩:=List.mem_map.1 hb;exact λ hm=>hn y hy q hm hq
end Go.Proofs.YtndgjggokjickaaGreatDoor
