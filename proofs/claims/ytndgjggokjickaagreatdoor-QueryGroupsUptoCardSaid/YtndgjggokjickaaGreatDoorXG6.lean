/- Parts of the proof. -/
import Derived.Lib.AppendZerosOnto
import Derived.Lib.Overlaps
import Derived.Test.YtndgjggokjickaaGreatDoorXG5
namespace Go.Proofs.YtndgjggokjickaaGreatDoor.R
variable{p:Prop}
set_option maxHeartbeats 90000000
set_option maxRecDepth 100000
open Go.ChangeShapes Go.WideShapes Go.ChangeAt Go.RowKit List
set_option linter.unusedVariables false
set_option linter.unusedSimpArgs false
structure ItC (ρ:dy) (w:rQ) (xs:List (Tr×t_)) (r:dH) (k:Nat) (wr:rQ) (A:z_) (n c:Nat) (acc ys:List (Tr×t_)) (l:dH):Prop where
 at_:PuA rb 48 ρ w wr l 0 (.slice A n c) acc [.slice A n c,au,.bool false,ay,ay,ay,ay,ay] {} {}
 more:Tq l ys r
 aM:acc++ys=xs
 len:n=acc.length
 le:ys.length<=k
theorem afW (s:t_)(l:dH)(ρ:dy)(w:rQ)(h:ρ.at w (.good l) false):ar 87 #[ρ.ptr,.string s] w λ e w'=>∃b,b=dK s.data.toList l/\e=.returned (.bool b)/\eN ρ w w' (.good (if b=true then l.tail else l)) false:=by
 cases hb:dK s.data.toList l with
 | false=>exact(cw ρ w _ false h s hb).mono λ e w' ⟨h1,h2⟩=>⟨false,rfl,h1,h2⟩
 | true=>exact(oh ρ w _ false h s hb).mono λ e w' ⟨h1,h2⟩=>⟨true,rfl,h1,h2⟩
variable{s:t_}{l r:dH}{W:List Tr}
theorem I4(h:acV s.data.toList l W r)(ρ:dy)(w:rQ)(hat:ρ.at w (.good l) false):ar 142 #[ρ.ptr,.string s] w (SlW ρ w W r):=by
 cases h with
 | none h=>exact FX h ρ w hat
 | some h H=>exact Qd h H ρ w hat
variable{k0 kf nm:Wd}{l1 l2 l3 l4:dH}{xs:List (Tr×t_)}{bF group:List Tr}{order:List (Tr×Bool)}{lim:List Int}
theorem zhg.Kb5(h:p:=by
 have HP:=Mk LE.ae.res { items:=ED,bT:=bT,bF:=⟨FZ,Gc,Gd⟩,group:=sg,having:=⟨Mm,Mn,Mo⟩,order:=so,dA:=Sl.nil };have HR:=dB HP;unfold Ag nQ at HR;obtain⟨r0,r1,r2,r3,r4,r5,r6,r7⟩:=HR;refine bodyPost_ret (v:=quV { items:=ED,bT:=bT,bF:=⟨FZ,Gc,Gd⟩,group:=sg,having:=⟨Mm,Mn,Mo⟩,order:=so,dA:=Sl.nil }) Zg9 rfl ?_
 ·refine⟨{ items:=ED,bT:=bT,bF:=⟨FZ,Gc,Gd⟩,group:=sg,having:=⟨Mm,Mn,Mo⟩,order:=so,dA:=Sl.nil },rfl,?_,LE.ae.did.Ag ej (Nat.le_refl _) { items:=ED,bT:=bT,bF:=⟨FZ,Gc,Gd⟩,group:=sg,having:=⟨Mm,Mn,Mo⟩,order:=so,dA:=Sl.nil }⟩;rw[oF.ae,<- HF.ae];exact Qu.at_.keep (jm TD) (LE.ae.at_.Ag TD { items:=ED,bT:=bT,bF:=⟨FZ,Gc,Gd⟩,group:=sg,having:=⟨Mm,Mn,Mo⟩,order:=so,dA:=Sl.nil })):p:=h
theorem zhh.Kb5(h:p:=by
 have HP:=Mk LE.ae.res { items:=ED,bT:=bT,bF:=⟨FZ,Gc,Gd⟩,group:=sg,having:=⟨Mm,Mn,Mo⟩,order:=so,dA:=⟨some ⟨VM.heap.size,0,none⟩,1,1⟩};have HR:=dB HP;unfold Ag nQ at HR;obtain⟨r0,r1,r2,r3,r4,r5,r6,r7⟩:=HR;refine bodyPost_ret (v:=quV { items:=ED,bT:=bT,bF:=⟨FZ,Gc,Gd⟩,group:=sg,having:=⟨Mm,Mn,Mo⟩,order:=so,dA:=⟨some ⟨VM.heap.size,0,none⟩,1,1⟩}) Zg9 rfl ?_
 ·refine⟨{ items:=ED,bT:=bT,bF:=⟨FZ,Gc,Gd⟩,group:=sg,having:=⟨Mm,Mn,Mo⟩,order:=so,dA:=⟨some ⟨VM.heap.size,0,none⟩,1,1⟩},rfl,?_,LE.ae.did.Ag ej (Nat.le_refl _) { items:=ED,bT:=bT,bF:=⟨FZ,Gc,Gd⟩,group:=sg,having:=⟨Mm,Mn,Mo⟩,order:=so,dA:=⟨some ⟨VM.heap.size,0,none⟩,1,1⟩}⟩;rw[oF.ae,<- HF.ae,<- hk.ae];exact Qu.at_.keep (jm TD) (LE.ae.at_.Ag TD { items:=ED,bT:=bT,bF:=⟨FZ,Gc,Gd⟩,group:=sg,having:=⟨Mm,Mn,Mo⟩,order:=so,dA:=⟨some ⟨VM.heap.size,0,none⟩,1,1⟩})):p:=h
theorem zcv.Kax(h:p:=by
 have HI0:=aa (Cs ha0 H0);have HM0:=aa NW;clear AK SZ hit qK hfn hz hS hw AL Ai G3 Wy NT ha0 H0 NW;have hb2:=ai.then (ai.then (ah w quZ) (ah _ quZ)) (ah _ (.cells (bL [fF]) 9));have h0:=h.later hb2;have HQ:=aa (((aB.new w 27 #[ay,au,.bool false,ay,ay,ay,ay,ay]).alloc quZ).alloc (.cells (bL [fF]) 9));have hL0:=aB.new (w.alloc quZ) 27 #[ay,au,.bool false,ay,ay,ay,ay,ay];rw[World.size_alloc] at hL0;have HL:=aa (hL0.alloc (.cells (bL [fF]) 9));have hS0:=aB.new ((w.alloc quZ).alloc quZ) 9 (bL [fF]);rw[World.size_alloc,World.size_alloc] at hS0;clear hL0;unfold quZ at*;go_enter Tryz.func134,Tryz.ntmps134;go_wp2_with fail;refine(mn nI.ae ρ _ h0 (w.heap.size+2) hS0 TD).mono ?_;rintro e w1 ⟨rfl,d1⟩;have HA:=aa (show PuA rb 48 ρ w w1 l 0 (ay) [] [ay,au,.bool false,ay,ay,ay,ay,ay] {} {} from⟨kE.nil rb _ w1 _,(eN.dh h hb2).trans d1,HL.ae.grown d1.grown Tab,HQ.ae.grown d1.grown Tab,Qu.G7 _ _,rfl⟩);clear HL HQ hS0 h0 d1 hb2;go_wp2_with fail;refine(cw ρ w1 _ _ HA.ae.did.at_ ⟨#[42]⟩ je.ae).mono ?_;rintro e w3 ⟨rfl,d3⟩;have Qi:=aa (HA.ae.EC ej d3);clear d3 HA;go_wp2_with fail;refine Qh (E:=rb) (val:=itV) (T:=48) (q:=3) (d0:=10) (d1:=11) (d2:=12) (d3:=13) (d4:=14) (d5:=15) (d6:=16) (F:=178) 22 22 Qi.ae ej Taa TD (λ w' Lw=>HI0.ae ρ w' Lw) WC WC WC WC rfl rfl ?_ ?_ ?_ ?_ ?_ ?_ ?_ Tryz.underlying22 FY rfl V0 (λ _=>rfl) (by intro y u hu;replace hu:u∈Tm y:=hu;simp[Tm,bD] at hu;rcases hu with rfl | rfl | rfl | rfl | rfl | rfl | rfl | rfl <;> rfl) ?_
 ·exact ZbZ
 ·exact ZbZ
 ·exact Zdq
 ·exact ZbZ
 ·exact Zem
 ·exact ZfF
 ·exact ZfD
 intro y s v' W A4 cL hxf;obtain⟨⟨A,n,c⟩,KK,Oe,_⟩:=A4.row.sl (B':=w.heap.size) TD;replace KK:v'=.slice A n c:=KK;replace Oe:n=1:=Oe;subst KK;have HI:=aa (show ItC ρ w ((x0,ByteArray.empty)::ys0) (kf::nm::l1) ys0.length (W.setCell ⟨w.heap.size+1,0,none⟩ (.slice A n c)) A n c [(x0,ByteArray.empty)] ys0 (c0::l0)from⟨A4,HM0.ae,rfl,Oe,Nat.le_refl _⟩);clear A4 Oe HM0 HI0 Qi;simp only[Act.put,Uac];go_wp2_with fail;clear hxf cL;generalize W.setCell ⟨w.heap.size+1,0,none⟩ (.slice A n c)=W4 at*;generalize hXS:(x0,ByteArray.empty)::ys0=xs at*;have oF:=aa hXS;clear hXS;generalize ys0.length=kk at*;generalize [(x0,ByteArray.empty)]=aCr at*;generalize c0::l0=lc at*;go_loopg [] kk (λ k wr=>∃A n c acc ys l',ItC ρ w xs (kf::nm::l1) k wr A n c acc ys l');case atStart=>exact⟨_,_,_,_,_,_,HI.ae⟩
 case round=>
  obtain⟨Kx,n2,c2,acc,ys,l',hE⟩:=hrel;have hlen:acc.length<=64:=by have:=LW.ae;rw[<- hE.aM,length_append] at this;omega
  have x0:=hE.at_.blk.cell 0;simp only[Uaa] at x0;have Ts:=hE.at_.blk.lt;have HN:=aa hE.len;have HE:=aa hE;have NZ:=aa hlen;clear hE HI hlen;go_wp2_with fail;rcases HE.ae.more with ⟨hc⟩|⟨hc,hit⟩
  ·refine(Calls.mono (P:=Tryz.prog) (by rw[HN.ae];exact Jb hc acc.length NZ.ae ρ wr HE.ae.at_.did.at_) ?_);rintro e w8 ⟨rfl,d8⟩;have hA:=HE.ae.at_.EC ej d8;obtain⟨ED,anY,hn8,Ml⟩:=hA.row.sl (B':=w.heap.size+2) (Nat.le_refl _);clear hn8;have hax:acc=xs:=by have:=HE.ae.aM;rwa [append_nil] at this
   have Vy:=aa (hA.done (m':= { items:=ED }) (d':= { items:=xs }) (by rw[anY];rfl) { Qu.G7 w8 _ with items:=hax▸Ml });clear Ml anY hA d8 hax hc;have XX:=Vy.ae.blk.lt;have bf:=ah w8 (.cells (bL [xO]) 9);have HQF:=aa (Vy.ae.later bf);clear HE Vy;go_wp2_with fail;refine(mn HFN.ae ρ _ HQF.ae.did.at_ w8.heap.size (aB.new _ _ _) TD).mono ?_;rintro e w4 ⟨rfl,d4⟩;have zl:=aa (HQF.ae.EC ej d4);clear HQF d4 bf;go_wp2_with fail;refine(cw ρ _ _ _ zl.ae.did.at_ ⟨#[111,110,108,121]⟩ HK.ae).mono ?_;rintro e w5 ⟨rfl,d5⟩;have hQ3:=zl.ae.EC ej d5;have I3:=aa (hQ3.set (m':= { items:=ED }) (d':= { items:=xs }) ej 2 (.bool false) rfl hQ3.at_);have hf2:=hQ3.blk.frozen 2;have hc2:=hQ3.blk.cell 2;clear hQ3 d5 zl;go_wp2_with fail;clear hf2 hc2;generalize w5.setCell ⟨w.heap.size+1,2,none⟩ (.bool false)=W6 at*;refine(Cp HS.ae HO.ae ρ _ I3.ae.did.at_).mono ?_;rintro e w6 ⟨bT,aoa,rfl,d6⟩;have HF:=aa aoa;clear aoa;have hQ5:=I3.ae.EC ej d6;have Ad:=aa (hQ5.set (m':= { items:=ED,bT:=bT }) (d':= { items:=xs,bT:=bT }) ej 1 (.string bT) rfl { hQ5.at_ with bT:=rfl });have hf1:=hQ5.blk.frozen 1;have hc1:=hQ5.blk.cell 1;clear hQ5 d6 I3;go_wp2_with fail;clear hf1 hc1;generalize w6.setCell ⟨w.heap.size+1,1,none⟩ (.string bT)=W7 at*;refine(I4 (s:=⟨#[119,104,101,114,101]⟩) mr.ae ρ _ Ad.ae.did.at_).mono ?_;rintro e w7 ⟨⟨FZ,Gc,Gd⟩,rfl,hsw,d7⟩;have hs7:=Ad.ae.did.size;have hq7:=Ad.ae.blk.lt;have hQ7:=Ad.ae.EC ej d7;have IW:=aa (hQ7.set (m':= { items:=ED,bT:=bT,bF:=⟨FZ,Gc,Gd⟩}) (d':= { items:=xs,bT:=bT,bF:=bF }) ej 3 (.slice FZ Gc Gd) rfl { hQ7.at_ with bF:=El.lies.more hsw TD})
   have hf3:=hQ7.blk.frozen 3;have hc3:=hQ7.blk.cell 3;clear hQ7 d7 hsw Ad;unfold nQ at*;go_upto_if 42 with fail;clear hf3 hc3;generalize w7.setCell ⟨w.heap.size+1,3,none⟩ (.slice FZ Gc Gd)=W8 at*;refine(afW ⟨#[103,114,111,117,112]⟩ l2 ρ _ IW.ae.did.at_).mono ?_;rintro e w8 ⟨bg,hbg,rfl,d8⟩;have HBG:=aa hbg;have Tj:=aa d8;clear hbg d8;go_upto_if 42 with fail;go_cut [] (λ wx=>∃sg,Ya ρ w wx l3 { items:=ED,bT:=bT,bF:=⟨FZ,Gc,Gd⟩,group:=sg } { items:=xs,bT:=bT,bF:=bF,group:=group })
   case first=>
    rcases A1.ae with ⟨hg⟩|⟨hk,hb,hc,H⟩
    ·obtain rfl:bg=false:=HBG.ae.trans hg;have HQ9:=aa (IW.ae.EC ej Tj.ae);clear Tj hg IW;go_wp2_with fail;go_meet;exact⟨_,HQ9.ae⟩
    ·obtain rfl:bg=true:=HBG.ae.trans hk;have d8:=Tj.ae;replace hb:=aa hb;replace hc:=aa hc;have HQ9:=aa ((IW.ae.EC ej d8).later (ah w8 (.cells (bL [PA]) 9)));have hw8:=d8.size;have hs8:=IW.ae.did.size;clear d8 Tj hk IW;go_wp2_with fail;refine(mn hb.ae ρ _ HQ9.ae.did.at_ w8.heap.size (aB.new _ _ _) TD).mono ?_;rintro e w9 ⟨rfl,d9⟩;have xY:=aa (HQ9.ae.EC ej d9);clear d9 HQ9;go_wp2_with fail;refine(VO hc.ae H ρ _ xY.ae.did.at_).mono ?_;rintro e zq ⟨⟨sgA,yO,sgc⟩,rfl,hsg,d10⟩;have IX:=xY.ae.blk.lt;have Ct:=xY.ae.EC ej d10;have Jc:=aa (Ct.set (m':= { items:=ED,bT:=bT,bF:=⟨FZ,Gc,Gd⟩,group:=⟨sgA,yO,sgc⟩}) (d':= { items:=xs,bT:=bT,bF:=bF,group:=[_] }) ej 4 (.slice sgA yO sgc) rfl { Ct.at_ with group:=El.lies.more hsg TD});have hf4:=Ct.blk.frozen 4;have hc4:=Ct.blk.cell 4;clear Ct d10 hsg xY;unfold nQ;go_wp2_with fail;go_meet;exact⟨_,Jc.ae⟩
   case rest=>
    obtain⟨sg,hQ⟩:=hcut;have HQ9:=aa hQ;clear hQ IW Tj;go_wp2_with fail;refine(FX (s:=⟨#[104,97,118,105,110,103]⟩) A2.ae ρ _ HQ9.ae.did.at_).mono ?_;rintro e w11 ⟨⟨Mm,Mn,Mo⟩,rfl,hsh,d11⟩;have aCs:=HQ9.ae.blk.lt;have Ct:=HQ9.ae.EC ej d11;have Jc:=aa (Ct.set (m':= { items:=ED,bT:=bT,bF:=⟨FZ,Gc,Gd⟩,group:=sg,having:=⟨Mm,Mn,Mo⟩}) (d':= { items:=xs,bT:=bT,bF:=bF,group:=group }) ej 5 (.slice Mm Mn Mo) rfl { Ct.at_ with having:=El.lies.more hsh TD});have hf5:=Ct.blk.frozen 5;have hc5:=Ct.blk.cell 5;clear Ct d11 hsh HQ9;unfold nQ;go_upto_if 53 with fail;clear hf5 hc5;generalize w11.setCell ⟨w.heap.size+1,5,none⟩ (.slice Mm Mn Mo)=W12 at*;refine(afW ⟨#[111,114,100,101,114]⟩ l3 ρ _ Jc.ae.did.at_).mono ?_;rintro e w12 ⟨bo,Cu,rfl,d12⟩;have HBO:=aa Cu;have I5:=aa d12;clear Cu d12;go_upto_if 53 with fail;go_cut [] (λ wx=>∃so,Ya ρ w wx l4 { items:=ED,bT:=bT,bF:=⟨FZ,Gc,Gd⟩,group:=sg,having:=⟨Mm,Mn,Mo⟩,order:=so } { items:=xs,bT:=bT,bF:=bF,group:=group,order:=order })
    case first=>
     rcases HJ.ae with ⟨hg⟩|⟨hk,hb,hd,hc,H⟩
     ·obtain rfl:bo=false:=HBO.ae.trans hg;have Ah:=aa (Jc.ae.EC ej I5.ae);clear I5 hg Jc;go_wp2_with fail;go_meet;exact⟨_,Ah.ae⟩
     ·obtain rfl:bo=true:=HBO.ae.trans hk;have d12:=I5.ae;replace hb:=aa hb;replace hc:=aa hc;have HOD:=aa (Qe hd H);have Ah:=aa ((Jc.ae.EC ej d12).later (ah w12 (.cells (bL [PA]) 9)));have aCv:=Jc.ae.did.size;have aCw:=d12.size;clear d12 I5 hk hd H Jc;go_wp2_with fail;refine(mn hb.ae ρ _ Ah.ae.did.at_ w12.heap.size (aB.new _ _ _) TD).mono ?_;rintro e Tl ⟨rfl,d13⟩;have I6:=Ah.ae.EC ej d13;have HP:=aa (show PuA sD 117 ρ w Tl _ 6 (ay) [] _ { items:=ED,bT:=bT,bF:=⟨FZ,Gc,Gd⟩,group:=sg,having:=⟨Mm,Mn,Mo⟩} { items:=xs,bT:=bT,bF:=bF,group:=group } from⟨kE.nil sD _ Tl _,I6.did,I6.blk,I6.res,Qu.at_.keep (λ b hb=>⟨λ _=>rfl,hb.1,hb.2,by simp[Value.ownBlock]⟩) I6.at_,rfl⟩);clear I6 d13 Ah;go_wp2_with fail;refine Qh (E:=sD) (val:=orV) (T:=117) (q:=3) (d0:=57) (d1:=58) (d2:=59) (d3:=60) (d4:=61) (d5:=62) (d6:=63) (F:=180) 24 24 HP.ae ej Taa TD (λ w' Lw=>HOD.ae ρ w' Lw) WC WC WC WC rfl rfl ?_ ?_ ?_ ?_ ?_ ?_ ?_ Tryz.underlying24 Qg rfl V0 (λ _=>rfl) (by intro y u hu;replace hu:u∈H8 y:=hu;simp[H8,bD] at hu;rcases hu with rfl | rfl | rfl | rfl | rfl | rfl | rfl | rfl <;> rfl) ?_
      ·exact ZbZ
      ·exact ZbZ
      ·exact Zdq
      ·exact ZbZ
      ·exact Zem
      ·intro ρ' w' y' h';show _=Result.ok _ (w'.alloc (.cells (H8 y').toArray _));simp[go_sem,h',orV,H8,bD]
      ·exact ZfD
      intro y s v' W A4 cL hxf;obtain⟨⟨A,n,c⟩,KK,Oe,Ml⟩:=A4.row.sl (B':=w.heap.size+2) (Nat.le_refl _);replace KK:v'=.slice A n c:=KK;replace Oe:n=1:=Oe;subst KK Oe;have acW:=aa (A4.done (m':= { items:=ED,bT:=bT,bF:=⟨FZ,Gc,Gd⟩,group:=sg,having:=⟨Mm,Mn,Mo⟩,order:=⟨A,1,c⟩}) (d':= { items:=xs,bT:=bT,bF:=bF,group:=group,order:=[_] }) rfl { Qu.at_.keep (Mh (Nat.le_refl _)) A4.at_ with order:=Ml });clear A4 Ml HP HOD;simp only[Act.put,Uac];go_wp2_with fail;clear hxf cL;generalize avf:W.setCell ⟨w.heap.size+1,6,none⟩ (.slice A 1 c)=W16 at*;clear avf;go_loopg [] 0 (λ k wr=>wr=W16);case atStart=>exact rfl
      case round=>subst hrel;have x6:=acW.ae.blk.cell 6;unfold Mc nQ at x6;simp only[Uaa] at x6;go_wp2_with fail;refine(Jb hc.ae 1 TD ρ _ acW.ae.did.at_).mono ?_;rintro e w17 ⟨rfl,d17⟩;have avg:=aa (acW.ae.EC ej d17);clear d17 acW;go_wp2_with fail;go_meet;exact⟨_,avg.ae⟩
    case rest=>
     obtain⟨so,hQ⟩:=hcut;have Ah:=aa hQ;clear hQ Jc I5;go_wp2_with fail;rcases GZ.ae with ⟨hg⟩|⟨hk,hn⟩
     ·refine(cw ρ _ _ _ Ah.ae.did.at_ ⟨#[108,105,109,105,116]⟩ hg).mono ?_;rintro e VM ⟨rfl,d14⟩;have LE:=aa (Ah.ae.EC ej d14);clear d14 hg Ah;open zhg in exact ZfH
     ·refine(oh ρ _ _ _ Ah.ae.did.at_ ⟨#[108,105,109,105,116]⟩ hk).mono ?_;rintro e Tl ⟨rfl,d13⟩;have acX:=aa (Ah.ae.EC ej d13);replace hn:=aa hn;clear d13 hk Ah;go_wp2_with fail;refine(LV hn.ae ρ _ acX.ae.did.at_).mono ?_;rintro e VM ⟨k,hk,Zg,Ly,rfl,d14⟩;replace hk:=aa hk;have b15:=ah VM (.cells #[af k] 2);have I7:=(acX.ae.EC ej d14).later b15;have anO:=(acX.ae.EC ej d14).blk.lt;have hf7:=I7.blk.frozen 7;have hc7:=I7.blk.cell 7;have LE:=aa (I7.set (m':= { items:=ED,bT:=bT,bF:=⟨FZ,Gc,Gd⟩,group:=sg,having:=⟨Mm,Mn,Mo⟩,order:=so,dA:=⟨some ⟨VM.heap.size,0,none⟩,1,1⟩}) (d':= { items:=xs,bT:=bT,bF:=bF,group:=group,order:=order,dA:=[k] }) ej 7 (aL VM.heap.size 1 1) rfl { I7.at_ with dA:=acU (aB.new VM _ _) ⟨by omega,by simp⟩});clear I7 d14 b15 anO acX;open zhh in exact ZfH
  ·obtain⟨x9,ys9,c9,l9,rfl,H9,ha9,hm9⟩:=hit.first
   refine(Calls.mono (P:=Tryz.prog) (by rw[HN.ae];exact I1 hc acc.length NZ.ae ρ wr HE.ae.at_.did.at_) ?_);rintro e w8 ⟨rfl,d8⟩;have HI9:=aa (Cs ha9 H9);have HM9:=aa hm9;have HA8:=aa (HE.ae.at_.EC ej d8);clear d8 hc hit H9 ha9 hm9;go_wp2_with fail;refine Qh (E:=rb) (val:=itV) (T:=48) (q:=3) (d0:=22) (d1:=23) (d2:=24) (d3:=25) (d4:=26) (d5:=27) (d6:=28) (F:=178) 22 22 HA8.ae ej NZ.ae TD (λ w' Lw=>HI9.ae ρ w' Lw) WC WC WC WC rfl rfl ?_ ?_ ?_ ?_ ?_ ?_ ?_ Tryz.underlying22 FY rfl V0 (λ _=>rfl) (by intro y u hu;replace hu:u∈Tm y:=hu;simp[Tm,bD] at hu;rcases hu with rfl | rfl | rfl | rfl | rfl | rfl | rfl | rfl <;> rfl) ?_
   ·exact ZbZ
   ·exact ZbZ
   ·exact Zdq
   ·exact ZbZ
   ·exact Zem
   ·exact ZfF
   ·exact ZfD
   intro y s v' W A4 cL hxf;obtain⟨⟨A9,n9,c10⟩,KK,Oe,_⟩:=A4.row.sl (B':=w.heap.size) TD;replace KK:v'=.slice A9 n9 c10:=KK;subst KK;have HI9:=aa (show ItC ρ w xs (kf::nm::l1) ys9.length (W.setCell ⟨w.heap.size+1,0,none⟩ (.slice A9 n9 c10)) A9 n9 c10 (acc++ [(x9,ByteArray.empty)]) ys9 (c9::l9)from⟨A4,HM9.ae,by rw[append_assoc];exact HE.ae.aM,Oe,Nat.le_refl _⟩);clear A4 Oe;simp only[Act.put,Uac];go_wp2_with fail;go_roundg ys9.length;case measure=>have:=HE.ae.le;rw[length_cons] at this;omega
   case rel=>exact⟨_,_,_,_,_,_,HI9.ae⟩):p:=h
theorem AP(AK:jg fF k0=true)(SZ:dK xP l=false)(hit:ux l xs (kf::nm::l1))(qK:xs.length<=64)(hfn:jg xO kf=true)(hz:jg ahW nm=false)(hS:nm.k=1)(hw:td nm.s=false)(AL:acV IE l1 bF l2)(Ai:aiy l2 group l3)(G3:dK ZW l3=false)(Wy:aiz l3 order l4)(NT:aiA l4 lim r)(ρ:dy)(w:rQ)(h:ρ.at w (.good (k0::l)) false):
  ar 134 #[ρ.ptr] w λ e w'=>∃y:yj,e=.returned (quV y)/\Qu.at_ w' (ju w.heap.size w') { items:=xs,bT:=⟨nm.s.toArray⟩,bF:=bF,group:=group,order:=order,dA:=lim } y/\eN ρ w w' (.good r) false:=by
 have ej:=h.FQ;obtain⟨x0,ys0,c0,l0,rfl,H0,ha0,NW⟩:=hit.first
 open zcv in exact Za7
end Go.Proofs.YtndgjggokjickaaGreatDoor.R
namespace Go.Proofs.YtndgjggokjickaaGreatDoor
set_option maxHeartbeats 90000000
set_option maxRecDepth 100000
open Go.ChangeShapes Go.WideShapes Go.ChangeAt Go.RowKit List
set_option linter.unusedVariables false
set_option linter.unusedSimpArgs false
theorem rp (y:Ex):(bD y).length=7:=rfl
theorem Mp (b o j:Nat):(Addr.add ⟨b,o,none⟩ j)=⟨b,o+j,none⟩:=by unfold Addr.add;split <;> simp_all
variable{α:Type}{f:α->wL}
theorem wE{size:Nat}(hf:∀x,(f x).length=size)(h0:0 < size):∀(l:List α) (j:Nat) (u:Value),(l.flatMap f)[j]?=some u->∃k r x,j=k*size+r/\r < size/\l[k]?=some x/\(f x)[r]?=some u
 | [],j,u,h=>by simp at h
 | y::l,j,u,h=>by
   rw[flatMap_cons] at h;by_cases hj:j < size
   ·rw[getElem?_append_left (by rw[hf];exact hj)] at h;exact⟨0,j,y,by omega,hj,rfl,h⟩
   ·rw[getElem?_append_right (by rw[hf];omega),hf] at h;obtain⟨k,r,x,h1,hr,h2,h3⟩:=wE hf h0 l _ u h;exact⟨k+1,r,x,by rw[Nat.succ_mul];omega,hr,by simpa using h2,h3⟩
theorem afX:∀ys:u_,(ys.flatMap bD).length=ys.length*7
 | []=>rfl
 | y::ys=>by rw[flatMap_cons,length_append,afX ys,rp,length_cons];omega
variable{w:rQ}{b r:Nat}{x:Ex}{u:Value}
theorem Tt{off:Nat}  (h:cg w b off x)(hr:r < 7)(hu:(bD x)[r]?=some u):w.cell? ⟨b,off+r,none⟩=some u:=by
 unfold cg at h;obtain⟨c0,c1,c2,c3,c4,c5,c6⟩:=h;unfold bD at hu
 match r,hr with
 | 0,_=>rw[<- hu];exact c0
 | 1,_=>rw[<- hu];exact c1
 | 2,_=>rw[<- hu];exact c2
 | 3,_=>rw[<- hu];exact c3
 | 4,_=>rw[<- hu];exact c4
 | 5,_=>rw[<- hu];exact c5
 | 6,_=>rw[<- hu];exact c6
variable{B:Nat}
theorem RE.reads{A:z_} {ys:u_}(h:RE w B A ys):Reads w B 7 A ys.length (ys.flatMap bD):=by
 refine⟨afX ys,λ hn=>?_⟩;rcases h with h |⟨b,off,hA,hb,hc⟩
 ·subst h;simp at hn
 ·refine⟨⟨b,off,none⟩,hA,hb,λ j u hu=>?_⟩;obtain⟨k,r,x,rfl,hr,h2,h3⟩:=wE rp TD ys j u hu;rw[Mp,<- Nat.add_assoc];exact Tt (hc k x h2) hr h3
theorem Jd:∀(ys:u_),∀u∈ys.flatMap bD,u.oneCell'=true:=by
 intro ys u hu;obtain⟨y,_,hu⟩:=List.mem_flatMap.1 hu;simp[bD] at hu;rcases hu with rfl | rfl | rfl | rfl | rfl | rfl | rfl <;> rfl
structure tO where
 A:z_
 c:Nat
 ys:u_
def RL (w:rQ)(B:Nat)(P:z_)(l:List tO):Prop:=∃b off,P=some ⟨b,off,none⟩/\b < B/\∀i x,l[i]?=some x->w.cell? ⟨b,off+i,none⟩=some (.slice x.A x.ys.length x.c)/\RE w B x.A x.ys
variable{w':rQ}{P:z_}{l:List tO}
theorem RL.later(h:RL w w.heap.size P l)(hb:aj w w'):RL w' w'.heap.size P l:=by obtain⟨b,off,h1,h2,h3⟩:=h;exact⟨b,off,h1,Nat.lt_of_lt_of_le h2 hb.size,λ i x hx=>⟨(hb.cell (p:=⟨b,off+i,none⟩) h2).trans (h3 i x hx).1,(h3 i x hx).2.later hb⟩⟩
def lF (l:List tO):Nat:=(l.map λ x=>x.ys.length).sum
theorem Ge (l:List tO)(x:tO):lF (l++ [x])=lF l+x.ys.length:=by simp[lF]
theorem Gf (l:List tO)(k:Nat):lF (l.take k)<=lF l:=by
 have:lF l=lF (l.take k)+lF (l.drop k):=by unfold lF;rw[<- sum_append_nat,<- map_append,take_append_drop]
 omega
theorem uy (P:z_)(c:Nat)(l:List tO)(w:rQ)(hn:l.length<=1000)(hl:lF l<=1000000)(Kx:RL w w.heap.size P l):
  ar 35 #[.slice P l.length c] w λ e w'=>∃v,e=.returned v/\aH bD 46 7 w' w.heap.size v (l.flatMap tO.ys)/\aj w w':=by
 have HR:=aa Kx;have zZ:=aa hl;clear Kx hl;go_enter Tryz.func35,Tryz.ntmps35;go_wp2_with fail;go_loop [3,11] (λ s i=>∃k:Nat,k<=l.length/\i=af k/\s=af (lF (l.take k):Nat)) (λ _ i=>l.length - (intOf i).toNat);case atStart=>exact⟨0,Nat.zero_le _,rfl,rfl⟩
 case round=>
  obtain⟨k,hk,rfl,rfl⟩:=hrel;by_cases hlt:k < l.length
  ·obtain⟨b,off,rfl,hb,hc⟩:=id HR.ae;have hx:=(hc k l[k] (getElem?_eq_getElem hlt)).1;have mW:=aa (show lF (l.take (k+1))=lF (l.take k)+l[k].ys.length by rw[take_add_one,getElem?_eq_getElem hlt];exact Ge _ _);have h1:=Gf l (k+1);have h2:=mW.ae;have h3:=zZ.ae;generalize l[k]=x at*;have h4:lF (l.take k)+x.ys.length<=1000000:=by omega
   generalize lF (l.take k)=s0 at*;have t1:decide ((s0:Int)+(x.ys.length:Int)< 0)=false:=decide_eq_false TD;clear hc h1 h2 h3;go_wp2_with fail;go_round;case rel=>exact⟨k+1,hlt,by go_num,by rw[mW.ae];simp⟩
   case measure=>exact ZaU
  ·have gw:k=l.length:=by omega
   subst gw;have lT:lF (l.take l.length)=lF l:=by rw[take_length]
   rw[lT];have hgr:=ZR (lF l) zZ.ae w;have ym:=aa hgr;clear hgr lT hlt hk;go_wp2_with fail;refine ym.ae.mono ?_;rintro e w1 ⟨v1,rfl,hR,Xd⟩;have yq:=aa hR;have Hb:=aa Xd;clear hR Xd ym;go_wp2_with fail;go_loopw [6,27] (λ v i wr=>∃k:Nat,k<=l.length/\i=af k/\aH bD 46 7 wr w.heap.size v ((l.take k).flatMap tO.ys)/\aj w wr) (λ _ i _=>l.length - (intOf i).toNat);case atStart=>exact⟨0,Nat.zero_le _,rfl,yq.ae,Hb.ae⟩
   case round=>
    clear yq Hb;obtain⟨k,hk,rfl,hp,hb⟩:=hrel;have HP:=aa hp;clear hp;by_cases hlt:k < l.length
    ·have hRL:=HR.ae.later hb;obtain⟨b,off,rfl,kM,hc⟩:=hRL;have hx:=hc k l[k] (getElem?_eq_getElem hlt);have mW:=aa (show(l.take (k+1)).flatMap tO.ys=(l.take k).flatMap tO.ys++l[k].ys by rw[take_add_one,getElem?_eq_getElem hlt,flatMap_append];simp)
     have hle:((l.take k).flatMap tO.ys).length+l[k].ys.length<=1000000:=by
      have h1:=Gf l (k+1);have h2:lF (l.take (k+1))=lF (l.take k)+l[k].ys.length:=by rw[take_add_one,getElem?_eq_getElem hlt];exact Ge _ _
      have h3:=zZ.ae;have h4:((l.take k).flatMap tO.ys).length=lF (l.take k):=by rw[length_flatMap];rfl
      omega
     generalize l[k]=x at*;generalize (l.take k).flatMap tO.ys=ys at*;obtain⟨hx1,hx2⟩:=hx;have HRD:=aa hx2.reads;have hbase:=hb.size;clear hc hx2;obtain⟨i0,kL,hg4,nj,HZ⟩:=info_parts gC;have HI:=aa kL;have Gk:=aa hg4;have Ej:=aa nj;have tx:=aa HZ;clear kL hg4 nj HZ;go_wp2_with (first
      |(at_builtin
        refine cP wr rfl (.tmp 31) (.tmp 32) 23 rfl w.heap.size 46 i0 _ 7 88 Tryz.underlying23 HI.ae Gk.ae Ej.ae tx.ae rfl TD _ ys.length (ys.flatMap bD) rfl HP.ae wr.heap.size x.A x.ys.length x.c (x.ys.flatMap bD) rfl HRD.ae (Jd _) Tak TD hbase ?_
        intro v4 w4 o4 g4 _
        have b4:=bj HP.ae g4 hbase
        have O4:=aa o4
        clear o4 g4 HP))
     go_roundw;case rel=>refine⟨k+1,hlt,by go_num,?_,hb.trans b4⟩;rw[mW.ae];unfold aH;rw[length_append,flatMap_append];exact O4.ae
     case measure=>exact ZaU
    ·have gw:k=l.length:=by omega
     subst gw;rw[take_length] at HP;go_wp2_with fail;go_ret;exact⟨_,rfl,HP.ae,hb⟩
end Go.Proofs.YtndgjggokjickaaGreatDoor
namespace Go.Proofs.YtndgjggokjickaaGreatDoor.R
set_option maxHeartbeats 90000000
set_option maxRecDepth 100000
open Go.ChangeShapes Go.WideShapes Go.ChangeAt Go.RowKit List
set_option linter.unusedVariables false
set_option linter.unusedSimpArgs false
theorem sM (m:G8):(sL m).toArray.size=28:=rfl
theorem Qk (m:G8):(sL m).toArray.all (·.oneCell')=true:=by simp[sL,Mc,G9,nQ,Value.oneCell']
theorem pz:(Tryz.prog.info? 64).map (·.size)=some 28:=by exact ZgH
section
variable {w wr wr':rQ} {S:Nat->Prop} {v v':Value} {acc l:List Tr} {B:Nat}
end
section
variable {P:Program} {J:wL->rQ->Prop} {w0:rQ} {Q:yD} {a0:Act} {id:Nat} {o0 o1 o2 o3 o4 o5 o6 o7 o8 o9 qu:Oper} {q s d0 d1 d2 d3 d4 d5 d6 d7 d8 d9:Tmp} {pq v0 p1 p2 p3 s1 s2 s3:Value} {A1 A2 A3:Addr}
end
end Go.Proofs.YtndgjggokjickaaGreatDoor.R
namespace Go.Proofs.YtndgjggokjickaaGreatDoor
open List
set_option maxHeartbeats 90000000
set_option maxRecDepth 100000
open Go.RowKit
set_option linter.unusedVariables false
def I8 (o0 o1 o2 o3 o4 o5 o6 o7 o8 o9:Oper)(q s d0 d1 d2 d3 d4 d5 d6 d7 d8 d9:Tmp):Bool:=
 (tmpsOf o0== [s])&&(df [o0,o1,o2,o3,o4,o5,o6,o7,o8,o9] o0 s==none)&&(tmpsOf o1== [q])&&(df [o0,o1,o2,o3,o4,o5,o6,o7,o8,o9] o1 q==none)&&(tmpsOf o2== [d1])&&(df [o0,o1,o2,o3,o4,o5,o6,o7,o8,o9] o2 d1==some 1)&&(tmpsOf o3== [d0,d2])&&(df [o0,o1,o2,o3,o4,o5,o6,o7,o8,o9] o3 d0==some 0)&&(df [o0,o1,o2,o3,o4,o5,o6,o7,o8,o9] o3 d2==some 2)&&(tmpsOf o4== [q])&&(df [o0,o1,o2,o3,o4,o5,o6,o7,o8,o9] o4 q==none)&&(tmpsOf o5== [d4])&&(df [o0,o1,o2,o3,o4,o5,o6,o7,o8,o9] o5 d4==some 4)&&(tmpsOf o6== [d3,d5])&&(df [o0,o1,o2,o3,o4,o5,o6,o7,o8,o9] o6 d3==some 3)&&(df [o0,o1,o2,o3,o4,o5,o6,o7,o8,o9] o6 d5==some 5)&&(tmpsOf o7== [q])&&(df [o0,o1,o2,o3,o4,o5,o6,o7,o8,o9] o7 q==none)&&(tmpsOf o8== [d7])&&(df [o0,o1,o2,o3,o4,o5,o6,o7,o8,o9] o8 d7==some 7)&&(tmpsOf o9== [d6,d8])&&(df [o0,o1,o2,o3,o4,o5,o6,o7,o8,o9] o9 d6==some 6)&&(df [o0,o1,o2,o3,o4,o5,o6,o7,o8,o9] o9 d8==some 8)&&(o0.dst==some d0)&&(o1.dst==some d1)&&(o2.dst==some d2)&&(o3.dst==some d3)&&(o4.dst==some d4)&&(o5.dst==some d5)&&(o6.dst==some d6)&&(o7.dst==some d7)&&(o8.dst==some d8)&&(o9.dst==some d9)&& o0.guard.isNone && o1.guard.isNone && o2.guard.isNone && o3.guard.isNone && o4.guard.isNone && o5.guard.isNone && o6.guard.isNone && o7.guard.isNone && o8.guard.isNone && o9.guard.isNone
section
variable {P:Program} {J:wL->rQ->Prop} {w0:rQ} {Q:yD} {a0:Act} {id:Nat} {o0 o1 o2 o3 o4 o5 o6 o7 o8 o9 qu:Oper} {q s d0 d1 d2 d3 d4 d5 d6 d7 d8 d9:Tmp} {pq v0 p1 p2 p3 s1 s2 s3:Value} {A1 A2 A3:Addr}
theorem Mq (t:TypeId)
  (nT:∀vs w,J vs w->J vs w.drew) (hJ:J [] w0)
  (hm:P.follows .mixedOrders=true) (aZ:dP [o0,o1,o2,o3,o4,o5,o6,o7,o8,o9] a0.tmps.size [o0,o1,o2,o3,o4,o5,o6,o7,o8,o9] 0=true) (hz:eU ([o0,o1,o2,o3,o4,o5,o6,o7,o8,o9]++ [qu]) [qu] 10=true) (hch:lz [o0,o1,o2,o3,o4,o5,o6,o7,o8,o9] [3,6,9]=true) (Cm:I8 o0 o1 o2 o3 o4 o5 o6 o7 o8 o9 q s d0 d1 d2 d3 d4 d5 d6 d7 d8 d9=true)
  (hq:a0.eval (.tmp q)=pq) (h0:a0.eval (.tmp s)=v0)
  (Ey:∀ρ w,ρ (.tmp s)=v0->(execOp ρ o0).run P w=.ok (.value v0) w)
  (hfa:∀ρ w,ρ (.tmp q)=pq->(execOp ρ o1).run P w=.ok (.value p1) w) (E9:∀ρ w,ρ (.tmp q)=pq->(execOp ρ o4).run P w=.ok (.value p2) w) (hf3:∀ρ w,ρ (.tmp q)=pq->(execOp ρ o7).run P w=.ok (.value p3) w)
  (Lw:∀vs w,J vs w->w.cell? A1=some s1/\w.cell? A2=some s2/\w.cell? A3=some s3)
  (fJ:∀ρ w,ρ (.tmp d1)=p1->w.cell? A1=some s1->(execOp ρ o2).run P w=.ok (.value s1) w) (hl2:∀ρ w,ρ (.tmp d4)=p2->w.cell? A2=some s2->(execOp ρ o5).run P w=.ok (.value s2) w) (ud:∀ρ w,ρ (.tmp d7)=p3->w.cell? A3=some s3->(execOp ρ o8).run P w=.ok (.value s3) w)
  (avk:∀ρ w v x v' w',ρ (.tmp d0)=v->ρ (.tmp d2)=x->(Builtin.append_ #[t,t] t #[v,x]).run P w=.ok v' w'->(execOp ρ o3).run P w=.ok (.value v') w')
  (avl:∀ρ w v x v' w',ρ (.tmp d3)=v->ρ (.tmp d5)=x->(Builtin.append_ #[t,t] t #[v,x]).run P w=.ok v' w'->(execOp ρ o6).run P w=.ok (.value v') w')
  (avm:∀ρ w v x v' w',ρ (.tmp d6)=v->ρ (.tmp d8)=x->(Builtin.append_ #[t,t] t #[v,x]).run P w=.ok v' w'->(execOp ρ o9).run P w=.ok (.value v') w')
  (ha1:∀w,J [] w->∃v' w',(Builtin.append_ #[t,t] t #[v0,s1]).run P w=.ok v' w'/\J [v'] w')
  (ha2:∀a w,J [a] w->∃v' w',(Builtin.append_ #[t,t] t #[a,s2]).run P w=.ok v' w'/\J [a,v'] w')
  (ha3:∀a b w,J [a,b] w->∃v' w',(Builtin.append_ #[t,t] t #[b,s3]).run P w=.ok v' w'/\J [a,b,v'] w')
  (ml:∀a b c W,J [a,b,c] W->wpList P [o0,o1,o2,o3,o4,o5,o6,o7,o8,o9,qu].toArray Q [qu] ((((((((((a0.put (some d0) v0).put (some d1) p1).put (some d2) s1).put (some d3) a).put (some d4) p2).put (some d5) s2).put (some d6) b).put (some d7) p3).put (some d8) s3).put (some d9) c) W):
  (Code.region id [o0,o1,o2,o3,o4,o5,o6,o7,o8,o9,qu].toArray true).wp P Q a0 w0:=by
 simp only[I8,Bool.and_eq_true,beq_iff_eq,Option.isNone_iff_eq_none] at Cm;obtain⟨⟨⟨⟨⟨⟨⟨⟨⟨⟨⟨⟨⟨⟨⟨⟨⟨⟨⟨⟨⟨⟨⟨⟨⟨⟨⟨⟨⟨⟨⟨⟨⟨⟨⟨⟨⟨⟨⟨⟨⟨⟨t2,m0⟩,t0⟩,s0⟩,t1⟩,m2⟩,t3⟩,m3⟩,m3'⟩,t6⟩,s6⟩,t4⟩,s4⟩,LT⟩,m6⟩,m6'⟩,t7⟩,m7⟩,t8⟩,m8⟩,t9⟩,m9⟩,s5'⟩,e0⟩,e1⟩,e2⟩,e3⟩,e4⟩,e5⟩,e6⟩,e7⟩,e8⟩,e9⟩,g2⟩,g0⟩,KK⟩,g3⟩,g6⟩,Ly⟩,g4⟩,g7⟩,g8⟩,g5⟩:=Cm;refine oY [qu] [o0,o1,o2,o3,o4,o5,o6,o7,o8,o9] rfl (λ i=>if i=0 then v0 else if i=1 then p1 else if i=2 then s1 else if i=4 then p2 else if i=5 then s2 else if i=7 then p3 else s3) [3,6,9] J nT hJ hm aZ hz hch V0 rfl ?_ ?_
 ·refine⟨Zde,Zdc,?_,?_,Zdf,?_,?_,?_,?_,?_,trivial⟩
  ·intro ρ w vs hc hG hr;rw[t1] at hr;have r0:=hr.1;simp only[m2] at r0;exact⟨KK,fJ ρ w r0 (Lw _ _ hG).1⟩
  ·intro ρ w vs hc hG hr;rw[t3] at hr;have r0:=hr.1;simp only[m3] at r0;have r1:=hr.2.1;simp only[m3'] at r1;refine⟨g3,?_⟩;show vs.length=0->_;intro hl;obtain rfl:=eq_nil_of_length_eq_zero hl;obtain⟨v',w',hrun,hj⟩:=ha1 w hG;exact aq (avk ρ w _ _ v' w' r0 r1 hrun) hj
  ·intro ρ w vs hc hG hr;rw[t4] at hr;have r0:=hr.1;simp only[s4] at r0;exact⟨Ly,hl2 ρ w r0 (Lw _ _ hG).2.1⟩
  ·intro ρ w vs hc hG hr;rw[LT] at hr;have r0:=hr.1;simp only[m6] at r0;have r1:=hr.2.1;simp only[m6'] at r1;refine⟨g4,?_⟩;show vs.length=1->_;intro hl
   match vs,hl with
   | [a],_=>have r0:some a=some (ρ (.tmp d3)):=r0;injection r0 with r0;obtain⟨v',w',hrun,hj⟩:=ha2 a w hG;exact aq (avl ρ w _ _ v' w' r0.symm r1 hrun) hj
  ·intro ρ w vs hc hG hr;rw[t7] at hr;have r0:=hr.1;simp only[m7] at r0;exact⟨g7,hf3 ρ w (r0.trans hq)⟩
  ·intro ρ w vs hc hG hr;rw[t8] at hr;have r0:=hr.1;simp only[m8] at r0;exact⟨g8,ud ρ w r0 (Lw _ _ hG).2.2⟩
  ·intro ρ w vs hc hG hr;rw[t9] at hr;have r0:=hr.1;simp only[m9] at r0;have r1:=hr.2.1;simp only[s5'] at r1;refine⟨g5,?_⟩;show vs.length=2->_;intro hl
   match vs,hl with
   | [a,b],_=>have r0:some b=some (ρ (.tmp d6)):=r0;injection r0 with r0;obtain⟨v',w',hrun,hj⟩:=ha3 a b w hG;exact aq (avm ρ w _ _ v' w' r0.symm r1 hrun) hj
 ·intro vs w hl hG
  match vs,hl with
  | [a,b,c],_=>simp only[bA,e0,e1,e2,e3,e4,e5,e6,e7,e8,e9];intro a0' z0 a1 z1 a2 z2 a3 z3 a4 Kx a5 LE a6 z4 a7 z7 a8 z8 a9 z5;have z0:a0'=v0:=z0;have z1:a1=p1:=z1;have z2:a2=s1:=z2;have z3:some a=some a3:=z3;have Kx:a4=p2:=Kx;have LE:a5=s2:=LE;have z4:some b=some a6:=z4;have z7:a7=p3:=z7;have z8:a8=s3:=z8;have z5:some c=some a9:=z5;injection z3 with z3;injection z4 with z4;injection z5 with z5;rw[z0,z1,z2,<- z3,Kx,LE,<- z4,z7,z8,<- z5];exact ml a b c w hG
end
end Go.Proofs.YtndgjggokjickaaGreatDoor
namespace Go.Proofs.YtndgjggokjickaaGreatDoor.R
set_option maxHeartbeats 90000000
set_option maxRecDepth 100000
open Go.ChangeShapes Go.WideShapes Go.ChangeAt Go.RowKit List
set_option linter.unusedVariables false
set_option linter.unusedSimpArgs false
def st0:x_:=(sL {}).toArray
section
variable {ρ:dy} {w wr w2:rQ} {big:Bool} {P:Ps St} {σ zh:ck} {q b:Nat} {m:G8} {d:St}
end
section
variable {ρ:dy} {w wr w2:rQ} {big:Bool} {P:Ps St} {σ zh:ck} {q b:Nat} {m:G8} {d:St}
end
theorem Gg (w:rQ)(q:Nat)(cs:x_):w.grownBy (w.setRow q cs) (some q):=
 ⟨rfl,rfl,rfl,by simp,λ i hi hne=>setRow_other w q i cs (λ e=>hne Tbd)⟩
variable{B q:Nat}
theorem Tu(w:rQ)(hq:q < B)(cs:x_):∀b,ju B w b->(∀o,(w.setRow q cs).cell? ⟨b,o,none⟩=w.cell? ⟨b,o,none⟩)/\ju B (w.setRow q cs) b:=λ b hb=>
 ⟨cell_of_heap (setRow_other w q b cs (by have:=hb.1;omega)),hb.1,by rw[size_setRow];exact hb.2⟩
variable{w:rQ}{T:TypeId}{old:x_}
theorem _root_.Go.Proofs.YtndgjggokjickaaGreatDoor.aB.row(h:aB w q T old)(cs:x_):aB (w.setRow q cs) q T cs:=setRow_heap w q old cs T (0,0) h
variable{b:Nat}
theorem _root_.Go.Proofs.YtndgjggokjickaaGreatDoor.aB.acZ(h:aB w b T old)(hq:b≠q)(cs:x_):aB (w.setRow q cs) b T old:=(setRow_other w q b cs hq).trans h
variable{P:Program}{fn:Func}{u v:Tmp}
theorem Je{p:Tmp} {ty:TypeId}(h:fn.results= #[.cell p ty,.tmp u,.tmp v])(tmps:x_)(w:rQ)(g:Nat)(t:TypeId)(cs:x_)(fr:Nat×Nat)(d:TypeDesc)(x y:Value)
  (hp:tmps.getD p undef=aw g) (hg:w.heap[g]?=some (.cells cs t fr))
  (hu:P.underlying ty=some d) (hd:(match d with | .struct _ | .array _ _=>true | _=>false)=true) (hi:(P.info? ty).map (·.size)=some cs.size) (hx:tmps.getD u undef=x) (hy:tmps.getD v undef=y):
  (results fn tmps).run P w=.ok (.tuple #[.agg cs,x,y]) w:=by
 have hp':tmps[p]?.getD undef=aw g:=by simpa using hp
 have hx':tmps[u]?.getD undef=x:=by simpa using hx
 have hy':tmps[v]?.getD undef=y:=by simpa using hy
 simp[results,h,hp',hx',hy',asAddr,Sem.run_bind,run_loadVar_row w g t ty cs fr d hg hu hd hi,Result.andThen]
variable{ρ:dy}{W:rQ}{σ:ck}{big:Bool}
theorem eN.row(h:eN ρ W w σ big)(hW:ρ.g < W.heap.size)(hq:W.heap.size<=q)(cs:x_):eN ρ W (w.setRow q cs) σ big:=
 h.own hW (Gg w q cs) (λ G e=>by injection e with e;omega)
variable{gl:Nat}{l:List qX}
theorem dy.start{c:Nat} (Ai:gl < w.heap.size)(hc:∀k t,l[k]?=some t->w.cell? ⟨gl,k*4,none⟩=some (ag t.w.k)/\w.cell? ⟨gl,k*4+1,none⟩=some (.string ⟨t.w.s.toArray⟩)/\w.cell? ⟨gl,k*4+2,none⟩=some (af t.w.n)/\w.cell? ⟨gl,k*4+3,none⟩=some (af t.p))
  (he:yX (l.map (·.w))) (hlen:l.length<=4097) (hwd:∀t∈l,acS t.w):
  (⟨w.heap.size,gl,c,l⟩:dy).at (w.alloc (.cells #[aL gl l.length c,af 0,af (-1),.bool false] 169)) (.good (l.map (·.w))) false:=by
 have hb:=aB.new w 169 #[aL gl l.length c,af 0,af (-1),.bool false];refine⟨?_,Ai,?_,⟨suffix_refl _,he⟩,?_,λ t ht=>(hwd t ht).1⟩
 ·have e:(⟨w.heap.size,gl,c,l⟩:dy).cells (.good (l.map (·.w))) false= #[aL gl l.length c,af 0,af (-1),.bool false]:=by simp[dy.cells,dy.n,dy.bad,ck.left]
  rw[e];exact hb
 ·intro k t hk;have c:=λ o=>World.cell?_alloc_lt w (.cells #[aL gl l.length c,af 0,af (-1),.bool false] 169) ⟨gl,o,none⟩ Ai
  obtain⟨h1,h2,h3,h4⟩:=hc k t hk;exact⟨(c _).trans h1,(c _).trans h2,(c _).trans h3,(c _).trans h4⟩
 ·show l.length<=5000;omega
theorem Mr(w:rQ)(o:Obj)(cs:x_):∀b,ju B w b->(∀i,((w.alloc o).setRow w.heap.size cs).cell? ⟨b,i,none⟩=w.cell? ⟨b,i,none⟩)/\ju B ((w.alloc o).setRow w.heap.size cs) b:=λ b hb=>
 ⟨cell_of_heap ((setRow_other _ w.heap.size b cs (by have:=hb.2;omega)).trans (Below.heap_alloc w o b hb.2)),hb.1,by rw[size_setRow];have:=hb.2;simp;omega⟩
section
variable {t:Wd} {r:dH}
end
section
variable {α:Type} {E:El α} {T:TypeId} {lng:α->Bool} {el:Ps α} {ρ:dy} {w wr w8:rQ} {big bg:Bool} {P:Ps St} {σ0 σ zh:ck} {q b i k:Nat} {m:G8} {d:St} {w1 gZ w2 W:rQ} {y:E.β} {v v':Value} {acc:List α} {cs:x_}
end
end Go.Proofs.YtndgjggokjickaaGreatDoor.R
namespace Go.Proofs.YtndgjggokjickaaGreatDoor
variable{p:Prop}
set_option maxHeartbeats 90000000
set_option maxRecDepth 100000
open Go.ChangeShapes Go.WideShapes Go.ChangeAt Go.RowKit List
set_option linter.unusedVariables false
set_option linter.unusedSimpArgs false
def Gh (v:R.Val):Val:=⟨v.k,v.n,v.s⟩
mutual
def pX:R.Tr->Tr
 | .mk op v name width args=> .mk op (Gh v) name width (ij args)
def ij:List R.Tr->uF
 | []=> []
 | t::ts=>pX t::ij ts
end
def EE (y:R.Ex):Ex:=⟨y.op,Gh y.v,y.name,y.width,y.A,y.n,y.c⟩
theorem lG:∀ts:List R.Tr,(ij ts).length=ts.length
 | []=>by simp[ij]
 | t::ts=>by simp[ij,lG ts]
variable{w:rQ}{S:Nat->Prop}
theorem afY{A:z_} {ys:List R.Ex}(h:R.RL R.bD 7 w S A ys):YO w S A (ys.map EE):=by
 rcases h with rfl |⟨b,off,Kx,h2,h3⟩
 ·exact .inl rfl
 ·refine .inr ⟨b,off,Kx,h2,λ i x h1=>?_⟩;rw[getElem?_map] at h1
  cases hy:ys[i]? with
  | none=>rw[hy] at h1;cases h1
  | some y=>rw[hy] at h1;injection h1 with h1;subst h1;have k:=h3 i y;exact⟨k 0 _ hy rfl,k 1 _ hy rfl,k 2 _ hy rfl,k 3 _ hy rfl,k 4 _ hy rfl,k 5 _ hy rfl,k 6 _ hy rfl⟩
mutual
theorem Tv {w:rQ} {S:Nat->Prop}:∀(t:R.Tr) (y:R.Ex),t.at_ w S y->(pX t).at_ w S (EE y)
 | .mk op v name width args,y,h=>by unfold R.Tr.at_ at h;obtain⟨h1,h2,h3,h4,h5,ys,h6,h7⟩:=h;unfold pX Tr.at_;exact⟨h1,by rw[<- h2];rfl,h3,h4,by rw[lG];exact h5,ys.map EE,afY h6,yr args ys h7⟩
theorem yr {w:rQ} {S:Nat->Prop}:∀(ts:List R.Tr) (ys:List R.Ex),R.Tr.aM w S ts ys->Tr.aM w S (ij ts) (ys.map EE)
 | [],ys,h=>by unfold R.Tr.aM at h;subst h;unfold ij Tr.aM;rfl
 | t::ts,ys,h=>by unfold R.Tr.aM at h;obtain⟨y,ys',rfl,h1,h2⟩:=h;unfold ij Tr.aM;exact⟨EE y,ys'.map EE,rfl,Tv t y h1,yr ts ys' h2⟩
end
theorem Ms:∀ {ts:List R.Tr} {ys:List R.Ex},R.mF (R.Tr.at_ w S) ts ys->R.Tr.aM w S ts ys
 | _,_,.nil=>by unfold R.Tr.aM;rfl
 | _,_,.cons h k=>by unfold R.Tr.aM;exact⟨_,_,rfl,h,Ms k⟩
variable{n:Nat}
theorem Cv{A:z_}  {l:List R.Tr}(h:R.IL.lies w (Old w) A n l):fT w (ij l) A n:=by obtain⟨h1,ys,h2,h3⟩:=h;exact⟨by rw[lG];exact h1,ys.map EE,afY h2,yr l ys (Ms h3)⟩
variable{γ:Type}
theorem Tw(g:γ->Value):∀ {l:List (R.Tr×γ)} {ys:List (R.Ex×γ)},R.mF (λ x y=>x.1.at_ w S y.1/\y.2=x.2) l ys->Tr.aM w S ((l.map λ x=>(pX x.1,g x.2)).map (·.1)) ((ys.map λ y=>(EE y.1,g y.2)).map (·.1))/\(ys.map λ y=>(EE y.1,g y.2)).map (·.2)=(l.map λ x=>(pX x.1,g x.2)).map (·.2)
 | _,_,.nil=>⟨by simp only[map_nil];unfold Tr.aM;rfl,rfl⟩
 | _,_,.cons h k=>by obtain⟨k1,k2⟩:=Tw g k;simp only[map_cons];refine⟨?_,by rw[k2,h.2]⟩;unfold Tr.aM;exact⟨_,_,rfl,Tv _ _ h.1,k1⟩
theorem I9(g:γ->Value) {A:z_}  {l:List (R.Tr×γ)} {ys:List (R.Ex×γ)}(hn:n=l.length)(h:R.RL (λ y:R.Ex×γ=>R.bD y.1++ [g y.2]) 8 w (Old w) A ys)(h2:R.mF (λ x y=>x.1.at_ w (Old w) y.1/\y.2=x.2) l ys):fE w (l.map λ x=>(pX x.1,g x.2)) A n:=by
 obtain⟨k1,k2⟩:=Tw g h2;refine⟨by rw[length_map];exact hn,ys.map λ y=>(EE y.1,g y.2),?_,k2,k1⟩;rcases h with rfl |⟨b,off,Kx,h2,h3⟩
 ·exact .inl rfl
 ·refine .inr ⟨b,off,Kx,h2,λ i x h1=>?_⟩;rw[getElem?_map] at h1
  cases hy:ys[i]? with
  | none=>rw[hy] at h1;cases h1
  | some y=>rw[hy] at h1;injection h1 with h1;subst h1;have k:=h3 i y;exact⟨⟨k 0 _ hy rfl,k 1 _ hy rfl,k 2 _ hy rfl,k 3 _ hy rfl,k 4 _ hy rfl,k 5 _ hy rfl,k 6 _ hy rfl⟩,k 7 _ hy rfl⟩
theorem Tx:∀ {l:List Int} {ys:List Int},R.mF (λ x y=>y=x) l ys->ys=l
 | _,_,.nil=>rfl
 | _,_,.cons h k=>by rw[h,Tx k]
def fG (d:R.Qu):Qy:=⟨d.items.map λ x=>(pX x.1,x.2),d.bT,d.only,ij d.bF,ij d.group,ij d.having,d.order.map λ x=>(pX x.1,x.2),d.dA⟩
def Ql (y:R.yj):QL:=⟨⟨y.items.A,y.items.n,y.items.c⟩,⟨y.bF.A,y.bF.n,y.bF.c⟩,⟨y.group.A,y.group.n,y.group.c⟩,⟨y.having.A,y.having.n,y.having.c⟩,⟨y.order.A,y.order.n,y.order.c⟩,⟨y.dA.A,y.dA.n,y.dA.c⟩⟩
variable{d:R.Qu}
theorem Ty{y:R.yj}(h:d.at_ w (Old w) y):oX w (fG d) (Ql y)/\R.quV y=oC (fG d) (Ql y):=by
 refine⟨⟨?_,Cv h.bF,Cv h.group,Cv h.having,?_,?_⟩,?_⟩
 ·obtain⟨h1,ys,h2,h3⟩:=h.items;have k:=I9 (λ s:t_=>Value.string s) h1 h2 h3;unfold fG;rw[map_map];exact k
 ·obtain⟨h1,ys,h2,h3⟩:=h.order;have k:=I9 (λ s:Bool=>Value.bool s) h1 h2 h3;unfold fG;rw[map_map];exact k
 ·obtain⟨h1,ys,h2,h3⟩:=h.dA;have k:=Tx h3;subst k;refine⟨h1,?_⟩;rcases h2 with h2 |⟨b,off,h2,h3,h4⟩
  ·exact .inl h2
  ·refine .inr ⟨b,off,h2,h3,λ i x hx=>?_⟩;have:=h4 i x 0 _ hx rfl;rw[show off+i*R.SM.size+0=off+i by show off+i*1+0=off+i;omega] at this;exact this
 ·unfold R.quV R.Mc oC fG Ql R.nQ;rw[h.bT,h.only]
def dn (q:Nat):wL:=[aw q]
theorem J0:(Tryz.prog.info? 145).map (λ i=>(i.zero,i.size,i.bytes))=some (some (.pointer none),1,8):=by exact ZgH
structure dJ (w:rQ) (B:Nat) (qs:List Nat) (ss:List St):Prop where
 len:qs.length=ss.length
 at_:∀(i:Nat) (q:Nat) (s:St),qs[i]?=some q->ss[i]?=some s->cF w q s
 low:∀q∈qs,B<=q/\q < w.heap.size
 apart:qs.Nodup
variable{B:Nat}
theorem dJ.nil:dJ w B [] []:=⟨rfl,(λ i q s h _=>by simp at h),(λ q h=>by cases h),List.Pairwise.nil⟩
variable{w':rQ}
theorem dJ.keep{qs:List Nat} {ss:List St}(h:dJ w B qs ss)(hs:w.heap.size<=w'.heap.size)(hk:∀q∈qs,w'.heap[q]?=w.heap[q]?):dJ w' B qs ss:=
 ⟨h.len,λ i q s hq hs2=>(hk q (mem_of_getElem? hq)).trans (h.at_ i q s hq hs2),λ q hq=>⟨(h.low q hq).1,Nat.lt_of_lt_of_le (h.low q hq).2 hs⟩,h.apart⟩
theorem dJ.later{qs:List Nat} {ss:List St}(h:dJ w B qs ss)(hb:aj w w'):dJ w' B qs ss:=
 h.keep hb.size λ q hq=>hb.block q (h.low q hq).2
variable{q:Nat}{s:St}
theorem dJ.snoc{qs:List Nat} {ss:List St} (h:dJ w B qs ss)(hs:cF w q s)(hB:B<=q)(hq:q∉qs)(hl:q < w.heap.size):dJ w B (qs++ [q]) (ss++ [s]):=by
 refine⟨by simp[h.len],λ i r t hr ht=>?_,λ r hr=>?_,?_⟩
 ·rcases Nat.lt_or_ge i qs.length with hi | hi
  ·rw[getElem?_append_left hi] at hr;rw[getElem?_append_left TaH] at ht;exact h.at_ i r t hr ht
  ·rw[getElem?_append_right hi] at hr;rw[getElem?_append_right TaH,<- h.len] at ht
   have h0:i - qs.length=0:=by
    rcases Nat.lt_or_ge 0 (i - qs.length)with h1 | h1
    ·rw[getElem?_eq_none (by simp only[length_singleton];omega)] at hr;cases hr
    ·omega
   rw[h0] at hr ht;simp at hr ht;subst hr ht;exact hs
 ·rcases List.mem_append.1 hr with hr | hr
  ·exact h.low r hr
  ·rw[mem_singleton] at hr;subst hr;exact⟨hB,hl⟩
 ·rw[nodup_append];exact⟨h.apart,by simp,λ a ha b hb e=>by rw[mem_singleton] at hb;subst hb e;exact hq ha⟩
variable{base:Nat}{v:Value}
theorem dJ.ne{qs:List Nat} {ss:List St}  {l:List Nat}(h:dJ w B qs ss)(ho:aH dn 145 1 w base v l):∀q∈qs,v.ownBlock≠some q:=λ q hq=>by obtain⟨i,hi,he⟩:=getElem_of_mem hq;have h1:=h.at_ i q (ss[i]' TaH) Tav (getElem?_eq_getElem _);exact ho.other h1 V0
theorem dJ.own{qs:List Nat} {ss:List St}  {l:List Nat}(h:dJ w B qs ss)(ho:aH dn 145 1 w base v l)(hg:w.grownBy w' v.ownBlock):dJ w' B qs ss:=
 h.keep hg.size λ q hq=>hg.block q (h.low q hq).2 (Ne.symm (h.ne ho q hq))
variable{i:Nat}{u:Value}
theorem dJ.set{g:Nat} {qs:List Nat} {ss:List St} (h:dJ w B qs ss)(hg:g∉qs):dJ (w.setCell ⟨g,i,none⟩ u) B qs ss:=
 h.keep Taa λ q hq=>Below.heap_setCell w ⟨g,i,none⟩ u q (λ e=>hg (by have e2:q=g:=e;rw[<- e2];exact hq))
theorem Gi (gp:Nat)(ys:u_)(AA:z_)(ac:Nat)(KA:z_)(kn kc:Nat)(w:rQ)(hn:ys.length<=1000000)(sy:gp < w.heap.size)(hpa:w.cell? ⟨gp,9,none⟩=some (.slice AA ys.length ac))(hA:RE w w.heap.size AA ys)(hag:∀y∈ys,isAgg y.op=true):
  ar 63 #[aw gp,.slice KA kn kc] w λ e w'=>∃g sv qs,e=.returned (aw g)/\w.heap.size<=g/\g∉qs/\aB w' g 141 #[.slice KA kn kc,sv]/\aH dn 145 1 w' w.heap.size sv qs/\dJ w' w.heap.size qs (ys.map λ y=>fA y.op)/\aj w w':=by
 have HX:=aB.new w 141 #[.slice KA kn kc,ay];have hb0:=ah w (.cells #[.slice KA kn kc,ay] 141);have HPA:=aa ((hb0.cell (p:=⟨gp,9,none⟩) sy).trans hpa);have Kh:=aa (Nat.lt_of_lt_of_le sy hb0.size);have HA:=aa hA;have HAG:=aa hag;have HSW:=aa (show w.heap.size <(w.alloc (.cells #[.slice KA kn kc,ay] 141)).heap.size by rw[World.size_alloc];omega);clear sy hpa hA hag;go_enter Tryz.func63,Tryz.ntmps63;go_upto_region 2 with fail;generalize w.alloc _=W1 at*;obtain⟨g,hg⟩:∃g,g=w.heap.size:=⟨_,rfl⟩;rw[<- hg] at HX ⊢;have wC:=aa hg;have BN:=aa hb0;have KK:=aa HX;clear hg hb0 HX;have hpa:=HPA.ae;go_wp2_with fail;clear hpa;go_loopw [18] (λ i wr=>∃(j:Nat) (sv:Value) (qs:List Nat),j<=ys.length/\i=af j/\g∉qs/\aB wr g 141 #[.slice KA kn kc,sv]/\aH dn 145 1 wr W1.heap.size sv qs/\dJ wr W1.heap.size qs ((ys.take j).map λ y=>fA y.op)/\aj w wr/\W1.heap.size<=wr.heap.size) (λ i _=>ys.length - (intOf i).toNat);case atStart=>exact⟨0,_,[],Nat.zero_le _,rfl,by simp,KK.ae,aH.nil,.nil,BN.ae,Nat.le_refl _⟩
 case round=>
  obtain⟨j,sv,qs,hk,rfl,Oc,hG,hO,hS,hb,hs⟩:=hrel;have Al:=aa hO;have P5:=aa hS;have HGQ:=aa Oc;have MS:=aa hG;clear hO hS Oc hG KK BN;by_cases hlt:j < ys.length
  ·obtain⟨b,off,rfl,kM,hex⟩:=(HA.ae.below hb).at_ hlt;have hag:=HAG.ae ys[j] (getElem_mem hlt);have mW:=aa (show(ys.take (j+1)).map (λ y=>fA y.op)=(ys.take j).map (λ y=>fA y.op)++ [fA ys[j].op] by rw[take_add_one,getElem?_eq_getElem hlt,map_append];rfl);have Ts:qs.length<=1000000:=by have:=P5.ae.len;simp at this;omega
   generalize ys[j]=y at*;generalize (ys.take j).map (λ y=>fA y.op)=ss at*;unfold cg at hex;go_upto_region 5 with fail;have k1:=aB.new wr 46 (az y);have MK:=ah wr (.cells (az y) 46);have HG:=k1.cell 0;simp only[getElem?_toArray,getElem?_cons_zero] at HG;have HNW:=aa (acp y.op (wr.alloc (.cells (az y) 46)) hag);have bJ:g < wr.heap.size:=MS.ae.lt;generalize wr.alloc _=W2 at*;obtain⟨g8,XZ⟩:∃g8,g8=wr.heap.size:=⟨_,rfl⟩;rw[<- XZ] at HG ⊢;clear XZ k1 hex hag;go_wp2_with fail;refine HNW.ae.mono ?_;rintro e w6 ⟨p,hp,rfl,hst,b1⟩;have b6:=ai.then MK b1;have Ef:wr.heap.size<=p:=Nat.le_trans MK.size hp;clear MK b1 HNW HG hp;go_upto_region 6 with fail;have bN:=ah w6 (.cells #[aw p] 145);have hGN:=aB.new w6 145 #[aw p];have hL:=ai.then b6 bN;have MD:=aa (Al.ae.later hL);have Ei:=aa (P5.ae.later hL);have Cw:=aa (MS.ae.later hL);have sN:=aa (aB.later hst bN);have Mt:=aa (ai.then hb hL);have hbase:W1.heap.size<=(w6.alloc (.cells #[aw p] 145)).heap.size:=Nat.le_trans hs hL.size;have zv:=aa hGN;have hne:=MD.ae.other Cw.ae V0;have hnp:=MD.ae.other sN.ae V0;have nO:=aa hne;have HNP:=aa hnp;have hpl:=sN.ae.lt;have PT:=aa hpl;have hc1:=(MS.ae.later b6).cell 1;simp only[Uaa] at hc1;have Te:p≠g:=by omega
   have hpq:p∉qs:=λ h=>by have:=(P5.ae.low p h).2;omega
   have HPG:=aa Te;have HPQ:=aa hpq;have HWP:=aa (Nat.le_trans hs Ef);clear hGN hne hnp hpl bN b6 hL P5 MS hst Te hpq Al bJ;go_wp2_with (first
    |(at_builtin
      refine aS rfl (.tmp 32) (.tmp 34) 139 rfl _ 8 Tryz.underlying139 J0 rfl TD p rfl TaX rfl MD.ae w6.heap.size rfl zv.ae TD TD hbase ?_
      intro v4 w4 V9 g4
      obtain⟨A4,QN,hv4,_⟩:=V9.reads
      rw[length_append,length_singleton] at hv4
      subst hv4
      have G4:=aa (Cw.ae.grown g4 (Ne.symm nO.ae))
      have gc:=G4.ae.cell 1
      have gf:=G4.ae.frozen 1
      simp only[Uaa] at gc
      have S4:=aa (Ei.ae.own MD.ae g4)
      have P4:=aa (aB.grown sN.ae g4 (Ne.symm HNP.ae))
      have B4:=aa (bj MD.ae g4 hbase)
      have s4:=aa g4.size
      have O4:=aa V9
      clear V9 g4))
   go_roundw
   case rel=>
    have hq4:g∉qs++ [p]:=by
     rw[mem_append,mem_singleton];rintro(h | h)
     ·exact HGQ.ae h
     ·exact HPG.ae h.symm
    have hn4:=O4.ae.other G4.ae V0;refine⟨j+1,_,qs++ [p],hlt,by go_num,hq4,G4.ae.aT 1 _,O4.ae.keep λ Kx Lw=>Below.heap_setCell w4 ⟨g,1,none⟩ _ Kx (λ e=>hn4 TaS),?_,(Mt.ae.trans (B4.ae.mono (Nat.le_of_lt HSW.ae))).setCell TaQ _,?_⟩
    ·rw[mW.ae];exact(S4.ae.snoc P4.ae HWP.ae HPQ.ae (aB.lt P4.ae)).set hq4
    ·have h1:=s4.ae;rw[World.size_setCell];exact Nat.le_trans hbase h1
   case measure=>exact ZaU
  ·have gw:j=ys.length:=by omega
   subst gw;rw[take_length] at P5;go_wp2_with fail;go_ret;exact⟨g,sv,qs,rfl,by rw[wC.ae];exact Nat.le_refl _,HGQ.ae,MS.ae,Al.ae.down (Nat.le_of_lt HSW.ae),⟨P5.ae.len,P5.ae.at_,λ q hq=>⟨Nat.le_trans (Nat.le_of_lt HSW.ae) (P5.ae.low q hq).1,(P5.ae.low q hq).2⟩,P5.ae.apart⟩,hb⟩
def VR (base:Nat)(l:v_)(w:rQ)(e:Ending)(w':rQ):Prop:=∃v,e=.returned v/\aH aU 44 3 w' base v l/\aj w w'
theorem val_one (l:v_):∀u∈l.flatMap aU,u.oneCell'=true:=by
 intro u hu;obtain⟨v,_,hv⟩:=List.mem_flatMap.1 hu;simp[aU] at hv;rcases hv with rfl | rfl | rfl <;> rfl
theorem VS (w:rQ)(base:Nat)(hb:base<=w.heap.size):aH aU 44 3 (w.alloc (.cells #[] 44)) base (aL w.heap.size 0 0) []:=
 ⟨by simp,.inr ⟨w.heap.size,0,#[],rfl,hb,heap_alloc_new w _,Nat.le_refl _,by simp,by simp,by simp⟩⟩
theorem Cx (A:z_)(c:Nat)(l:v_)(w:rQ)(h:RV w w.heap.size A l)(hl:l.length<=1000):
  ar 37 #[.slice A l.length c] w (VR w.heap.size l w):=by
 have HR:=aa h;clear h
 cases A with
 | none=>
   have hl0:l=[]:=by
    rcases HR.ae with h |⟨b,off,h,_⟩
    ·exact h
    ·cases h
   subst hl0;have hnil:(binOp .eql 38 (.slice none 0 c) (ay)).run Tryz.prog w=.ok (.bool true) w:=Go.Lib.run_eql_slice_nil w 38 44 none 0 c 0 0 Tryz.underlying38;go_enter Tryz.func37,Tryz.ntmps37;exact Zhk
 | some ad=>
   have hnil:(binOp .eql 38 (.slice (some ad) l.length c) (ay)).run Tryz.prog w=.ok (.bool false) w:=Go.Lib.run_eql_slice_nil w 38 44 (some ad) l.length c 0 0 Tryz.underlying38;obtain⟨i0,kL,hg4,nj,HZ⟩:=info_parts lU;have bb:=ah w (.cells #[] 44);have HO:=aa (VS w w.heap.size (Nat.le_refl _));have Yc:=aa (HR.ae.later bb).reads;have hsz:w.heap.size<=(w.alloc (.cells #[] 44)).heap.size:=bb.size;have HI:=aa kL;have Gk:=aa hg4;have Ej:=aa nj;have tx:=aa HZ;clear kL hg4 nj HZ;go_enter Tryz.func37,Tryz.ntmps37;go_wp2_with (first
    |(at_builtin
      refine cP _ rfl (.tmp 5) (.tmp 6) 38 rfl w.heap.size 44 i0 _ 3 32 Tryz.underlying38 HI.ae Gk.ae Ej.ae tx.ae rfl TD _ 0 [] rfl HO.ae _ (some ad) l.length c (l.flatMap aU) rfl Yc.ae (val_one l) Tak TD hsz ?_
      intro v2 w2 o2 g2 _
      have O2:=aa o2
      have G2:=aa g2
      clear o2 g2))
   have b2:=bj HO.ae G2.ae hsz;have O3:aH aU 44 3 w2 w.heap.size v2 l:=by have:=O2.ae;unfold aH;simpa using this
   go_ret;exact⟨_,rfl,O3,bb.trans b2⟩
theorem rD:(Tryz.prog.info? 113).map (λ i=>(i.zero,i.size,i.bytes))=some (some (.agg #[au,ag 0]),2,24):=by exact ZgH
theorem afZ:∀ys:List aV,(ys.flatMap aR).length=ys.length*2
 | []=>rfl
 | y::ys=>by rw[flatMap_cons,length_append,afZ ys,length_cons];show 2+_=_;omega
theorem RC.reads{A:z_} {l:List aV}(h:RC w B A l):Reads w B 2 A l.length (l.flatMap aR):=by
 refine⟨afZ l,λ hn=>?_⟩;rcases h with h |⟨b,off,hA,hb,hc⟩
 ·subst h;simp at hn
 ·refine⟨⟨b,off,none⟩,hA,hb,λ j u hu=>?_⟩;obtain⟨k,r,x,rfl,hr,h2,h3⟩:=wE (f:=aR) (size:=2) (λ _=>rfl) TD l j u hu;rw[Mp,<- Nat.add_assoc];have hx:=hc k x h2;unfold pR at hx;unfold aR at h3
  match r,hr with
  | 0,_=>rw[<- h3];exact hx.1
  | 1,_=>rw[<- h3];exact hx.2
def Jf (base:Nat)(l:List aV)(w:rQ)(e:Ending)(w':rQ):Prop:=∃v,e=.returned v/\aH aR 113 2 w' base v l/\aj w w'
theorem adb (l:List aV):∀u∈l.flatMap aR,u.oneCell'=true:=by
 intro u hu;obtain⟨v,_,hv⟩:=List.mem_flatMap.1 hu;simp[aR] at hv;rcases hv with rfl | rfl <;> rfl
theorem VT (w:rQ)(base:Nat)(hb:base<=w.heap.size):aH aR 113 2 (w.alloc (.cells #[] 113)) base (aL w.heap.size 0 0) []:=
 ⟨by simp,.inr ⟨w.heap.size,0,#[],rfl,hb,heap_alloc_new w _,Nat.le_refl _,by simp,by simp,by simp⟩⟩
theorem Jg (A:z_)(c:Nat)(l:List aV)(w:rQ)(h:RC w w.heap.size A l)(hl:l.length<=1000):
  ar 55 #[.slice A l.length c] w (Jf w.heap.size l w):=by
 have HR:=aa h;clear h
 cases A with
 | none=>
   have hl0:l=[]:=by
    rcases HR.ae with h |⟨b,off,h,_⟩
    ·exact h
    ·cases h
   subst hl0;have hnil:(binOp .eql 28 (.slice none 0 c) (ay)).run Tryz.prog w=.ok (.bool true) w:=Go.Lib.run_eql_slice_nil w 28 113 none 0 c 0 0 Tryz.underlying28;go_enter Tryz.func55,Tryz.ntmps55;exact Zhk
 | some ad=>
   have hnil:(binOp .eql 28 (.slice (some ad) l.length c) (ay)).run Tryz.prog w=.ok (.bool false) w:=Go.Lib.run_eql_slice_nil w 28 113 (some ad) l.length c 0 0 Tryz.underlying28;obtain⟨i0,kL,hg4,nj,HZ⟩:=info_parts rD;have bb:=ah w (.cells #[] 113);have HO:=aa (VT w w.heap.size (Nat.le_refl _));have Yc:=aa (HR.ae.later bb).reads;have hsz:w.heap.size<=(w.alloc (.cells #[] 113)).heap.size:=bb.size;have HI:=aa kL;have Gk:=aa hg4;have Ej:=aa nj;have tx:=aa HZ;clear kL hg4 nj HZ;go_enter Tryz.func55,Tryz.ntmps55;go_wp2_with (first
    |(at_builtin
      refine cP _ rfl (.tmp 5) (.tmp 6) 28 rfl w.heap.size 113 i0 _ 2 24 Tryz.underlying28 HI.ae Gk.ae Ej.ae tx.ae rfl TD _ 0 [] rfl HO.ae _ (some ad) l.length c (l.flatMap aR) rfl Yc.ae (adb l) Tak TD hsz ?_
      intro v2 w2 o2 g2 _
      have O2:=aa o2
      have G2:=aa g2
      clear o2 g2))
   have b2:=bj HO.ae G2.ae hsz;have O3:aH aR 113 2 w2 w.heap.size v2 l:=by have:=O2.ae;unfold aH;simpa using this
   go_ret;exact⟨_,rfl,O3,bb.trans b2⟩
def Mine (w:rQ)(base:Nat)(cl:List aX):Prop:=∀r∈cl,aH aU 44 3 w base r.v r.l
variable{cl:List aX}
theorem Mine.later(h:Mine w base cl)(hb:aj w w'):Mine w' base cl:=λ r hr=>(h r hr).later hb
variable{base':Nat}{cl':List aX}{ov:Value}
theorem Mine.grown(h:Mine w base cl)(ho:aH cq 38 1 w base' ov cl')(hg:w.grownBy w' ov.ownBlock):Mine w' base cl:=λ r hr=>by
 refine(h r hr).keep λ q hq=>?_
 obtain⟨h1,h2,cur,h3⟩:=(h r hr).lt hq;exact hg.block q h1 λ e=>ho.other (show aB w q 44 cur from h3) V0 e.symm
theorem Tz(h:aH cq 38 1 w base v cl)(hm:Mine w base cl):∃A c,v=.slice A cl.length c/\RR w w.heap.size A cl:=by
 obtain⟨A,c,hv,hc⟩:=dT (f:=cq) (size:=1) (λ _=>rfl) h;refine⟨A,c,hv,?_⟩;rcases hc with hc |⟨g,hA,hg,hc⟩
 ·exact .inl hc
 ·refine .inr ⟨g,0,hA,hg,λ i r hr=>⟨?_,?_⟩⟩
  ·have:=hc i r 0 _ hr TD rfl;exact ZeR
  ·obtain⟨A2,c2,e1,e2⟩:=Hz (hm r (mem_of_getElem? hr));unfold aX.v at e1;injection e1 with e1;rw[e1];exact e2
theorem pA(h:w.grownBy w' none):aj w w':=⟨h.os,h.tape,h.output,h.size,λ k hk=>h.block k hk Taa⟩
theorem ade (aF:List aX)(RA:z_)(rc:Nat)(w:rQ)(hn:aF.length<=1000000)(hl:∀r∈aF,r.l.length<=1000000)(hR:RR w w.heap.size RA aF):
  ar 12 #[.slice RA aF.length rc] w λ e w'=>∃v cl,e=.returned v/\aH cq 38 1 w' w.heap.size v cl/\Mine w' w.heap.size cl/\cl.map (·.l)=aF.map (·.l)/\aj w w':=by
 have HR:=aa hR;have zZ:=aa hl;clear hR hl;go_enter Tryz.func12,Tryz.ntmps12;go_wp2_with fail;go_loopw [3,4] (λ v i wr=>∃(k:Nat) (cl:List aX),k<=aF.length/\i=af k/\aH cq 38 1 wr w.heap.size v cl/\Mine wr w.heap.size cl/\cl.map (·.l)=(aF.take k).map (·.l)/\aj w wr) (λ _ i _=>aF.length - (intOf i).toNat);case atStart=>exact⟨0,[],Nat.zero_le _,rfl,aH.nil,(λ r hr=>by cases hr),rfl,Below.refl _ _⟩
 case round=>
  obtain⟨k,cl,hk,rfl,ho,hm,he,hb⟩:=hrel;have HO:=aa ho;have HM:=aa hm;have HE:=aa he;clear ho hm he;by_cases hlt:k < aF.length
  ·obtain⟨b,off,rfl,kM,hcell,uW⟩:=(HR.ae.below hb).at_ hlt;have mW:=aa (show(aF.take (k+1)).map (·.l)=(aF.take k).map (·.l)++ [aF[k].l] by rw[take_add_one,getElem?_eq_getElem hlt,map_append];rfl);have lX:=zZ.ae aF[k] (getElem_mem hlt);have cL:cl.length<=1000000:=by have h1:=congrArg List.length HE.ae;simp only[length_map,length_take] at h1;omega
   generalize aF[k]=r at*;have HRD:=aa (uW.more hb.size).reads;have hbase:=hb.size;obtain⟨i0,kL,hz0,hz1,hz2⟩:=info_parts lU;have HI:=aa kL;have HZ0:=aa hz0;have uV:=aa hz1;have tx:=aa hz2;have hnil:wr.ownsRow w.heap.size 44 3 (ay) 0 []:=⟨rfl,.inl ⟨rfl,rfl⟩⟩;have D7:=aa hnil;clear kL hz0 hz1 hz2 uW hnil;go_wp2_with (first
    |(at_builtin
      refine cP wr rfl (.const (ay)) (.tmp 15) 38 rfl w.heap.size 44 i0 _ 3 32 Tryz.underlying38 HI.ae HZ0.ae uV.ae tx.ae rfl TD _ 0 [] rfl D7.ae wr.heap.size r.A r.l.length r.c (r.l.flatMap aU) rfl HRD.ae (val_one r.l) Tak TD hbase ?_
      intro v2 w2 o2 g2 _
      have b2:=pA g2
      have O2:aH aU 44 3 w2 w.heap.size v2 r.l:=by
       unfold aH
       simpa using o2
      obtain⟨A2,c2,hv2,_⟩:=O2.reads
      subst hv2
      have O2H:=aa O2
      have B2:=aa b2
      clear o2 g2 O2 b2)
    |(at_builtin
      refine aS rfl (.tmp 11) (.tmp 17) 29 rfl _ 24 Tryz.underlying29 qU rfl TD (⟨A2,r.l,c2⟩:aX) rfl TaA rfl ((HO.ae.later B2.ae).later (ah w2 _)) w2.heap.size rfl (aB.new w2 _ _) TD TD (Nat.le_trans hbase (Nat.le_trans B2.ae.size (ah w2 _).size)) ?_
      intro v4 w4 o4 g4
      have M4:=aa (Mine.grown (Mine.later (Mine.later HM.ae B2.ae) (ah w2 _)) ((HO.ae.later B2.ae).later (ah w2 _)) g4)
      have N4:=aa (Mine.grown (cl:=[(⟨A2,r.l,c2⟩:aX)]) (λ q hq=>by rw[mem_singleton] at hq;subst hq;exact O2H.ae.later (ah w2 _)) ((HO.ae.later B2.ae).later (ah w2 _)) g4)
      have b4:=bj ((HO.ae.later B2.ae).later (ah w2 _)) g4 (Nat.le_trans hbase (Nat.le_trans B2.ae.size (ah w2 _).size))
      have B4:=aa ((ai.then (ai.then hb B2.ae) (ah w2 _)).trans b4)
      have O4:=aa o4
      clear o4 g4 b4))
   go_roundw
   case rel=>
    refine⟨k+1,cl++ [⟨A2,r.l,c2⟩],hlt,by go_num,O4.ae,λ q hq=>?_,?_,B4.ae⟩
    ·rcases List.mem_append.1 hq with h | h
     ·exact M4.ae q h
     ·exact N4.ae q h
    ·rw[map_append,HE.ae,mW.ae];rfl
   case measure=>exact ZaU
  ·have gw:k=aF.length:=by omega
   subst gw;rw[take_length] at HE;go_wp2_with fail;exact bodyPost_ret (v:=u3) (by simp[results,Tryz.results12,go_sem]) rfl ⟨_,rfl,cl,HO.ae,HM.ae,HE.ae,hb⟩
variable{b:Nat}
theorem bI(h:w'.heap[b]?=w.heap[b]?)(o:Nat):w'.cell? ⟨b,o,none⟩=w.cell? ⟨b,o,none⟩:=by unfold World.cell?;dsimp only;rw[h]
def Kp (w:rQ)(gp:Nat)(us:wL)(b:Nat):Prop:=b < w.heap.size/\b≠gp/\∀u∈us,u.ownBlock≠some b
def Mv (w:rQ)(u u':Value):Prop:=u'.ownBlock=u.ownBlock\/∀q,u'.ownBlock=some q->w.heap.size<=q
theorem Mv.refl (w:rQ)(u:Value):Mv w u u:=.inl rfl
variable{w1:rQ}{u1 u2:Value}
theorem Mv.trans(h:Mv w u u1)(k:Mv w1 u1 u2)(hs:w.heap.size<=w1.heap.size):Mv w u u2:=by
 rcases k with k | k
 ·rcases h with h | h
  ·exact .inl (k.trans h)
  ·exact .inr λ q hq=>h q (k▸hq)
 ·exact .inr λ q hq=>Nat.le_trans hs (k q hq)
variable{u':Value}
theorem Mv.ne(h:Mv w u u')(hb:b < w.heap.size)(hu:u.ownBlock≠some b):u'.ownBlock≠some b:=λ e=>by
 rcases h with h | h
 ·exact hu (h▸e)
 ·have:=h b e;omega
structure ik (gp:Nat) (w:rQ) (u v:Value) (w':rQ) (u' v':Value):Prop where
 os:w'.os=w.os
 tape:w'.tape=w.tape
 output:w'.output=w.output
 size:w.heap.size<=w'.heap.size
 block:∀k,Kp w gp [u,v] k->w'.heap[k]?=w.heap[k]?
 mu:Mv w u u'
 mv:Mv w v v'
variable{gp:Nat}
theorem eC:Kp w gp [u,v] b↔b < w.heap.size/\b≠gp/\u.ownBlock≠some b/\v.ownBlock≠some b:=by unfold Kp;simp
variable{v':Value}
theorem ik.kp(h:ik gp w u v w' u' v')(hb:Kp w gp [u,v] b):Kp w' gp [u',v'] b:=by rw[eC] at*;exact⟨Nat.lt_of_lt_of_le hb.1 h.size,hb.2.1,h.mu.ne hb.1 hb.2.2.1,h.mv.ne hb.1 hb.2.2.2⟩
theorem ik.refl (gp:Nat)(w:rQ)(u v:Value):ik gp w u v w u v:=⟨rfl,rfl,rfl,Nat.le_refl _,λ _ _=>rfl,.inl rfl,.inl rfl⟩
variable{w2:rQ}{v1 v2:Value}
theorem ik.trans(h:ik gp w u v w1 u1 v1)(k:ik gp w1 u1 v1 w2 u2 v2):ik gp w u v w2 u2 v2:=
 ⟨k.os.trans h.os,k.tape.trans h.tape,k.output.trans h.output,Nat.le_trans h.size k.size,λ b hb=>(k.block b (h.kp hb)).trans (h.block b hb),h.mu.trans k.mu h.size,h.mv.trans k.mv h.size⟩
theorem ik.later(h:ik gp w u v w1 u1 v1)(hb:aj w1 w2):ik gp w u v w2 u1 v1:=
 h.trans ⟨hb.os,hb.tape,hb.output,hb.size,λ k hk=>hb.block k hk.1,.inl rfl,.inl rfl⟩
theorem ik.own(h:ik gp w u v w1 u1 v1)(hb:w1.grownBy w2 (some q))(hq:w.heap.size<=q):ik gp w u v w2 u1 v1:=
 ⟨hb.os.trans h.os,hb.tape.trans h.tape,hb.output.trans h.output,Nat.le_trans h.size hb.size,λ k hk=>(hb.block k (Nat.lt_of_lt_of_le hk.1 h.size) λ e=>by injection e with e;have:=hk.1;omega).trans (h.block k hk),h.mu,h.mv⟩
variable{r:Value}
theorem ik.avp(h:ik gp w u v w1 u1 v1)(hb:w1.grownBy w2 r.ownBlock)(hq:∀q,r.ownBlock=some q->w.heap.size<=q):ik gp w u v w2 u1 v1:=
 ⟨hb.os.trans h.os,hb.tape.trans h.tape,hb.output.trans h.output,Nat.le_trans h.size hb.size,λ k hk=>(hb.block k (Nat.lt_of_lt_of_le hk.1 h.size) λ e=>by have:=hq k e.symm;have:=hk.1;omega).trans (h.block k hk),h.mu,h.mv⟩
theorem ik.low(h:ik gp w u v w' u' v')(hB:B<=w.heap.size)(hg:B<=gp)(hu:∀q,u.ownBlock=some q->B<=q)(hv:∀q,v.ownBlock=some q->B<=q):Below B w w':=
 ⟨h.os,h.tape,h.output,h.size,λ k hk=>h.block k (eC.2 ⟨by omega,by omega,λ e=>by have:=hu k e;omega,λ e=>by have:=hv k e;omega⟩)⟩
variable{y:Ex}
theorem ik.tree{t:Tr}  (h:ik gp w u v w' u' v')(ht:t.at_ w (λ b=>S b/\Kp w gp [u,v] b) y):t.at_ w' (λ b=>S b/\Kp w' gp [u',v'] b) y:=
 Tr.at_.keep (λ b hb=>⟨λ o=>bI (h.block b hb.2) o,hb.1,h.kp hb.2⟩) t y ht
theorem ik.trees{t:uF} {y:u_} (h:ik gp w u v w' u' v')(ht:Tr.aM w (λ b=>S b/\Kp w gp [u,v] b) t y):Tr.aM w' (λ b=>S b/\Kp w' gp [u',v'] b) t y:=
 Tr.aM.keep (λ b hb=>⟨λ o=>bI (h.block b hb.2) o,hb.1,h.kp hb.2⟩) t y ht
variable{α:Type}{f:α->wL}{e:TypeId}
theorem ik.avq{size:Nat}   {l:List α}(h:ik gp w u v w' u' v')(ho:aH f e size w base r l)(hr:∀q,r.ownBlock=some q->Kp w gp [u,v] q):aH f e size w' base r l:=ho.keep λ g hg=>h.block g (hr g hg)
variable{t:TypeId}{cs:x_}
theorem ik.blk{g:Nat}    (h:ik gp w u v w' u' v')(ho:aB w g t cs)(hr:Kp w gp [u,v] g):aB w' g t cs:=(h.block g hr).trans ho
variable{us:wL}
theorem J1{t:Tr} (h:t.at_ w (λ b=>S b/\Kp w gp us b) y):t.at_ w (Old w) y:=Tr.at_.keep (λ b hb=>⟨λ _=>rfl,hb.2.1⟩) t y h
theorem Tr.all_append:∀ {ts us:uF} {ys zs:u_},Tr.aM w S ts ys->Tr.aM w S us zs->Tr.aM w S (ts++us) (ys++zs)
 | [],us,ys,zs,h,k=>by unfold Tr.aM at h;subst h;exact k
 | t::ts,us,ys,zs,h,k=>by unfold Tr.aM at h;obtain⟨y,ys',rfl,h1,h2⟩:=h;rw[cons_append,cons_append];unfold Tr.aM;exact⟨y,ys'++zs,rfl,h1,Tr.all_append h2 k⟩
theorem Tr.eG{t:Tr} (h:t.at_ w S y):Tr.aM w S [t] [y]:=by unfold Tr.aM;refine⟨y,[],rfl,h,?_⟩;unfold Tr.aM;rfl
variable{P:Program}{rest:List Oper}{o:Oper}{a:Act}{Q:yD}
theorem nk{size:Nat}   {l:List α}  {ops:Array Oper}    (hgd:o.guard=none)(s x:Operand)(t:TypeId)
  (ho:o.op=.call { callee:=.builtin .append,args:= #[s,x],argTypes:= #[t,t] })
  (z:Value) (bytes:Nat) (ht:P.underlying t=some (.slice e)) (jB:(P.info? e).map (λ i=>(i.zero,i.size,i.bytes))=some (some z,size,bytes)) (hzs:z.cells.size=size) (hsz:0 < size)
  (y:α) (hf:(f y).length=size) (h1:∀u∈f y,u.oneCell'=true)
  (hs:a.eval s=v) (hown:aH f e size w base v l)
  (g:Nat) (hx:a.eval x=aL g 1 1) (hg:aB w g e (f y).toArray)
  (hlen:(l.length+1)*bytes<=140737488355328) (mL:l.length+1<=140737488355328) (hbase:base<=w.heap.size)
  (h:∀v' w',aH f e size w' base v' (l++ [y])->w.grownBy w' v.ownBlock->Mv w v v'->wpList P ops Q rest (a.put o.dst v') w'):wpList P ops Q (o::rest) a w:=by
 obtain⟨i0,kL,hz0,hz1,hz2⟩:=info_parts jB;refine cP w hgd s x t ho base e i0 z size bytes ht kL hz0 hz1 hz2 hzs hsz v l.length (l.flatMap f) hs hown (g+1) (some ⟨g,0,none⟩) 1 1 (f y) hx ⟨by omega,λ _=>⟨_,rfl,Nat.lt_succ_self _,?_⟩⟩ h1 Tak hlen hbase ?_
 ·exact ZeM
 ·intro v' w' h2 h3 h4;refine h v' w' ZgX h3 ZfA
def adf (k:Int)(q:Qy)(L:QL):x_:= #[ag k,au,ay,au,af 0,au,af 0,.slice L.i.A L.i.n L.i.c,.string q.bT,.bool q.only,.slice L.w.A L.w.n L.w.c,.slice L.g.A L.g.n L.g.c,.slice L.h.A L.h.n L.h.c,.slice L.o.A L.o.n L.o.c,.slice L.l.A L.l.n L.l.c,ag 0,au,af 0,af 0,ay,ay,ay,ag 0,af 0,au,ag 0,af 0,au]
def Od (q:Qy)(L:QL):x_:= #[ag 0,au,ay,au,af 0,au,af 0,.slice L.i.A L.i.n L.i.c,.string q.bT,.bool q.only,.slice L.w.A L.w.n L.w.c,.slice L.g.A L.g.n L.g.c,.slice L.h.A L.h.n L.h.c,.slice L.o.A L.o.n L.o.c,.slice L.l.A L.l.n L.l.c,ag 0,au,af 0,af 0,ay,ay,ay,ag 0,af 0,au,ag 0,af 0,au]
structure kF (w:rQ) (g:Nat) (cs:x_) (v:Value) (l:u_) (wr:rQ):Prop where
 own:aH bD 46 7 wr w.heap.size v l
 blk:aB wr g 27 cs
 low:aj w wr
variable{wr:rQ}
theorem kF.later{g:Nat}   {l:u_} (h:kF w g cs v l wr)(hb:aj wr w'):kF w g cs v l w':=⟨h.own.later hb,h.blk.later hb,Below.trans h.low (hb.mono h.low.size)⟩
def exK (w:rQ)(g:Nat)(cs:x_)(v0:Value)(acc l1 l2 l3:u_):wL->rQ->Prop
 | [],wr=>kF w g cs v0 acc wr
 | [a],wr=>kF w g cs a (acc++l1) wr
 | [_,b],wr=>kF w g cs b (acc++l1++l2) wr
 | [_,_,c],wr=>kF w g cs c (acc++l1++l2++l3) wr
 | _,_=>False
theorem J2 (w:rQ)(g:Nat)(cs:x_)(v0:Value)(acc l1 l2 l3:u_):∀vs wr,exK w g cs v0 acc l1 l2 l3 vs wr->exK w g cs v0 acc l1 l2 l3 vs wr.drew
 | [],wr,h=>kF.later h (Below.refl _ _).drew
 | [a],wr,h=>kF.later h (Below.refl _ _).drew
 | [_,b],wr,h=>kF.later h (Below.refl _ _).drew
 | [_,_,c],wr,h=>kF.later h (Below.refl _ _).drew
 | _::_::_::_::_,wr,h=>h.elim
variable{v0:Value}{acc l1 l2 l3:u_}
theorem Jh{g:Nat}   :∀vs wr,exK w g cs v0 acc l1 l2 l3 vs wr->aB wr g 27 cs
 | [],wr,h=>h.blk
 | [a],wr,h=>h.blk
 | [_,b],wr,h=>h.blk
 | [_,_,c],wr,h=>h.blk
 | _::_::_::_::_,wr,h=>h.elim
variable{m:u_}
theorem mo{g:Nat}   {l:u_} {A:z_} {c:Nat}(h:kF w g cs v l wr)(hm:RE wr wr.heap.size A m)(hl:l.length+m.length<=4400000):
  ∃v' w',(Builtin.append_ #[23,23] 23 #[v,.slice A m.length c]).run Tryz.prog wr=.ok v' w'/\kF w g cs v' (l++m) w':=by obtain⟨i0,kL,hz0,hz1,hz2⟩:=info_parts gC;obtain⟨v',w',h1,h2,h3,_⟩:=gH (P:=Tryz.prog) wr w.heap.size 23 23 46 i0 _ 7 88 Tryz.underlying23 kL hz0 hz1 hz2 rfl TD v l.length (l.flatMap bD) h.own _ A m.length c (m.flatMap bD) hm.reads (Jd m) Tak TD h.low.size;refine⟨v',w',h1,?_,h.blk.grown h3 (λ e=>h.own.other h.blk V0 e.symm),Below.trans h.low (bj h.own h3 h.low.size)⟩;unfold aH;rw[length_append,flatMap_append];exact h2
theorem J3{l:List (Tr×Value)} {A:z_} (h:fE w l A n):∃ys:List (Ex×Value),n=ys.length/\RI w w.heap.size A ys/\Tr.aM w (Old w) (l.map (·.1)) (ys.map (·.1)):=by obtain⟨hn,ys,h1,h2,h3⟩:=h;refine⟨ys,?_,h1,h3⟩;have:=congrArg List.length h2;simp at this;omega
variable{ts:uF}
theorem Ji{A:z_} (h:fT w ts A n):∃ys,n=ys.length/\RE w w.heap.size A ys/\Tr.aM w (Old w) ts ys:=by obtain⟨hn,ys,h1,h2⟩:=h;refine⟨ys,by rw[hn,Tr.aM.length h2],?_,h2⟩;exact ZcM
theorem uz{k:Int}(q:Qy)(L:QL)(w:rQ)(hq:oX w q L)(hlen:q.items.length+q.bF.length+q.aF.length+q.fK.length+q.ord.length<=1100000):
  ar 23 #[.agg (adf k q L)] w λ e w'=>∃v ys,e=.returned v/\aH bD 46 7 w' w.heap.size v ys/\Tr.aM w (Old w) q.all ys/\aj w w':=by
 obtain⟨zi,ni,AK,ti⟩:=J3 hq.i;obtain⟨zo,no,SZ,eM⟩:=J3 hq.o;obtain⟨yw,nw,qK,tw⟩:=Ji hq.w;obtain⟨yg,ng,hfn,tg⟩:=Ji hq.g;obtain⟨yh,nh,hz,th⟩:=Ji hq.h;have hS:zi.length+yw.length+yg.length+yh.length+zo.length<=1100000:=by have a1:=Tr.aM.length ti;have a2:=Tr.aM.length eM;have a3:=Tr.aM.length tw;have a4:=Tr.aM.length tg;have a5:=Tr.aM.length th;simp at a1 a2;omega
 have Cf:=aa (show Tr.aM w (Old w) q.all (zi.map (·.1)++yw++yg++yh++zo.map (·.1)) by
  unfold Qy.all
  have e1:q.items.map (·.1)=(q.items.map λ x=>(x.1,Value.string x.2)).map (·.1):=by rw[map_map];rfl
  have e2:q.ord.map (·.1)=(q.ord.map λ x=>(x.1,Value.bool x.2)).map (·.1):=by rw[map_map];rfl
  rw[e1,e2,<- append_assoc,<- append_assoc]
  exact Tr.all_append (Tr.all_append (Tr.all_append (Tr.all_append ti tw) tg) th) eM)
 have nI:=aa AK;have je:=aa SZ;have LW:=aa qK;have HFN:=aa hfn;have HK:=aa hz;have HS:=aa hS;obtain⟨i0,kL,hg4,nj,HZ⟩:=info_parts gC;have HI:=aa kL;have Gk:=aa hg4;have Ej:=aa nj;have tx:=aa HZ;clear kL hg4 nj HZ;unfold adf;rw[ni,no,nw,ng,nh];have b1:=ah w (.cells #[ag k,au,ay,au,af 0,au,af 0,.slice L.i.A zi.length L.i.c,.string q.bT,.bool q.only,.slice L.w.A yw.length L.w.c,.slice L.g.A yg.length L.g.c,.slice L.h.A yh.length L.h.c,.slice L.o.A zo.length L.o.c,.slice L.l.A L.l.n L.l.c,ag 0,au,af 0,af 0,ay,ay,ay,ag 0,af 0,au,ag 0,af 0,au] 64);have k1:=aB.new w 64 #[ag k,au,ay,au,af 0,au,af 0,.slice L.i.A zi.length L.i.c,.string q.bT,.bool q.only,.slice L.w.A yw.length L.w.c,.slice L.g.A yg.length L.g.c,.slice L.h.A yh.length L.h.c,.slice L.o.A zo.length L.o.c,.slice L.l.A L.l.n L.l.c,ag 0,au,af 0,af 0,ay,ay,ay,ag 0,af 0,au,ag 0,af 0,au];have eX:=aa b1;have c7:=k1.cell 7;have c8:=k1.cell 8;have c9:=k1.cell 9;have c10:=k1.cell 10;have c11:=k1.cell 11;have c12:=k1.cell 12;have Ys:=k1.cell 13;have c14:=k1.cell 14;have Sa:=k1.cell 19;have Sb:=k1.cell 20;have c21:=k1.cell 21;simp only[Uaa] at c7 c8 c9 c10 c11 c12 Ys c14 Sa Sb c21;clear hq hlen ni no nw ng nh AK SZ qK hfn hz ti eM tw tg th hS b1 k1;go_enter Tryz.func23,Tryz.ntmps23;go_upto_region 1 with fail;generalize w.alloc _=W1 at*;go_wp2_with fail;go_loopw [3,4] (λ v iv wr=>v=ay/\iv=af 0/\wr=W1) (λ _ _ _=>0);case atStart=>exact⟨rfl,rfl,rfl⟩
 case round=>
  obtain⟨rfl,rfl,rfl⟩:=hrel;go_wp2_with fail;go_loopw [3,5] (λ v iv wr2=>v=ay/\iv=af 0/\wr2=wr) (λ _ _ _=>0);case atStart=>exact⟨rfl,rfl,rfl⟩
  case round=>
   obtain⟨rfl,rfl,rfl⟩:=hrel;go_upto_region 12 with fail;clear c7 c8 c9 c10 c11 c12 Ys c14 Sa Sb c21;have b2:=ah wr (.cells #[.slice L.i.A zi.length L.i.c,.string q.bT,.bool q.only,.slice L.w.A yw.length L.w.c,.slice L.g.A yg.length L.g.c,.slice L.h.A yh.length L.h.c,.slice L.o.A zo.length L.o.c,.slice L.l.A L.l.n L.l.c] 27);have k2:=aB.new wr 27 #[.slice L.i.A zi.length L.i.c,.string q.bT,.bool q.only,.slice L.w.A yw.length L.w.c,.slice L.g.A yg.length L.g.c,.slice L.h.A yh.length L.h.c,.slice L.o.A zo.length L.o.c,.slice L.l.A L.l.n L.l.c];have HX:=aa (kF.mk aH.nil k2 (Below.trans eX.ae (b2.mono eX.ae.size)):kF w wr.heap.size _ (ay) [] _);generalize wr.alloc (.cells #[.slice L.i.A zi.length L.i.c,.string q.bT,.bool q.only,.slice L.w.A yw.length L.w.c,.slice L.g.A yg.length L.g.c,.slice L.h.A yh.length L.h.c,.slice L.o.A zo.length L.o.c,.slice L.l.A L.l.n L.l.c] 27)=W2 at*;obtain⟨gq,Oc⟩:∃gq,gq=wr.heap.size:=⟨_,rfl⟩;rw[<- Oc] at HX ⊢;clear b2 k2 Oc eX;go_wp2_with fail;generalize wr=wz at*;go_loopw [3,7] (λ v iv wr=>∃(k:Nat),k<=zi.length/\iv=af k/\kF w gq #[.slice L.i.A zi.length L.i.c,.string q.bT,.bool q.only,.slice L.w.A yw.length L.w.c,.slice L.g.A yg.length L.g.c,.slice L.h.A yh.length L.h.c,.slice L.o.A zo.length L.o.c,.slice L.l.A L.l.n L.l.c] v ((zi.take k).map (·.1)) wr) (λ _ iv _=>zi.length - (intOf iv).toNat);case atStart=>exact⟨0,Nat.zero_le _,rfl,HX.ae⟩
   case round=>
    obtain⟨k,hk,rfl,hX⟩:=hrel;have Yd:=aa hX;have Kx:=hX.blk.cell 0;simp only[getElem?_toArray,getElem?_cons_zero] at Kx;have hk9:k<=1100000:=by have:=HS.ae;omega
    clear hX HX;by_cases hx:k < zi.length
    ·obtain⟨b,off,hA,kM,hex⟩:∃b off,L.i.A=some ⟨b,off,none⟩/\b < w.heap.size/\cg w b (off+k*8) zi[k].1:=by
      rcases nI.ae with h |⟨b,off,h1,h2,h3⟩
      ·rw[h] at hx;simp at hx
      ·exact Zhd
     have iQ:=hex.keep (λ o=>Yd.ae.low.cell (p:=⟨b,o,none⟩) kM);have mW:=aa (show(zi.take (k+1)).map (·.1)=(zi.take k).map (·.1)++ [zi[k].1] by rw[take_add_one,getElem?_eq_getElem hx,map_append];rfl);have xy:((zi.take k).map (·.1)).length=k:=by rw[length_map,length_take];omega
     generalize zi[k].1=y at*;generalize (zi.take k).map (·.1)=acc at*;unfold cg at iQ;obtain⟨A3,c3,hv3,_⟩:=Yd.ae.own.reads;rw[xy] at hv3;subst hv3;rw[hA] at Kx;clear hA;have bN:=ah wr (.cells (az y) 46);have hG:=aB.new wr 46 (az y);have kN:=aa (Yd.ae.later bN);have HG:=aa hG;have hbase:=kN.ae.low.size;clear bN hG hex kM;go_wp2_with (first
      |(at_builtin
        refine aS (f:=bD) rfl (.tmp 52) (.tmp 59) 23 rfl _ 88 Tryz.underlying23 gC rfl TD y rfl (by intro u hu;simp[bD] at hu;rcases hu with rfl | rfl | rfl | rfl | rfl | rfl | rfl <;> rfl) rfl kN.ae.own wr.heap.size rfl HG.ae TD TD hbase ?_
        intro v4 w4 o4 g4
        have O4:=aa (kF.mk o4 (kN.ae.blk.grown g4 (λ e=>kN.ae.own.other kN.ae.blk V0 e.symm)) (Below.trans kN.ae.low (bj kN.ae.own g4 hbase)))
        clear o4 g4))
     exact ZfN
    ·have gw:k=zi.length:=by omega
     subst gw;have VU:=aa (show kF w gq _ u3 (zi.map (·.1)) wr by have h1:=Yd.ae;rwa [take_length] at h1);have hlz:(zi.map (·.1)).length=zi.length:=length_map _;have HLZ:=aa hlz;obtain⟨acc,acI⟩:∃acc,acc=zi.map (·.1):=⟨_,rfl⟩;rw[<- acI] at VU HLZ Cf;clear acI;obtain⟨A3,c3,hv3,_⟩:=VU.ae.own.reads;subst hv3;clear Yd hlz;go_upto_region 16 with fail;clear Kx;obtain⟨cs,hcs⟩:∃cs:x_,cs= #[.slice L.i.A zi.length L.i.c,.string q.bT,.bool q.only,.slice L.w.A yw.length L.w.c,.slice L.g.A yg.length L.g.c,.slice L.h.A yh.length L.h.c,.slice L.o.A zo.length L.o.c,.slice L.l.A L.l.n L.l.c]:=⟨_,rfl⟩;have hk3:cs[3]?=some (.slice L.w.A yw.length L.w.c):=by rw[hcs];rfl
     have hk4:cs[4]?=some (.slice L.g.A yg.length L.g.c):=by rw[hcs];rfl
     have hk5:cs[5]?=some (.slice L.h.A yh.length L.h.c):=by rw[hcs];rfl
     have rC:=aa (show kF w gq cs (.slice A3 acc.length c3) acc wr by rw[hcs];exact VU.ae);have Oe:=aa hcs;clear hcs VU;refine Mq (P:=Tryz.prog) (J:=exK w gq cs (.slice A3 acc.length c3) acc yw yg yh) (q:=6) (s:=3) (d0:=61) (d1:=62) (d2:=63) (d3:=64) (d4:=65) (d5:=66) (d6:=67) (d7:=68) (d8:=69) (d9:=70) (pq:=aw gq) (v0:=.slice A3 acc.length c3) (p1:=bc gq 3) (p2:=bc gq 4) (p3:=bc gq 5) (s1:=.slice L.w.A yw.length L.w.c) (s2:=.slice L.g.A yg.length L.g.c) (s3:=.slice L.h.A yh.length L.h.c) (A1:=⟨gq,3,none⟩) (A2:=⟨gq,4,none⟩) (A3:=⟨gq,5,none⟩) 23 (J2 _ _ _ _ _ _ _ _) rC.ae WC WC WC WC WC rfl rfl ?_ ?_ ?_ ?_ (λ vs w' h=>⟨((Jh vs w' h).cell 3).trans hk3,((Jh vs w' h).cell 4).trans hk4,((Jh vs w' h).cell 5).trans hk5⟩) ?_ ?_ ?_ ?_ ?_ ?_ ?_ ?_ ?_ ?_
     ·exact ZbZ
     ·exact ZbZ
     ·exact ZbZ
     ·exact ZbZ
     ·exact Zdq
     ·exact Zdq
     ·exact Zdq
     ·exact Zgt
     ·exact Zgt
     ·exact Zgt
     ·intro w5 KK;exact mo KK ((LW.ae.below (show kF w gq cs _ acc w5 from KK).low).more (show kF w gq cs _ acc w5 from KK).low.size) (by have:=HS.ae;have:=HLZ.ae;omega)
     ·intro a w5 KK;have KK:kF w gq cs a (acc++yw) w5:=KK;exact mo KK ((HFN.ae.below KK.low).more KK.low.size) (by have:=HS.ae;have:=HLZ.ae;rw[length_append];omega)
     ·intro a b w5 KK;have KK:kF w gq cs b (acc++yw++yg) w5:=KK;exact mo KK ((HK.ae.below KK.low).more KK.low.size) (by have:=HS.ae;have:=HLZ.ae;rw[length_append,length_append];omega)
     intro va vb vc W7 hX7;have TA:=aa (show kF w gq cs vc (acc++yw++yg++yh) W7 from hX7);clear hX7 rC hk3 hk4 hk5;have Ax:=aa (show(acc++yw++yg++yh).length=zi.length+yw.length+yg.length+yh.length by simp only[length_append,HLZ.ae]);obtain⟨Qm,aga⟩:∃Qm,Qm=acc++yw++yg++yh:=⟨_,rfl⟩;rw[<- aga] at TA Ax Cf;clear aga;have A4:cs[6]?=some (.slice L.o.A zo.length L.o.c):=by rw[Oe.ae];rfl
     have HC6:=aa A4;clear A4 Oe;simp only[Act.put,Uac];go_wp2_with fail;generalize wr=wy at*;go_loopw [3,8] (λ v iv wr=>∃(k:Nat),k<=zo.length/\iv=af k/\kF w gq cs v (Qm++(zo.take k).map (·.1)) wr) (λ _ iv _=>zo.length - (intOf iv).toNat);case atStart=>exact⟨0,Nat.zero_le _,rfl,by rw[take_zero,map_nil,append_nil];exact TA.ae⟩
     case round=>
      clear TA;obtain⟨k,hk,rfl,hX⟩:=hrel;have Yd:=aa hX;have c6:=(hX.blk.cell 6).trans HC6.ae;have hk9:k<=1100000:=by have:=HS.ae;omega
      clear hX;by_cases hx:k < zo.length
      ·obtain⟨b,off,hA,kM,hex⟩:∃b off,L.o.A=some ⟨b,off,none⟩/\b < w.heap.size/\cg w b (off+k*8) zo[k].1:=by
        rcases je.ae with h |⟨b,off,h1,h2,h3⟩
        ·rw[h] at hx;simp at hx
        ·exact Zhd
       have iQ:=hex.keep (λ o=>Yd.ae.low.cell (p:=⟨b,o,none⟩) kM);have mW:=aa (show Qm++(zo.take (k+1)).map (·.1)=Qm++(zo.take k).map (·.1)++ [zo[k].1] by rw[take_add_one,getElem?_eq_getElem hx,map_append,append_assoc];rfl);have xy:(Qm++(zo.take k).map (·.1)).length<=2200000:=by have:=Ax.ae;have:=HS.ae;rw[length_append,length_map,length_take];omega
       generalize zo[k].1=y at*;generalize Qm++(zo.take k).map (·.1)=acc at*;unfold cg at iQ;obtain⟨A3,c3,hv3,_⟩:=Yd.ae.own.reads;subst hv3;rw[hA] at c6;clear hA;have bN:=ah wr (.cells (az y) 46);have hG:=aB.new wr 46 (az y);have kN:=aa (Yd.ae.later bN);have HG:=aa hG;have hbase:=kN.ae.low.size;clear bN hG hex kM;go_wp2_with (first
        |(at_builtin
          refine aS (f:=bD) rfl (.tmp 78) (.tmp 85) 23 rfl _ 88 Tryz.underlying23 gC rfl TD y rfl (by intro u hu;simp[bD] at hu;rcases hu with rfl | rfl | rfl | rfl | rfl | rfl | rfl <;> rfl) rfl kN.ae.own wr.heap.size rfl HG.ae TD TD hbase ?_
          intro v4 w4 o4 g4
          have O4:=aa (kF.mk o4 (kN.ae.blk.grown g4 (λ e=>kN.ae.own.other kN.ae.blk V0 e.symm)) (Below.trans kN.ae.low (bj kN.ae.own g4 hbase)))
          clear o4 g4))
       exact ZfN
      ·have gw:k=zo.length:=by omega
       subst gw;rw[take_length] at Yd;go_wp2_with fail;go_ret;exact⟨_,_,rfl,Yd.ae.own,Cf.ae,Yd.ae.low⟩
def Mu (w:rQ)(B:Nat)(A:z_)(gs:List Nat):Prop:=gs=[]\/∃g,A=some ⟨g,0,none⟩/\g < B/\∀(i:Nat) q,gs[i]?=some q->w.cell? ⟨g,i,none⟩=some (aw q)
theorem Mu.later{A:z_} {l:List Nat}(h:Mu w w.heap.size A l)(hb:aj w w'):Mu w' w'.heap.size A l:=by
 rcases h with h |⟨g,h1,h2,h3⟩
 ·exact .inl h
 ·exact .inr ⟨g,h1,Nat.lt_of_lt_of_le h2 hb.size,λ i x hx=>(hb.cell (p:=⟨g,i,none⟩) h2).trans (h3 i x hx)⟩
theorem Mu.at_{A:z_} {l:List Nat}(h:Mu w B A l) {k:Nat}(hk:k < l.length):∃g,A=some ⟨g,0,none⟩/\g < B/\w.cell? ⟨g,k,none⟩=some (.pointer (some ⟨l[k],0,none⟩)):=by
 rcases h with h |⟨g,h1,h2,h3⟩
 ·subst h;simp at hk
 ·exact⟨g,h1,h2,h3 k l[k] (getElem?_eq_getElem hk)⟩
variable{gs:List Nat}
theorem wF(h:aH dn e 1 w base v gs):∃A c,v=.slice A gs.length c/\gs.length<=c/\Mu w w.heap.size A gs:=by
 obtain⟨A0,c0,e0,_,hle,_⟩:=h.reads;obtain⟨A,c,rfl,h1⟩:=dT (f:=dn) (size:=1) (λ _=>rfl) h;injection e0 with _ _ e0;refine⟨A,c,rfl,by rw[e0];exact hle,?_⟩;rcases h1 with h1 |⟨g,h1,h2,h3⟩
 ·exact .inl h1
 ·refine .inr ⟨g,h1,h2,λ i q hq=>?_⟩;have:=h3 i q 0 _ hq TD rfl;exact ZeR
theorem Qn (gg:Nat)(KA tA:z_)(k t:v_)(kc tc:Nat)(w:rQ)(hg:gg < w.heap.size)(hk:w.cell? ⟨gg,0,none⟩=some (.slice KA k.length kc))(hK:RV w w.heap.size KA k)(hT:RV w w.heap.size tA t)(hl:k.length<=1000)(ht:t.length<=1000):
  ar 65 #[aw gg,.slice tA t.length tc] w λ e w'=>e=.returned (af (bR k t))/\aj w w':=by have HR:=BH KA kc k tA tc t w hK hT hl ht;clear hK hT hl ht;go_enter Tryz.func65,Tryz.ntmps65;go_wp2_with fail;refine HR.mono ?_;rintro e w1 ⟨rfl,b1⟩;clear HR hk;go_wp2_with fail;go_ret;exact⟨rfl,b1⟩
def Cy (n:Nat)(c:Nat->Int)(w:rQ)(e:Ending)(w':rQ):Prop:=∃k:Nat,k<=n/\e=.returned (.tuple #[af k,.bool (decide (k < n)&& decide (c k=0))])/\(∀i,i < k->c i < 0)/\(∀i,k<=i->i < n->0<=c i)/\aj w w'
theorem zeg.KaV(h:p:=by
 have EB:jp < gs.length:=by have:=HN.ae;omega
 obtain⟨g,rfl,hg,Kx⟩:=HA.ae.at_ EB;have hz:=(hb.cell (p:=⟨g,jp,none⟩) hg).trans Kx;have hex:=HE.ae jp EB _ hb;have HML:=aa EB;generalize gs[jp]=q at*;clear Kx hg EB;go_wp2_with fail;refine hex.mono ?_;rintro e w1 ⟨rfl,b1⟩;have hb1:=ai.then hb b1;clear hex hz b1 hb;by_cases hc:c jp < 0
 ·go_wp2_with fail;go_roundw;case rel=>exact⟨jp+1,j,by omega,hj,by go_num,rfl,λ t ht=>HL.ae t jp TD HML.ae hc,HF.ae,hb1⟩
  case measure=>exact ZaU
 ·go_wp2_with fail;go_roundw;case rel=>exact⟨i,jp,by omega,by omega,rfl,rfl,H2.ae,λ t h1 h2=>Int.not_lt.1 λ h=>absurd (HL.ae jp t h1 Tbo h) TD,hb1⟩
  case measure=>exact ZaU):p:=h
theorem Qo (gs:List Nat)(SA tA:z_)(sc tn tc:Nat)(c:Nat->Int)(w:rQ)(hn:gs.length<=1000000)(hA:Mu w w.heap.size SA gs)
  (hE:∀i (h:i < gs.length),∀W,aj w W->ar 65 #[.pointer (some ⟨gs[i],0,none⟩),.slice tA tn tc] W λ e w'=>e=.returned (af (c i))/\aj W w')
  (hm:∀i j,i<=j->j < gs.length->c j < 0->c i < 0):
  ar 64 #[.slice SA gs.length sc,.slice tA tn tc,.func (.func 65) #[] #[]] w (Cy gs.length c w):=by
 have HA:=aa hA;have HE:=aa hE;have HL:=aa hm;clear hA hE hm;obtain⟨n,qR⟩:∃n,n=gs.length:=⟨_,rfl⟩;have HN:=aa qR;rw[<- qR] at hn ⊢;clear qR;go_enter Tryz.func64,Tryz.ntmps64;go_wp2_with fail;go_loopw [9,10] (λ lo hi wr=>∃i j:Nat,i<=j/\j<=n/\lo=af i/\hi=af j/\(∀t,t < i->c t < 0)/\(∀t,j<=t->t < n->0<=c t)/\aj w wr) (λ lo hi _=>(intOf hi).toNat - (intOf lo).toNat);case atStart=>exact⟨0,n,Nat.zero_le _,Nat.le_refl _,rfl,rfl,λ t h=>by omega,λ t h1 h2=>by omega,Below.refl _ _⟩
 case round=>
  obtain⟨i,j,nA,hj,rfl,rfl,gu,hF,hb⟩:=hrel;have H2:=aa gu;have HF:=aa hF;clear gu hF;by_cases hlt:i < j
  ·go_upto_region 5 with fail;open zeg in exact Zcg
  ·have J5:j=i:=by omega
   subst J5;by_cases xt:j < n
   ·have EB:j < gs.length:=by have:=HN.ae;omega
    obtain⟨g,rfl,hg,Kx⟩:=HA.ae.at_ EB;have hz:=(hb.cell (p:=⟨g,j,none⟩) hg).trans Kx;have hex:=HE.ae j EB _ hb;generalize gs[j]=q at*;clear Kx hg EB hlt;go_wp2_with fail;refine hex.mono ?_;rintro e w1 ⟨rfl,b1⟩;have hb1:=ai.then hb b1;clear hex hz b1 hb;by_cases hc:c j=0
    ·have t1:(c j==0)=true:=by simp[hc]
     go_wp2_with fail;exact bodyPost_ret (v:=.tuple #[af j,.bool true]) TaG rfl ⟨j,hj,by rw[decide_eq_true xt,decide_eq_true hc];rfl,H2.ae,HF.ae,hb1⟩
    ·have t1:(c j==0)=false:=by simp[hc]
     go_wp2_with fail;exact bodyPost_ret (v:=.tuple #[af j,.bool false]) TaG rfl ⟨j,hj,by rw[decide_eq_true xt,decide_eq_false hc];rfl,H2.ae,HF.ae,hb1⟩
   ·clear hlt;go_wp2_with fail;exact bodyPost_ret (v:=.tuple #[af j,.bool false]) TaG rfl ⟨j,hj,by rw[decide_eq_false xt];rfl,H2.ae,HF.ae,hb⟩
structure pB (w w':rQ) (qs:List Nat):Prop where
 os:w'.os=w.os
 tape:w'.tape=w.tape
 output:w'.output=w.output
 size:w.heap.size<=w'.heap.size
 block:∀k,k < w.heap.size->k∉qs->w'.heap[k]?=w.heap[k]?
theorem pB.refl (w:rQ)(qs:List Nat):pB w w qs:=⟨rfl,rfl,rfl,Nat.le_refl _,λ _ _ _=>rfl⟩
theorem pB.below{qs:List Nat}(h:pB w w1 qs)(hb:aj w1 w2):pB w w2 qs:=
 ⟨hb.os.trans h.os,hb.tape.trans h.tape,hb.output.trans h.output,Nat.le_trans h.size hb.size,λ k hk hn=>(hb.block k (Nat.lt_of_lt_of_le hk h.size)).trans (h.block k hk hn)⟩
theorem pB.grown{qs:List Nat} (h:pB w w1 qs)(hq:q∈qs)(hb:w1.grownBy w2 (some q)):pB w w2 qs:=
 ⟨hb.os.trans h.os,hb.tape.trans h.tape,hb.output.trans h.output,Nat.le_trans h.size hb.size,λ k hk hn=>(hb.block k (Nat.lt_of_lt_of_le hk h.size) λ e=>by injection e with e;subst e;exact hn hq).trans (h.block k hk hn)⟩
theorem pB.blk{qs:List Nat} {g:Nat}  (h:pB w w' qs)(hg:aB w g t cs)(hn:g∉qs):aB w' g t cs:=(h.block g hg.lt hn).trans hg
theorem pB.low{qs:List Nat} (h:pB w w' qs)(hB:B<=w.heap.size)(hq:∀q∈qs,B<=q):Below B w w':=
 ⟨h.os,h.tape,h.output,h.size,λ k hk=>h.block k (Nat.lt_of_lt_of_le hk hB) λ hm=>by have:=hq k hm;omega⟩
structure RVq (w:rQ) (qs:List Nat) (A:z_) (l:v_):Prop where
 rv:RV w w.heap.size A l
 off:∀a,A=some a->a.block∉qs
variable{l:v_}
theorem RVq.turn{qs:List Nat} {A:z_} (h:RVq w qs A l)(ht:pB w w' qs):RV w' w'.heap.size A l:=by
 rcases h.rv with h0 |⟨b,off,rfl,hb,hc⟩
 ·exact .inl h0
 ·refine .inr ⟨b,off,rfl,Nat.lt_of_lt_of_le hb ht.size,λ i x hx=>(hc i x hx).keep λ o=>bI (ht.block b hb (h.off _ rfl)) o⟩
def fj (A:z_)(c n:Nat):z_:=if c=n then A else A.map (·.add (n*3))
theorem RV.TB{A:z_} (h:RV w B A l)(n c:Nat)(hc:l.length<=c):RV w B (fj A c n) (l.drop n):=by
 unfold fj;rcases h with h0 |⟨b,off,rfl,hb,hx⟩
 ·subst h0;exact .inl Taa
 ·split
  ·left;rw[drop_eq_nil_iff];omega
  ·refine .inr ⟨b,off+n*3,by simp[eB],hb,λ i x hi=>?_⟩;rw[getElem?_drop] at hi;have:=hx (n+i) x hi;rw[show off+n*3+i*3=off+(n+i)*3 by omega];exact this
theorem RV.J6{A:z_} (h:RV w B A l)(n:Nat):RV w B A (l.take n):=by
 rcases h with h0 |⟨b,off,rfl,hb,hx⟩
 ·subst h0;exact .inl Taa
 ·refine .inr ⟨b,off,rfl,hb,λ i x hi=>?_⟩;rw[getElem?_take] at hi;split at hi
  ·exact hx i x hi
  ·cases hi
theorem yt{qs:List Nat} {A:z_} {c:Nat}(h:∀a,A=some a->a.block∉qs):∀a,fj A c n=some a->a.block∉qs:=by
 intro a ha;unfold fj at ha;split at ha
 ·exact h a ha
 ·cases A with
  | none=>cases ha
  | some ad=>simp only[Option.map_some,Option.some.injEq] at ha;rw[<- ha,vk];exact h ad rfl
theorem Cz (u:rQ):(sizeOf (Tryz.prog.elem 38)).run Tryz.prog u=.ok 3 u:=by exact ZgH
theorem sO (a:Addr):a.add 0=a:=by obtain⟨b,o,s⟩:=a;unfold Addr.add;split <;> simp_all
theorem sP (A1:z_)(n c1 k:Nat)(hk:k<=n)(u:rQ):(Instr.slice 38 (.slice A1 n c1) (some (af k)) none none).run Tryz.prog u=.ok (.slice (fj A1 c1 k) (n - k) (c1 - k)) u:=by unfold fj;rw[run_slice_l u 38 A1 n c1 Tryz.underlying38 .i64 k TD TD,Cz];simp[sliced]
theorem VV (A1:z_)(n c1 k:Nat)(hk:k<=c1)(u:rQ):(Instr.slice 38 (.slice A1 n c1) none (some (af k)) none).run Tryz.prog u=.ok (.slice A1 k c1) u:=by rw[run_slice_h u 38 A1 n c1 Tryz.underlying38 .i64 k TD TD,Cz];exact Zg1
theorem Gj (A1:z_)(n c1 k m:Nat)(hk:k<=m)(hm:m<=c1)(u:rQ):(Instr.slice 38 (.slice A1 n c1) none (some (af k)) (some (af m))).run Tryz.prog u=.ok (.slice A1 k m) u:=by rw[run_slice_hm u 38 A1 n c1 Tryz.underlying38 .i64 .i64 k m TD TD TD,Cz];exact Zg1
theorem EF (w:rQ)(ty:TypeId)(g:Nat)(t:TypeId)(cur:x_)(A:z_)(l:v_)(c dl dc:Nat)(hg:aB w g t cur)(pC:l.length*3<=cur.size)(hl:l.length<=dl)(hR:Reads w w.heap.size 3 A l.length (l.flatMap aU)):
  (Builtin.copy_ #[38,38] ty #[aL g dl dc,.slice A l.length c]).run Tryz.prog w=.ok (goInt l.length) (w.setRow g (l.flatMap aU++cur.toList.drop (l.length*3)).toArray):=by
 have hn:Nat.min l.length dl=l.length:=Nat.min_eq_left hl;have Ie:=Lf l;have hst:=run_storeCells_at Tryz.prog g 0 t (l.flatMap aU) 0 cur w hg (by rw[Ie];simpa using pC) (val_one l);simp only[Nat.zero_add,take_zero,nil_append,Ie] at hst;have hsz:∀u:rQ,(sizeOf 44).run Tryz.prog u=.ok 3 u:=λ u=>by kernel_rfl
 cases A with
 | none=>
   have h0:l=[]:=by
    cases l with
    | nil=>rfl
    | cons x xs=>obtain⟨a,ha,_⟩:=hR.2 Taa;cases ha
   subst h0;simp[Builtin.copy_,run_underlying Tryz.underlying38,Builtin.lenOf,Builtin.firstCells,hsz,storeCells];rw[setRow_self w g cur t (0,0) hg]
 | some a=>
   have hld:=run_loadCells_list (P:=Tryz.prog) w a (l.flatMap aU) (by
    intro j v hj
    cases l with
    | nil=>simp at hj
    | cons x xs=>
      obtain⟨a2,ha,hb,hc⟩:=hR.2 Taa
      injection ha with ha
      subst ha
      exact hc j v hj)
   rw[Ie] at hld;simp[Builtin.copy_,run_underlying Tryz.underlying38,Builtin.lenOf,Builtin.firstCells,hsz,hn,hld,hst]
def ll (l:v_):Val×Val:=(l.getD 0 aC,l.getD 1 aC)
variable{h:Nat}{ds:x_}
theorem kX{g:Nat} {u:TypeId} (hg:aB w g t cs)(hh:aB w h u ds)(hn:t≠u):g≠h:=λ e=>by subst e;have h1:w.heap[g]?=some (.cells cs t (0,0)):=hg;have h2:w.heap[g]?=some (.cells ds u (0,0)):=hh;rw[h1] at h2;injection h2 with h2;injection h2 with _ h2 _;exact hn h2
def np:x_:= #[ag 0,af 0,au,ag 0,af 0,au]
def CB (a b:Val):x_:= #[ag a.k,af a.n,.string a.s,ag b.k,af b.n,.string b.s]
theorem Ak{ops:Array Oper}     (hgd:o.guard=none)(d s:Operand)
  (ho:o.op=.call { callee:=.builtin .copy,args:= #[d,s],argTypes:= #[38,38] }) (g:Nat) (A:z_) (l:v_) (c dc n:Nat) (hd:a.eval d=aL g 2 dc) (hs:a.eval s=.slice A n c) (hn:n=l.length)
  (hg:aB w g 187 np) (hl:l.length<=2) (hR:RV w w.heap.size A l)
  (h:∀w' u,aB w' g 187 (CB (ll l).1 (ll l).2)->w.grownBy w' (some g)->wpList Tryz.prog ops Q rest (a.put o.dst u) w'):wpList Tryz.prog ops Q (o::rest) a w:=by
 subst hn;refine wpList_plain hgd λ K hK=>?_
 have hrun:=EF w o.type g 187 np A l c 2 dc hg (by show l.length*3<=6;omega) hl hR.reads;unfold Oper.wp;simp[execOp,ho,resolve,invoke,builtin,hd,hs,hrun,Result.andThen];refine hK _ _ (h _ _ ?_ ⟨rfl,rfl,rfl,by simp[World.setRow],λ k hk hne=>setRow_other w g k _ (λ e=>hne Tbd)⟩);have:=setRow_heap w g np (l.flatMap aU++np.toList.drop (l.length*3)).toArray 187 (0,0) hg;refine Eq.trans this ?_
 match l,hl with
 | [],_=>rfl
 | [x],_=>rfl
 | [x,y],_=>rfl
def mq:List Nat->v_->List (Val×Val)
 | [],_=> []
 | n::ns,l=>ll (l.take n)::mq ns (l.drop n)
def Mw:List Nat->Nat
 | []=>0
 | n::ns=>n+Mw ns
def eH (ss:List St)(ps:List (Val×Val)):List St:=List.zipWith (λ s p=>s.feed p.1 p.2) ss ps
theorem dJ.put{k:Nat} {qs:List Nat} {ss:List St} (h:dJ w B qs ss)(hq:qs[k]?=some q)(hg:w.grownBy w' (some q))(hs:cF w' q s):dJ w' B qs (ss.set k s):=by
 have tH:k < qs.length:=by
  rcases Nat.lt_or_ge k qs.length with h1 | h1
  ·exact h1
  ·rw[getElem?_eq_none h1] at hq;cases hq
 refine⟨by rw[length_set];exact h.len,λ i r t hr ht=>?_,λ r hr=>⟨(h.low r hr).1,Nat.lt_of_lt_of_le (h.low r hr).2 hg.size⟩,h.apart⟩;by_cases hik:i=k
 ·subst hik;rw[hq] at hr;injection hr with hr;rw[getElem?_set_self (by rw[<- h.len];exact tH)] at ht;injection ht with ht;subst hr ht;exact hs
 ·rw[getElem?_set_ne (Ne.symm hik)] at ht
  have hne:q≠r:=λ e=>by
   subst e
   have rW:i < qs.length:=by
    rcases Nat.lt_or_ge i qs.length with h1 | h1
    ·exact h1
    ·rw[getElem?_eq_none h1] at hr;cases hr
   rw[getElem?_eq_getElem rW] at hr;rw[getElem?_eq_getElem tH] at hq;injection hr with hr;injection hq with hq;rcases Nat.lt_or_ge i k with hlt | vp
   ·exact List.pairwise_iff_getElem.1 h.apart i k rW tH hlt (hr.trans hq.symm)
   ·exact List.pairwise_iff_getElem.1 h.apart k i tH rW TD (hq.trans hr.symm)
  exact(hg.block r (h.low r (mem_of_getElem? hr)).2 (λ e=>by injection e with e;exact hne e.symm)).trans (h.at_ i r t hr ht)
theorem dJ.tP{qs:List Nat} {ss:List St} {g:Nat}  (h:dJ w B qs ss)(hg:aB w g t cs)(ht:t≠199):g∉qs:=λ hm=>by obtain⟨i,hi,he⟩:=getElem_of_mem hm;have h1:=h.at_ i g (ss[i]' TaH) Tav (getElem?_eq_getElem _);unfold cF aB at h1;unfold aB at hg;rw[hg] at h1;injection h1 with h1;injection h1 with _ h1 _;exact ht h1
def d4V (g7 g8 m c1 n yc:Nat)(A1 yA:z_):Nat->rQ->Value->Prop
 | 0,_,v=>v=aL g8 2 2
 | 1,_,v=>v=.slice A1 m c1
 | 2,_,v=>v=bc g7 6
 | 3,_,v=>v=.slice yA n yc
 | 4,_,v=>v=af n
 | 5,_,v=>v=.slice A1 n c1
 | _,_,_=>False
theorem VW (g7 g8 m c1 n yc:Nat)(A1 yA:z_):∀i w w' v,d4V g7 g8 m c1 n yc A1 yA i w v->ai w w'->d4V g7 g8 m c1 n yc A1 yA i w' v:=by
 intro i w w' v h hl
 match i with
 | 0 | 1 | 2 | 3 | 4 | 5=>exact h
 | n+6=>exact h
def d6V (gg g8 sb sn sc k q:Nat)(a b:Val):Nat->rQ->Value->Prop
 | 0,_,v=>v=aw gg
 | 1,_,v=>v=aw gg
 | 2,_,v=>v=bc gg 1
 | 3,_,v=>v=aL sb sn sc
 | 4,_,v=>v=af k
 | 5,_,v=>v=bc sb k
 | 6,_,v=>v=aw q
 | 7,_,v=>v=aw g8
 | 8,_,v=>v=.agg (aJ a)
 | 9,_,v=>v=bc g8 3
 | 10,_,v=>v=.agg (aJ b)
 | _,_,_=>False
theorem VX (gg g8 sb sn sc k q:Nat)(a b:Val):∀i w w' v,d6V gg g8 sb sn sc k q a b i w v->ai w w'->d6V gg g8 sb sn sc k q a b i w' v:=by exact Zdj
theorem zcw.Kax(h:p:=by
 have aoi:=aa (λ q hq=>(Kx.low q hq).1);clear nr Yw Kx hR hc fI aZ hv AK SZ qK hfn hz hS hw AL G3 Wy hcw NT;go_enter Tryz.func67,Tryz.ntmps67;go_wp2_with fail;clear Ai;go_loopw [2,14] (λ v i wr=>∃(j:Nat) (KK:z_) (c1:Nat) (rem:v_),j<=ys.length/\i=af j/\v=.slice KK rem.length c1/\RVq w qs KK rem/\rem.length<=c1/\rem.length<=1000000/\(∀v∈rem,v.Ok)/\mq ((ys.map Ex.n).drop j) rem=ps.drop j/\Mw ((ys.map Ex.n).drop j)<=rem.length/\dJ wr B qs ((eH ss ps).take j++ss.drop j)/\pB w wr qs) (λ _ i _=>ys.length - (intOf i).toNat);case atStart=>exact⟨0,A0,LT,l,Nat.zero_le _,rfl,rfl,HR.ae,HC.ae,GZ.ae,HV.ae,sQ.ae,Qp.ae,HS0.ae,pB.refl _ _⟩
 case round=>
  clear HS0 sQ Qp HR HC HV GZ;obtain⟨j,KK,c1,rem,hk,rfl,rfl,hR,hc,NT,hv,nr,Yw,Kx,hT⟩:=hrel;have Lw:=aa Kx;have HT:=aa hT;have HR:=aa hR;have HC:=aa hc;have HV:=aa hv;have sQ:=aa nr;have Qp:=aa Yw;have GZ:=aa NT;clear Kx hT hR hc hv nr Yw NT;by_cases hlt:j < ys.length
  ·obtain⟨b,off,rfl,kM,hex⟩:=(nI.ae.below (HT.ae.low HJ.ae aoi.ae)).at_ hlt;have fI:=HY2.ae ys[j] (getElem_mem hlt);have hdr:(ys.map Ex.n).drop j=ys[j].n::(ys.map Ex.n).drop (j+1):=by rw[drop_eq_getElem_cons Tan];simp
   rw[hdr] at sQ Qp;have hp0:ps.drop j=ll (rem.take ys[j].n)::mq ((ys.map Ex.n).drop (j+1)) (rem.drop ys[j].n):=sQ.ae.symm;have Ay:ps[j]?=some (ll (rem.take ys[j].n)):=by have h1:=congrArg (λ l=>l[0]?) hp0;simpa using h1
   have Gu:mq ((ys.map Ex.n).drop (j+1)) (rem.drop ys[j].n)=ps.drop (j+1):=by have h1:=congrArg List.tail hp0;rw[tail_drop] at h1;exact h1.symm
   have avu:ys[j].n+Mw ((ys.map Ex.n).drop (j+1))<=rem.length:=Qp.ae;have hkq:j < qs.length:=by have:=HO.ae;omega
   have nV:j < ss.length:=by have:=mr.ae;omega
   have apM:=Lw.ae.at_ j qs[j] ss[j] (getElem?_eq_getElem hkq) (by
    rw[getElem?_append_right TaU,length_take]
    have hm:min j (eH ss ps).length=j:=by
     refine Nat.min_eq_left (Nat.le_of_lt ?_)
     unfold eH
     rw[length_zipWith]
     have hpl:j < ps.length:=by
      rcases Nat.lt_or_ge j ps.length with h | h
      ·exact h
      ·rw[getElem?_eq_none h] at Ay;cases Ay
     omega
    rw[hm,Nat.sub_self,getElem?_drop,Nat.add_zero,getElem?_eq_getElem nV])
   have aZ:=HG.ae ss[j] (getElem_mem nV)
   have Rb:((eH ss ps).take j++ss.drop j).set j (ss[j].feed (ll (rem.take ys[j].n)).1 (ll (rem.take ys[j].n)).2)=(eH ss ps).take (j+1)++ss.drop (j+1):=by
    have hpl:j < ps.length:=by
     rcases Nat.lt_or_ge j ps.length with h | h
     ·exact h
     ·rw[getElem?_eq_none h] at Ay;cases Ay
    have Ie:j <(eH ss ps).length:=by unfold eH;rw[length_zipWith];omega
    have hfk:(eH ss ps)[j]'Ie=ss[j].feed (ll (rem.take ys[j].n)).1 (ll (rem.take ys[j].n)).2:=by
     have h1:(eH ss ps)[j]?=some (ss[j].feed (ll (rem.take ys[j].n)).1 (ll (rem.take ys[j].n)).2):=by unfold eH;rw[getElem?_zipWith,getElem?_eq_getElem nV,Ay]
     rw[getElem?_eq_getElem Ie] at h1;injection h1
    rw[take_add_one,getElem?_eq_getElem Ie,hfk];have sZ:((eH ss ps).take j).length=j:=by rw[length_take];omega
    rw[set_append_right _ _ TD,sZ,Nat.sub_self,drop_eq_getElem_cons nV,set_cons_zero,append_assoc];rfl
   have lX:=getElem_mem hkq;have hqk:qs[j]?=some qs[j]:=getElem?_eq_getElem hkq
   obtain⟨lb,hSA,hsb,hsc⟩:∃lb,SA=some ⟨lb,0,none⟩/\lb < w.heap.size/\w.cell? ⟨lb,j,none⟩=some (.pointer (some ⟨qs[j],0,none⟩)):=by
    rcases HS.ae with h |⟨g,h1,h2,h3⟩
    ·rw[h] at hkq;simp at hkq
    ·refine⟨g,h1,h2,?_⟩;have:=h3 j qs[j] 0 _ hqk TD rfl;exact ZeR
   subst hSA;have hsq:=λ h=>HK.ae lb h rfl
   have hGw:=HT.ae.blk je.ae HFN.ae;have hsw:wr.heap[lb]?=w.heap[lb]?:=HT.ae.block lb hsb hsq;have fK:=(bI hsw j).trans hsc;have hP:=Nat.lt_of_lt_of_le hsb HT.ae.size;have hRw:=HR.ae.turn HT.ae;have azn:=HO.ae;generalize ys[j]=y at*;generalize qs[j]=q at*;generalize ss[j]=s at*;unfold cg at hex;have HNX:=aa (show Mw ((ys.map Ex.n).drop (j+1))<=(rem.drop y.n).length by rw[length_drop];omega);have hI0:y.n<=rem.length:=by omega
   have iz:=aa Gu;have HQN:=aa Rb;have ajn:=aa lX;have HB:=aa hqk;have WE:=aa fK;have HP:=aa hP;have P0:=aa apM;have Km:=aa aZ;have VQ:=aa fI;have HI0:=aa hI0;have HHL:=aa hkq;clear hdr sQ Qp hp0 Ay Gu avu nV apM aZ Rb lX hqk hsb hsc hsq hsw fK hP fI hI0 hkq;go_upto_region 4 with fail;have k1:=aB.new wr 46 (az y);have MK:=ah wr (.cells (az y) 46);generalize hW1:wr.alloc (.cells (az y) 46)=W1 at*;have HZ:=aB.new W1 187 np;have b2:=ah W1 (.cells np 187);unfold np at HZ b2;generalize hW2:W1.alloc _=W2 at*;have k1:=k1.later b2;have bb:=ai.then MK b2;obtain⟨g7,Og⟩:∃g7,g7=wr.heap.size:=⟨_,rfl⟩;have hs1:W1.heap.size=g7+1:=by rw[<- hW1,World.size_alloc,Og]
   rw[<- Og] at k1 ⊢;rw[hs1] at HZ;obtain⟨g8,hg8⟩:∃g8,g8=g7+1:=⟨_,rfl⟩;rw[<- hg8] at HZ ⊢;have nO:g7≠g8:=by omega
   have HT2:=aa (HT.ae.below bb);have Yc:=aa (hRw.later bb);have Al:=aa (hGw.later bb);have MS:=aa (Lw.ae.later bb);have aos:=aa (show cF W2 q s from aB.later P0.ae bb);have aot:=aa ((bb.cell (p:=⟨lb,j,none⟩) HP.ae).trans WE.ae);have aiF:=aa (Nat.lt_of_lt_of_le HP.ae bb.size);have Ye:=aa (show wr.heap.size<=g8 by omega);have HGS:=aa (show lb≠g8 by have:=HP.ae;omega);clear hGw hRw Lw P0 WE HP MK b2 bb hW1 hW2 hs1 Og hg8 hex;obtain⟨m,hm⟩:∃m,m=rem.length:=⟨_,rfl⟩;rw[<- hm];have HM:=aa hm;have hYR:y.n<=m:=by rw[hm];exact HI0.ae
   have hC1:m<=c1:=by rw[hm];exact HC.ae
   clear hm;have HZH:=aa HZ;have P5:=aa k1;clear HZ k1;refine bz 6 (d4V g7 g8 m c1 y.n y.c KK y.A) (VW _ _ _ _ _ _ _ _) WC WC WC ?_ ?_
   ·simp only[take_succ_cons,take_zero];refine⟨Zaa,Zaa,Zaa,?_,Zaa,?_,trivial⟩
    ·intro ρ w3 hc hL hr;have h0:_=_:=hr.1;have c0:=(P5.ae.later hL).cell 6;exact ZaO
    ·intro ρ w3 hc hL hr;have h0:_=_:=hr.1;have h1:_=_:=hr.2.1;have hs:=VV KK m c1 y.n TD w3;exact ZcH
   intro W3 hL;simp only[Uab];rintro _ rfl a1 - a2 - a3 - a4 - _ rfl;simp only[bA,Act.put,Uac];have Qq:=aa (show aB W3 g8 187 np from HZH.ae.later hL);have HR3:=aa (((Yc.ae.later hL).J6 y.n));have HLT:=aa (show(rem.take y.n).length=y.n by rw[length_take];have:=HI0.ae;omega);have MD:=aa (Al.ae.later hL);have Ei:=aa (P5.ae.later hL);have Cw:=aa (MS.ae.later hL);have aow:=aa (show cF W3 q s from aB.later aos.ae hL);have aox:=aa ((hL.cell (p:=⟨lb,j,none⟩) aiF.ae).trans aot.ae);have aiH:=aa (Nat.lt_of_lt_of_le aiF.ae hL.size);have HT3:=aa (HT2.ae.below hL);clear hL HZH P5 Al MS aos aot aiF HT2 Yc;have gu:=λ u=>sP KK m c1 y.n hYR u
   refine Ak rfl (.tmp 19) (.tmp 24) rfl g8 KK (rem.take y.n) c1 2 y.n rfl rfl HLT.ae.symm Qq.ae (by rw[HLT.ae];exact VQ.ae) HR3.ae ?_;intro W4 u4 hz4 hg4;have sN:=aa (MD.ae.grown hg4 (λ e=>by injection e with e;exact kX MD.ae Qq.ae V0 e));have HX:=Ei.ae.grown hg4 (λ e=>by injection e with e;exact nO e);have x6:=HX.cell 6;simp only[Uaa] at x6;have IW:=aa (Cw.ae.tP Qq.ae V0);have Hb:=aa (Cw.ae.keep hg4.size λ q hq=>hg4.block q (Cw.ae.low q hq).2 (λ e=>by injection e with e;subst e;exact IW.ae hq));have Oo:=aa (show cF W4 q s from aB.grown aow.ae hg4 (λ e=>by injection e with e;subst e;exact IW.ae ajn.ae));have MO:=aa ((bI (hg4.block lb aiH.ae (λ e=>by injection e with e;exact HGS.ae e)) j).trans aox.ae);have Ua:=aa (Nat.lt_of_lt_of_le aiH.ae hg4.size);have avy:=aa (show w.heap.size<=g8 from Nat.le_trans HT.ae.size Ye.ae);have HT4:=aa (show pB w W4 qs from⟨hg4.os.trans HT3.ae.os,hg4.tape.trans HT3.ae.tape,hg4.output.trans HT3.ae.output,Nat.le_trans HT3.ae.size hg4.size,λ j hk hn=>(hg4.block j (Nat.lt_of_lt_of_le hk HT3.ae.size) (λ e=>by injection e with e;have:=avy.ae;omega)).trans (HT3.ae.block j hk hn)⟩);have Yf:=aa hz4;clear hz4 hg4 MD Ei Cw aow aox aiH HT3 Qq HR3 HX;go_wp2_with fail;have K1:=sN;have xW:=Hb;have Yr:=Oo;have tK:=MO;have Xh:=Ua;have Ej:=Yf;have HT5:=HT4;have HAB:=aa (show(ll (rem.take y.n)).1.Ok/\(ll (rem.take y.n)).2.Ok by
    have aZ:∀LE,((rem.take y.n).getD LE aC).Ok:=λ LE=>by
     rw[getD_eq_getElem?_getD]
     cases hj:(rem.take y.n)[LE]? with
     | none=>exact ed
     | some v=>exact HV.ae v (mem_of_mem_take (mem_of_getElem? hj))
    exact⟨aZ 0,aZ 1⟩)
   obtain⟨a,ha⟩:∃a,a=(ll (rem.take y.n)).1:=⟨_,rfl⟩;obtain⟨b2,hb2⟩:∃b2,b2=(ll (rem.take y.n)).2:=⟨_,rfl⟩;rw[<- ha,<- hb2] at HAB Ej HQN;clear sN Hb Oo MO Ua Yf HT4 x6 ha hb2 gu;refine bz 11 (d6V gg g8 lb qs.length sc j q a b2) (VX _ _ _ _ _ _ _ _ _) WC WC WC ?_ ?_
   ·simp only[take_succ_cons,take_zero];refine⟨Zaa,Zaa,Zaa,?_,Zaa,?_,Zfv,Zaa,?_,?_,?_,trivial⟩
    ·intro ρ w3 hc hL hr;have h0:_=_:=hr.1;have c0:=(K1.ae.later hL).cell 1;exact ZaO
    ·intro ρ w3 hc hL hr;have h0:_=_:=hr.1;have h1:_=_:=hr.2.1;have UW:=HHL.ae;exact aq (w':=w3) (by simp[go_sem,h0,h1,UW,eB];done) ⟨ai.refl _,rfl⟩
    ·intro ρ w3 hc hL hr;have h0:_=_:=hr.1;have cN:=Ej.ae.later hL;have y0:=cN.cell 0;have y1:=cN.cell 1;have c2:=cN.cell 2;exact Zfx
    ·intro ρ w3 hc hL hr;have h0:_=_:=hr.1;exact aq (w':=w3) (by simp[go_sem,h0,hc.const,eB];done) ⟨ai.refl _,rfl⟩
    ·intro ρ w3 hc hL hr;have h0:_=_:=hr.1;have cN:=Ej.ae.later hL;have y0:=cN.cell 3;have y1:=cN.cell 4;have c2:=cN.cell 5;exact Zfx
   intro W5 hL;simp only[Uab];rintro a0 - a1 - a2 - a3 - a4 - a5 - _ rfl a7 - _ rfl a9 - _ rfl;simp only[bA,Act.put,Uac];have HS6:=aa (xW.ae.later hL);have aoF:=aa (show cF W5 q s from aB.later Yr.ae hL);have xj:=aa (HT5.ae.below hL);clear hL K1 xW Yr tK Xh Ej HT5;go_wp2_with fail;refine(Zw q s a b2 W5 aoF.ae Km.ae.1 Km.ae.2 HAB.ae.1).mono ?_;rintro e w7 ⟨rfl,hst,Og⟩;have HS7:=aa (HS6.ae.put HB.ae Og hst);have HT7:=aa (xj.ae.grown ajn.ae Og);clear hst Og HS6 aoF xj;go_wp2_with fail;go_roundw
   case rel=>
    refine⟨j+1,fj KK c1 y.n,c1 - y.n,rem.drop y.n,hlt,by go_num,?_,⟨?_,yt HR.ae.off⟩,?_,?_,?_,iz.ae,HNX.ae,?_,HT7.ae⟩
    ·rw[length_drop,<- HM.ae]
    ·exact HR.ae.rv.TB y.n c1 (by have:=HC.ae;omega)
    ·rw[length_drop];have:=HC.ae;omega
    ·rw[length_drop];have:=GZ.ae;omega
    ·exact λ v hv=>HV.ae v (mem_of_mem_drop hv)
    ·rw[<- HQN.ae];exact HS7.ae
   case measure=>exact ZaU
  ·have gw:j=ys.length:=by omega
   subst gw;have Ie:(eH ss ps).length=ss.length:=by have h1:=PT.ae;have h2:=mr.ae;unfold eH;rw[length_zipWith];omega
   have hst:=Lw.ae;rw[take_of_length_le (by rw[Ie];have:=mr.ae;omega),drop_eq_nil_of_le (by have:=mr.ae;omega),append_nil] at hst;have HST:=aa hst;clear hst Ie Lw;go_wp2_with fail;go_end0;exact⟨rfl,HST.ae,HT.ae⟩):p:=h
theorem zw (gp gg B base:Nat)(ys:u_)(AA:z_)(ac:Nat)(kv sv:Value)(qs:List Nat)(ss:List St)(l:v_)(A0:z_)(LT:Nat)(w:rQ)
  (hn:ys.length<=1000000) (G3:gp < B) (Wy:B<=w.heap.size) (Ai:w.cell? ⟨gp,9,none⟩=some (.slice AA ys.length ac)) (AK:RE w B AA ys) (SZ:aB w gg 141 #[kv,sv]) (qK:aH dn 145 1 w base sv qs)
  (Kx:dJ w B qs ss) (hw:qs.length=ys.length) (hR:RVq w qs A0 l) (hc:l.length<=LT) (Yw:Mw (ys.map Ex.n)<=l.length) (fI:∀y∈ys,y.n<=2) (aZ:∀s∈ss,s.Ok/\s.all < 4611686018427387904) (hv:∀v∈l,v.Ok) (NT:l.length<=1000000):
  ar 67 #[aw gp,aw gg,.slice A0 l.length LT] w λ e w'=>e=.returned (.tuple #[])/\dJ w' B qs (eH ss (mq (ys.map Ex.n) l))/\pB w w' qs:=by
 have hfn:=Kx.tP SZ V0;have hz:=Kx.ne qK;have AL:ss.length=ys.length:=by rw[<- Kx.len];exact hw
 obtain⟨SA,sc,rfl,hS⟩:=dT (f:=dn) (size:=1) (λ _=>rfl) qK;have hcw:=SZ.cell 1;obtain⟨ps,nr⟩:∃ps,ps=mq (ys.map Ex.n) l:=⟨_,rfl⟩;rw[<- nr];have PT:=aa (show ps.length=ys.length by
  have hp:∀(ns:List Nat) (l:v_),(mq ns l).length=ns.length:=by
   intro ns
   induction ns with
   | nil=>intro l;rfl
   | cons n ns ih=>intro l;show(mq ns (l.drop n)).length+1=_;rw[ih];rfl
  rw[nr,hp,length_map])
 have sQ:=aa (show mq ((ys.map Ex.n).drop 0) l=ps.drop 0 from nr.symm);have Qp:=aa (show Mw ((ys.map Ex.n).drop 0)<=l.length from Yw);have HS0:=aa (show dJ w B qs ((eH ss ps).take 0++ss.drop 0)from Kx);have Ly:=aa (show(eH ss ps).length<=ss.length by unfold eH;rw[length_zipWith];omega);have HR:=aa hR;have HC:=aa hc;have HY2:=aa fI;have HG:=aa aZ;have HV:=aa hv;open zcw in exact Za7
theorem CC:(Tryz.prog.info? 135).map (λ i=>(i.zero,i.size,i.bytes))=some (some (.pointer none),1,8):=by exact ZgH
theorem Mx (u:rQ):(sizeOf (Tryz.prog.elem 134)).run Tryz.prog u=.ok 1 u:=by exact ZgH
theorem iR (A1:z_)(n c1 k:Nat)(hk:k<=n)(u:rQ):(Instr.slice 134 (.slice A1 n c1) (some (af k)) none none).run Tryz.prog u=.ok (.slice (if c1=k then A1 else A1.map (·.add (k*1))) (n - k) (c1 - k)) u:=by rw[run_slice_l u 134 A1 n c1 Tryz.underlying134 .i64 k TD TD,Mx];simp[sliced]
theorem CD (A1:z_)(n c1 k:Nat)(hk:k<=c1)(u:rQ):(Instr.slice 134 (.slice A1 n c1) none (some (af k)) none).run Tryz.prog u=.ok (.slice A1 k c1) u:=by rw[run_slice_h u 134 A1 n c1 Tryz.underlying134 .i64 k TD TD,Mx];exact Zg1
theorem My (w:rQ)(ty:TypeId)(g q:Nat)(cur:x_)(a:Addr)(cs:wL)(dl dc sl sc:Nat)(hg:aB w g 135 cur)(pC:q+cs.length<=cur.size)(hn:cs.length=Nat.min sl dl)
  (hs:∀(j:Nat) v,cs[j]?=some v->w.cell? (a.add j)=some v) (h1:∀v∈cs,v.oneCell'=true):
  (Builtin.copy_ #[134,134] ty #[.slice (some ⟨g,q,none⟩) dl dc,.slice (some a) sl sc]).run Tryz.prog w=.ok (goInt cs.length) (w.setRow g (cur.toList.take q++(cs++cur.toList.drop (q+cs.length))).toArray):=by
 have hst:=run_storeCells_at Tryz.prog g q 135 cs 0 cur w hg (by simpa using pC) h1;have hld:=run_loadCells_list (P:=Tryz.prog) w a cs hs;have hsz:∀u:rQ,(sizeOf 135).run Tryz.prog u=.ok 1 u:=λ u=>by kernel_rfl
 simp only[Nat.add_zero] at hst;simp[Builtin.copy_,run_underlying Tryz.underlying134,Builtin.lenOf,Builtin.firstCells,hsz,<- hn,hld,hst]
variable{ac:Act}
theorem jo{ops:Array Oper}     (hgd:o.guard=none)(d s:Operand)
  (ho:o.op=.call { callee:=.builtin .copy,args:= #[d,s],argTypes:= #[134,134] }) (g q:Nat) (cur:x_) (a:Addr) (cs:wL) (dl dc sl sc:Nat) (hd:ac.eval d=.slice (some ⟨g,q,none⟩) dl dc) (hs:ac.eval s=.slice (some a) sl sc)
  (hg:aB w g 135 cur) (pC:q+cs.length<=cur.size) (hn:cs.length=Nat.min sl dl) (avz:∀(j:Nat) v,cs[j]?=some v->w.cell? (a.add j)=some v) (h1:∀v∈cs,v.oneCell'=true)
  (h:∀w' u,aB w' g 135 (cur.toList.take q++(cs++cur.toList.drop (q+cs.length))).toArray->w.grownBy w' (some g)->wpList Tryz.prog ops Q rest (ac.put o.dst u) w'):wpList Tryz.prog ops Q (o::rest) ac w:=by
 refine wpList_plain hgd λ K hK=>?_
 have hrun:=My w o.type g q cur a cs dl dc sl sc hg pC hn avz h1;unfold Oper.wp;simp[execOp,ho,resolve,invoke,builtin,hd,hs,hrun,Result.andThen];exact hK _ _ (h _ _ (setRow_heap w g cur _ 135 (0,0) hg) ⟨rfl,rfl,rfl,by simp[World.setRow],λ k hk hne=>setRow_other w g k _ (λ e=>hne Tbd)⟩)
theorem fU (A:z_)(n c:Nat):(Value.slice A n c).ownBlock=A.map (·.block):=by cases A <;> rfl
def fo (q:Nat):Value:=aw q
theorem rE (l:List Nat):l.flatMap dn=l.map fo:=by
 induction l with
 | nil=>rfl
 | cons x l ih=>rw[flatMap_cons,ih];rfl
theorem AQ (l:List Nat):∀v∈l.map fo,v.oneCell'=true:=by intro v hv;obtain⟨x,_,rfl⟩:=List.mem_map.1 hv;simp[fo,Value.oneCell']
def AU (lv:Value)(base:Nat)(l:List Nat)(w:rQ)(e:Ending)(w':rQ):Prop:=∃v',e=.returned v'/\aH dn 135 1 w' base v' l/\w.grownBy w' lv.ownBlock
theorem Qr (gs:List Nat)(x:Nat)(lv:Value)(base vb:Nat)(w:rQ)(hl:gs.length<=1000000)(hO:aH dn 135 1 w base lv gs)(hv:aB w vb 135 #[aw x])(hbase:base<=w.heap.size):
  ar 66 #[lv,af gs.length,aL vb 1 1] w (AU lv base (gs++ [x]) w):=by
 obtain⟨LA,lc,rfl,hle,_⟩:=wF hO;have HV:=aa hv;obtain⟨n,qR⟩:∃n,n=gs.length:=⟨_,rfl⟩;have HN:=aa qR;have hl2:n<=1000000:=by omega
 rw[<- qR] at hle hO ⊢;have HO:=aa hO;have gu:=λ u=>iR LA n lc n (Nat.le_refl _) u
 clear hO hv qR hl;go_enter Tryz.func66,Tryz.ntmps66;go_wp2_with (first
  |(at_builtin
    refine aS (l:=gs) rfl (.tmp 23) (.tmp 24) 134 rfl _ 8 Tryz.underlying134 CC rfl TD x rfl TaX rfl HO.ae vb rfl HV.ae Tbo Tbo hbase ?_
    intro v4 w4 V9 g4
    obtain⟨A4,QN,hv4,_⟩:=V9.reads
    rw[length_append,length_singleton] at hv4
    subst hv4
    have O4:=aa V9
    have G4:=aa (show w.grownBy w4 (Value.slice LA n lc).ownBlock from g4)
    clear V9 g4))
 all_goals
  go_ret;refine⟨_,rfl,O4.ae,?_⟩;have h4:=G4.ae;rw[fU] at h4 ⊢;exact h4
def aiK (g n cap k:Nat):Nat->rQ->Value->Prop
 | 0,_,v=>v=aL g (n+1) cap
 | 1,_,v=>v=af k
 | 2,_,v=>v=af 1
 | 3,_,v=>v=af (k+1)
 | 4,_,v=>v=.slice (some ⟨g,k+1,none⟩) (n+1 - (k+1)) (cap - (k+1))
 | 5,_,v=>v=aL g (n+1) cap
 | 6,_,v=>v=af k
 | 7,_,v=>v=.slice (some ⟨g,k,none⟩) (n+1 - k) (cap - k)
 | _,_,_=>False
theorem Qs (g n cap k:Nat):∀i w w' v,aiK g n cap k i w v->ai w w'->aiK g n cap k i w' v:=by exact Zf3
theorem zgJ.KbR(h:p:=by
 have uX:=aa (HG.ae.later hL);have HV3:=aa (HV.ae.later hL);have HL:=aa hL;clear hL HG HV;have hg:((gs.drop k).map fo).length=n - k:=by rw[length_map,length_drop,<- HN.ae]
 have hcell:∀(j:Nat) v,((gs.drop k).map fo)[j]?=some v->W3.cell? ((⟨g,k,none⟩:Addr).add j)=some v:=λ j v hj=>by
  rw[Mp,uX.ae.cell];rw[<- Array.getElem?_toList];have e:(cur.toList.take n)[k+j]?=some v:=by rw[nI.ae];rw[getElem?_map,getElem?_drop,<- getElem?_map] at hj;exact hj
  rw[getElem?_take] at e;split at e
  ·exact e
  ·cases e
 have Oe:=aa hcell;have UL:=aa hg;clear hcell hg;refine jo rfl (.tmp 73) (.tmp 76) rfl g (k+1) cur ⟨g,k,none⟩ ((gs.drop k).map fo) _ _ _ _ rfl rfl uX.ae (by rw[UL.ae,LW.ae];omega) (by rw[UL.ae];simp only[Nat.min_def];split <;> omega) Oe.ae (AQ _) ?_;intro W4 u4 hg4 Wc;have Gk:=aa hg4;have HV4:=aa (HV3.ae.grown Wc (λ e=>by injection e with e;exact HFN.ae e.symm));have aiM:=aa (show w.grownBy W4 (some g)from aY (aO HL.ae) Wc);clear hg4 Wc uX HV3 HL Oe;obtain⟨c4,hc4⟩:∃c4:x_,c4=(cur.toList.take (k+1)++((gs.drop k).map fo++cur.toList.drop (k+1+((gs.drop k).map fo).length))).toArray:=⟨_,rfl⟩;rw[<- hc4] at Gk;have HC4:=aa hc4;clear hc4;have hs4:c4.size=cap:=by rw[HC4.ae];have h1:=UL.ae;have h2:=LW.ae;simp only[size_toArray,length_append,length_take,length_drop,Array.length_toList] at h1 ⊢;rw[length_map,length_drop] at h1 ⊢;omega
 have HS4:=aa hs4;have NV:∀(j:Nat) v,[fo x][j]?=some v->W4.cell? ((⟨vb,0,none⟩:Addr).add j)=some v:=λ j v hj=>by rw[Mp,Nat.zero_add,HV4.ae.cell];simpa [fo] using hj
 have HCX:=aa NV;clear hs4 NV;go_wp2_with (first
  |(refine jo rfl (.tmp 80) (.tmp 81) rfl g k c4 ⟨vb,0,none⟩ [fo x] _ _ _ _ rfl rfl Gk.ae (by rw[HS4.ae,length_singleton];omega) TaP HCX.ae (AQ [x]) ?_
    intro W5 u5 Jj aoH
    have VY:=aa Jj
    have avA:=aa (aY aiM.ae aoH)
    clear Jj aoH))
 go_ret;refine⟨_,rfl,⟨?_,.inr ⟨g,cap,_,?_,hbg,VY.ae,?_,je.ae,?_,?_⟩⟩,avA.ae⟩
 ·have:=HN.ae;simp[rE,dn]
 ·have:=HN.ae;congr 1;simp;omega
 ·have:=HN.ae;simp;omega
 ·have:=HS4.ae;simp;omega
 ·have h3:=nI.ae;have h4:=HC4.ae;have h5:=HN.ae;have h6:=LW.ae;obtain⟨R,hR⟩:∃R,R=cur.toList.drop (k+1+((gs.drop k).map fo).length):=⟨_,rfl⟩;rw[<- hR] at h4;have cL:cur.toList.length=cap:=by rw[Array.length_toList];exact h6
  have e0:cur.toList.take k=(gs.take k).map fo:=by have:=congrArg (List.take k) h3;rw[take_take,Nat.min_eq_left TD,<- map_take] at this;exact this
  have Kx:(cur.toList.take (k+1)).length=k+1:=by rw[length_take];omega
  have e1:c4.toList.take k=(gs.take k).map fo:=by rw[h4,toList_toArray,take_append_of_le_length TD,take_take,Nat.min_eq_left TD,e0]
  have e2:c4.toList.drop (k+1)=(gs.drop k).map fo++R:=by rw[h4,toList_toArray,drop_append_of_le_length TD,drop_of_length_le TD,nil_append]
  rw[rE,toList_toArray,e1,length_singleton,e2,Nat.mul_one];have e3:(gs.take k).map fo++([fo x]++((gs.drop k).map fo++R))=(gs.take k++x::gs.drop k).map fo++R:=by simp
  exact Zgn):p:=h
theorem Mz (gs:List Nat)(x k:Nat)(g cap base vb:Nat)(cur:x_)(w:rQ)(hl:gs.length<=1000000)(hk:k < gs.length)(hbg:base<=g)(aZ:aB w g 135 cur)(hroom:gs.length+1<=cap)(SZ:cap<=maxLen)(qK:cur.size=cap)(AK:cur.toList.take gs.length=gs.map fo)(hv:aB w vb 135 #[aw x])(hfn:g≠vb):
  ar 66 #[aL g gs.length cap,af k,aL vb 1 1] w (AU (aL g gs.length cap) base (gs.take k++x::gs.drop k) w):=by
 obtain⟨n,qR⟩:∃n,n=gs.length:=⟨_,rfl⟩;have HN:=aa qR;rw[<- qR] at hl hk hroom AK ⊢;have hmx:cap<=9223372036854775807:=by unfold maxLen at SZ;omega
 have LK:∀lb cb,(callFunc 101 #[aL vb 1 1,.slice (some ⟨g,k+1,none⟩) lb cb]).run Tryz.prog w=.ok (.value (.bool false)) w:=λ lb cb=>by
  rw[run_callFunc_extern Tryz.func101 WC WC WC (e:=Extern.SlicesOverlaps.overlaps #[134,134] #[4]) WC,
   Lib.run_overlaps_apart w 134 4 135 Tryz.underlying134 1 (λ u=>by kernel_rfl) ⟨vb,0,none⟩ ⟨g,k+1,none⟩ 1 1 lb cb (Ne.symm hfn) 135 135 1 cap (by unfold World.shape?;dsimp only;rw[show w.heap[vb]?=some (.cells #[aw x] 135 (0,0))from hv];rfl) (by unfold World.shape?;dsimp only;rw[show w.heap[g]?=some (.cells cur 135 (0,0))from aZ,<- qK]) TD (hv.frozen 0) (hv.frozen 1)]
  rfl
 have VZ:=λ u=>iR (some ⟨g,0,none⟩) n cap k TD u
 have aoG:=λ u=>CD (some ⟨g,0,none⟩) n cap (n+1) hroom u
 have EG:=λ u=>iR (some ⟨g,0,none⟩) (n+1) cap (k+1) TD u
 have Qt:=λ u=>iR (some ⟨g,0,none⟩) (n+1) cap k TD u
 rw[if_neg TD] at VZ EG Qt;simp only[Option.map_some,eB,Nat.mul_one,Nat.zero_add] at VZ EG Qt;push_cast at aoG EG;have mixed:Tryz.prog.follows .mixedOrders=true:=by kernel_rfl
 have t1:((k:Int)==(n:Int))=false:=by simp;omega
 have t2:decide ((cap:Int)<(n:Int)+1)=false:=decide_eq_false TD;have HG:=aa aZ;have HV:=aa hv;have nI:=aa AK;have je:=aa SZ;have LW:=aa qK;have HFN:=aa hfn;have HOV:=LK;clear aZ hv AK SZ qK hfn qR LK;go_enter Tryz.func66,Tryz.ntmps66;go_wp2_with (simp only[HOV]);refine bz 8 (aiK g n cap k) (Qs _ _ _ _) WC WC WC ?_ ?_
 ·exact Zbi
 open zgJ in exact ZeJ
theorem We (d:Bool):Good (ZN d):=by
 cases d
 ·exact jO
 ·exact jO.flip
theorem CE:∀ds,Good (vQ ds)
 | []=>⟨λ _ _=>rfl,λ _ _ _ _ _=>Int.le_refl _⟩
 | d::ds=>((We d).eJ λ l:v_=>l.headD aC).lex ((CE ds).eJ List.tail)
theorem pD (ds:List Bool):Good (BR ds):=((CE ds).eJ fg.keys).lex (fC.eJ fg.row)
theorem Qv{ds:List Bool} {a b:fg}(h:BR ds a b=0):a.row=b.row:=by
 unfold BR oB at h;split at h
 ·exact fD _ _ h
 ·rename_i h2;exact absurd h h2
def jS (s:dp):Prop:=∀a∈s.aD,isAgg a.op=true
mutual
theorem Tr.Gl (aF:uF)(cols:List aV):∀(t:Tr) (s:dp) (y:Tr) (s':dp),t.turn aF cols s=.ok (y,s')->jS s->jS s'
 | .mk op v name width args,s,y,s',h,hs=>by
   unfold Tr.turn at h;split at h
   ·injection h with h;injection h with h1 h2;rw[<- h2];exact hs
   ·split at h
    ·rename_i hop;split at h
     ·cases h
     ·injection h with h;injection h with h1 h2;rw[<- h2];intro a ha;rcases List.mem_append.1 ha with ha | ha
      ·exact hs a ha
      ·rw[mem_singleton] at ha;rw[ha];exact hop
    ·split at h
     ·cases h
     ·rename_i ys s1 h1;split at h
      ·cases h
      ·split at h
       ·cases h
       ·injection h with h;injection h with h3 h4;rw[<- h4];exact Tr.CF aF cols args s ys s1 h1 hs
theorem Tr.CF (aF:uF)(cols:List aV):∀(ts:uF) (s:dp) (ys:uF) (s':dp),Tr.turns aF cols ts s=.ok (ys,s')->jS s->jS s'
 | [],s,ys,s',h,hs=>by unfold Tr.turns at h;injection h with h;injection h with h1 h2;rw[<- h2];exact hs
 | t::ts,s,ys,s',h,hs=>by
   unfold Tr.turns at h;split at h
   ·cases h
   ·rename_i y s1 h1;split at h
    ·cases h
    ·rename_i Wf s2 h2;injection h with h;injection h with h3 h4;rw[<- h4];exact Tr.CF aF cols ts s1 Wf s2 h2 (Tr.Gl aF cols t s y s1 h1 hs)
end
variable{aF:uF}{cols:List aV}{s':dp}
theorem CG{g:Bool}   {t:Tr} {s:dp} {y:Tr} {k:Int} (h:mb g aF cols t s=.ok (y,k,s'))(hs:jS s):jS s':=by
 unfold mb at h;split at h
 ·exact Zfu
 ·split at h
  ·cases h
  ·rename_i y1 s1 h1;split at h
   ·cases h
   ·injection h with h;injection h with h2 h;injection h with h3 h4;rw[<- h4];exact Tr.Gl aF cols t s y1 s1 h1 hs
theorem CH{g:Bool}  :∀ {l:List (Tr×t_)} {s:dp} {ys:uF} {hd:List aV} {s':dp},cC g aF cols l s=.ok (ys,hd,s')->jS s->jS s'
 | [],s,ys,hd,s',h,hs=>by unfold cC at h;injection h with h;injection h with h1 h;injection h with h2 h3;rw[<- h3];exact hs
 |(t,nm)::l,s,ys,hd,s',h,hs=>by
  unfold cC at h;split at h
  ·cases h
  ·rename_i y k s1 h1;split at h
   ·cases h
   ·rename_i Wf Qw s2 h2;injection h with h;injection h with h3 h;injection h with h4 h5;rw[<- h5];exact CH h2 (CG h1 hs)
theorem zx{g:Bool}  :∀ {l:uF} {s:dp} {ys:uF} {s':dp},dm g aF cols l s=.ok (ys,s')->jS s->jS s'
 | [],s,ys,s',h,hs=>by unfold dm at h;injection h with h;injection h with h1 h2;rw[<- h2];exact hs
 | t::l,s,ys,s',h,hs=>by
   unfold dm at h;split at h
   ·cases h
   ·rename_i y k s1 h1;split at h
    ·cases h
    split at h
    ·cases h
    ·rename_i Wf s2 h2;injection h with h;injection h with h3 h4;rw[<- h4];exact zx h2 (CG h1 hs)
theorem CI{g:Bool}  :∀ {l:List (Tr×Bool)} {s:dp} {ys:uF} {s':dp},dX g aF cols l s=.ok (ys,s')->jS s->jS s'
 | [],s,ys,s',h,hs=>by unfold dX at h;injection h with h;injection h with h1 h2;rw[<- h2];exact hs
 |(t,d)::l,s,ys,s',h,hs=>by
  unfold dX at h;split at h
  ·cases h
  ·rename_i y k s1 h1;split at h
   ·cases h
   ·rename_i Wf s2 h2;injection h with h;injection h with h3 h4;rw[<- h4];exact CI h2 (CG h1 hs)
theorem zfM.Kbu(h:p:=by exact CI h3 (zx h2 (CH h1 (λ a ha=>by cases ha)))):p:=h
theorem Wh{q:Qy}  {p:ix}(h:dV q cols=.ok p):jS p.st:=by
 open zfM in exact ZdT
theorem least_le:∀(l:List Int) (b:Int),(b≠0->l.foldl jw b≠0/\l.foldl jw b<=b)/\∀e∈l,e≠0->l.foldl jw b≠0/\l.foldl jw b<=e
 | [],b=>⟨λ h=>⟨h,Int.le_refl _⟩,λ e he=>by cases he⟩
 | x::l,b=>by
   obtain⟨h2,h3⟩:=least_le l (jw b x);have k1:b≠0->jw b x≠0/\jw b x<=b:=by unfold jw;split <;> omega
   have k2:x≠0->jw b x≠0/\jw b x<=x:=by unfold jw;split <;> omega
   refine⟨λ hb0=>?_,λ e he he0=>?_⟩
   ·obtain⟨a1,a2⟩:=k1 hb0;obtain⟨c1,c2⟩:=h2 a1;exact⟨c1,Int.le_trans c2 a2⟩
   ·rcases List.mem_cons.1 he with rfl | he
    ·obtain⟨a1,a2⟩:=k2 he0;obtain⟨c1,c2⟩:=h2 a1;exact⟨c1,Int.le_trans c2 a2⟩
    ·exact h3 e he he0
theorem Wi{l:List Int} {e:Int}(h:e∈l)(h0:e≠0):bU l≠0/\bU l<=e:=(least_le l 0).2 e h h0
theorem Qx{l:List Int}(h:bU l=0):∀e∈l,e=0:=λ e he=>Decidable.byContradiction λ h0=>(Wi he h0).1 h
theorem zy{l:List Int}(h:∀e∈l,e=0):bU l=0:=by
 have:∀(l:List Int),(∀e∈l,e=0)->l.foldl jw 0=0:=by
  intro l
  induction l with
  | nil=>intro _;rfl
  | cons x l ih=>intro h;rw[foldl_cons,h x (mem_cons_self ..)];exact ih λ e he=>h e (mem_cons_of_mem _ he)
 exact this l h
theorem J7 (cols:List aV)(rows:y_):cT cols [] rows=(rows,0):=by
 have h1:rows.filter (λ r=>(eK cols [] r).2==0 &&(eK cols [] r).1)=rows:=List.filter_eq_self.2 λ _ _=>rfl
 have h2:bU (rows.map λ r=>(eK cols [] r).2)=0:=zy λ e he=>by obtain⟨r,_,rfl⟩:=List.mem_map.1 he;rfl
 exact Prod.ext h1 h2
theorem CJ{c:α->α->Int} {k:α}:∀ {l:List α} {j:Nat} {x:α},(∀i y,i < j->l[i]?=some y->c y k < 0)->l[j]?=some x->c x k=0->iO c k l=l
 | [],j,x,_,h,_=>by simp at h
 | y::l,0,x,_,h,h0=>by simp at h;subst h;unfold iO;rw[if_neg TD,if_pos h0]
 | y::l,j+1,x,hl,h,h0=>by unfold iO;rw[if_pos (hl 0 y TD rfl),CJ (j:=j) (λ i z hi hz=>hl (i+1) z TD Ta2) Tai h0]
theorem MA{c:α->α->Int} {k:α}:∀ {l:List α} {j:Nat},j<=l.length->(∀i y,i < j->l[i]?=some y->c y k < 0)->(∀y,l[j]?=some y->0 < c y k)->iO c k l=l.take j++k::l.drop j
 | [],j,hj,_,_=>by simp at hj;subst hj;rfl
 | y::l,0,_,_,h=>by have h0:=h y rfl;unfold iO;rw[if_neg TD,if_neg TD];rfl
 | y::l,j+1,hj,hl,h=>by unfold iO;rw[if_pos (hl 0 y TD rfl),MA (j:=j) Ta4 (λ i z hi hz=>hl (i+1) z TD Ta2) (λ z hz=>h z Ta2)];rfl
theorem CK (l:y_)(k:v_):iF (l++ [k])=iO bR k (iF l):=by unfold iF yR;rw[foldl_append];rfl
def bZ (ng:Nat)(l:y_):y_:=if ng=0 then [[]] else iF l
theorem MB (ng:Nat)(l:y_):(bZ ng l).Pairwise (λ a b=>bR a b < 0):=by
 unfold bZ;split
 ·simp
 ·exact(oa fC fD l).1
theorem yu (ng:Nat)(l:y_):(bZ ng l).length<=l.length+1:=by
 unfold bZ;split
 ·simp
 ·have:∀(l:y_),(iF l).length<=l.length:=by
   intro l
   have hk:∀(k:v_) (m:y_),(iO bR k m).length<=m.length+1:=by
    intro k m
    induction m with
    | nil=>simp[iO]
    | cons x m ih=>
      unfold iO;split
      ·simp;omega
      ·split <;> simp
   suffices h:∀(l s:y_),(l.foldl (λ ks k=>iO bR k ks) s).length<=l.length+s.length by
    have:=h l [];simpa [iF,yR] using this
   intro l
   induction l with
   | nil=>intro s;simp
   | cons x l ih=>intro s;rw[foldl_cons];have h1:=ih (iO bR x s);have h2:=hk x s;simp only[length_cons];omega
  have:=this l;omega
def dW (ops:List Int)(ps:List (v_×List (Val×Val)))(k:v_):List St:=(List.range ops.length).map λ i=>cy (ops.getD i 0) (eu i ps k)
theorem jq (ops:List Int)(ps:List (v_×List (Val×Val)))(k:v_):cD ops ps k=(dW ops ps k).map dG:=by unfold cD dW;rw[map_map];rfl
theorem nt (ops:List Int)(ps:List (v_×List (Val×Val)))(k:v_):(dW ops ps k).length=ops.length:=by simp[dW]
variable{ps:List (v_×List (Val×Val))}{k k':v_}{pr:List (Val×Val)}
theorem Qz(h:bR k k'≠0):eu i (ps++ [(k,pr)]) k'=eu i ps k':=by unfold eu;rw[filter_append,map_append,filter_cons_of_neg Tai];simp
theorem Wj(h:bR k k'=0):eu i (ps++ [(k,pr)]) k'=eu i ps k'++ [pr.getD i (aC,aC)]:=by unfold eu;rw[filter_append,map_append,filter_cons_of_pos Tai];simp
theorem J8(h:∀p∈ps,bR p.1 k≠0):eu i ps k=[]:=by unfold eu;rw[List.filter_eq_nil_iff.2 λ p hp=>by simpa using h p hp];rfl
theorem QA (op:Int)(l:List (Val×Val))(x:Val×Val):cy op (l++ [x])=(cy op l).feed x.1 x.2:=by unfold cy St.yP;rw[foldl_append];rfl
variable{ops:List Int}
theorem Jk(h:bR k k'≠0):dW ops (ps++ [(k,pr)]) k'=dW ops ps k':=by
 unfold dW;exact map_congr_left λ i _=>by rw[Qz h]
theorem MC(h:bR k k'=0)(hl:pr.length=ops.length):dW ops (ps++ [(k,pr)]) k'=List.zipWith (λ s p=>St.feed s p.1 p.2) (dW ops ps k') pr:=by
 apply ext_getElem
 ·simp[dW,hl]
 ·intro i h1 h2;have hi:i < ops.length:=by simpa [dW] using h1
  simp only[dW,getElem_zipWith,getElem_map,getElem_range];rw[Wj h,QA,getD_eq_getElem?_getD (l:=pr),getElem?_eq_getElem (by omega:i < pr.length)];rfl
theorem CM(h:∀p∈ps,bR p.1 k≠0):dW ops ps k=ops.map fA:=by
 apply ext_getElem
 ·simp[dW]
 ·intro i h1 h2;have hi:i < ops.length:=by simpa using h2
  simp only[dW,getElem_map,getElem_range];rw[J8 h,getD_eq_getElem?_getD,getElem?_eq_getElem hi];rfl
theorem Wk(kP:∀op∈ops,isAgg op=true)  :∀s∈dW ops ps k,∃op l,op∈ops/\l.length<=ps.length/\s=cy op l:=by
 intro s hs;unfold dW at hs;obtain⟨i,hi,rfl⟩:=List.mem_map.1 hs;have hi:i < ops.length:=List.mem_range.1 hi;refine⟨_,eu i ps k,?_,?_,rfl⟩
 ·rw[getD_eq_getElem?_getD,getElem?_eq_getElem hi];exact getElem_mem hi
 ·unfold eu;rw[length_map];exact length_filter_le _ _
theorem zeR.Ka8(h:p:=by
 unfold jM at gS;have oM:=aa gS;clear gS Ig;unfold cg at hex;go_wp2_with fail;have bY:=ah wr (.cells (az bad) 46);refine(oM.ae _ (ai.then hb bY)).mono ?_;rintro e W3 ⟨rfl,b1⟩;unfold bP;have eI:=ai.then hb (ai.then bY b1);have t1:(er != 0)=true:=by have:=OL.ae;simpa using this
 have t2:decide (er=0)=false:=by have:=OL.ae;simpa using this
 clear bY b1 oM hex hb;go_wp2_with fail;exact bodyPost_ret (v:=.tuple #[ay,af er]) Tbs rfl ⟨rfl,ai.then eI (ah W3 _)⟩):p:=h
theorem QB (A:z_)(n c:Nat)(cV rV:Value)(args:List (Ex×Val))(bad:Ex)(bv:Val)(er:Int)(post:u_)(w:rQ)(hn:args.length+1+post.length=n)(hl:n<=1599289640356)(hA:RE w w.heap.size A (args.map (·.1)++bad::post))(hE:∀a∈args,jM w cV rV a.1 a.2 0)(kq:jM w cV rV bad bv er)(her:er≠0):
  ar 34 #[.slice A n c,cV,rV] w λ e w'=>e=.returned (.tuple #[ay,af er])/\aj w w':=by
 have HN:=aa hn;have Ig:=aa kq;have OL:=aa her;clear hn kq her;have HA:=aa hA;have HE:=aa hE;clear hA hE;go_enter Tryz.func34,Tryz.ntmps34;go_wp2_with fail;go_loopw [8,15] (λ kv i wr=>∃k:Nat,k<=args.length/\i=af k/\aH aU 44 3 wr w.heap.size kv ((args.take k).map (·.2))/\aj w wr) (λ _ i _=>args.length - (intOf i).toNat);case atStart=>exact Zcz
 case round=>
  obtain⟨k,hk,rfl,hp,hb⟩:=hrel;have HP:=aa hp;clear hp;rcases Nat.lt_or_ge k args.length with hlt | vp
  ·have ua:k < n:=by have:=HN.ae;omega
   obtain⟨b,off,rfl,kM,hex⟩:=(HA.ae.below hb).at_ (show k <(args.map (·.1)++bad::post).length by simp;omega);have jC:(args.map (·.1)++bad::post)[k]' Tab=args[k].1:=by rw[getElem_append_left Tan];simp
   exact Zap
  ·open zeR in exact ZcK
theorem QC (A:z_)(n c:Nat)(cV rV:Value)(args:List (Ex×Val))(w:rQ)(hn:args.length=n)(hl:n<=1599289640356)(hA:RE w w.heap.size A (args.map (·.1)))(hE:∀a∈args,jM w cV rV a.1 a.2 0):
  ar 34 #[.slice A n c,cV,rV] w λ e w'=>∃v,e=.returned (.tuple #[v,af 0])/\aH aU 44 3 w' w.heap.size v (args.map (·.2))/\aj w w':=by
 have HN:=aa hn;clear hn;have HA:=aa hA;have HE:=aa hE;clear hA hE;go_enter Tryz.func34,Tryz.ntmps34;go_wp2_with fail;go_loopw [8,15] (λ kv i wr=>∃k:Nat,k<=args.length/\i=af k/\aH aU 44 3 wr w.heap.size kv ((args.take k).map (·.2))/\aj w wr) (λ _ i _=>args.length - (intOf i).toNat);case atStart=>exact Zcz
 case round=>
  obtain⟨k,hk,rfl,hp,hb⟩:=hrel;have HP:=aa hp;clear hp;rcases Nat.lt_or_ge k args.length with hlt | vp
  ·have ua:k < n:=by have:=HN.ae;omega
   obtain⟨b,off,rfl,kM,hex⟩:=(HA.ae.below hb).at_ (show k <(args.map (·.1)).length by simpa using hlt);have jC:(args.map (·.1))[k]' Tan=args[k].1:=by simp
   exact Zap
  ·have lT:args.take k=args:=take_of_length_le vp;have ua:¬k < n:=by have:=HN.ae;omega
   rw[lT] at HP;go_wp2_with fail;exact bodyPost_ret (v:=.tuple #[u8,af 0]) Tbs rfl ⟨_,rfl,HP.ae,hb⟩
theorem aB.jr{size:Nat}   {l:List α}   (hq:aB w q t cs)(h:aH f e size w base v l)(ht:t≠e)(hg:w.grownBy w' v.ownBlock):aB w' q t cs:=hq.grown hg λ e=>h.other hq ht e.symm
theorem Jl:∀ {l:List (Val×Int)},(∀a∈l,a.2=0)->bQ l=0
 | [],_=>rfl
 | a::l,h=>by unfold bQ;rw[if_neg (by simp[h a (mem_cons_self ..)])];exact Jl λ b hb=>h b (mem_cons_of_mem _ hb)
theorem J9:∀ {pre:List (Val×Int)} {bad:Val×Int} {post:List (Val×Int)},(∀a∈pre,a.2=0)->bad.2≠0->bQ (pre++bad::post)=bad.2
 | [],bad,post,_,hb=>by rw[nil_append];unfold bQ;rw[if_pos hb]
 | a::pre,bad,post,h,hb=>by rw[cons_append];unfold bQ;rw[if_neg (by simp[h a (mem_cons_self ..)])];exact J9 (λ b hb=>h b (mem_cons_of_mem _ hb)) hb
def rF (cols:List aV)(row:v_)(ts:uF)(w:rQ)(e:Ending)(w':rQ):Prop:=
 match br cols row ts with
 | .error er=>er≠0/\e=.returned (.tuple #[ay,af er])/\aj w w'
 | .ok l=>∃v,e=.returned (.tuple #[v,af 0])/\aH aU 44 3 w' w.heap.size v l/\aj w w'
theorem Gm (cols:List aV)(CA:z_)(cc:Nat)(row:v_)(RA:z_)(rc:Nat)(ts:uF)(ys:u_)(A:z_)(c:Nat)(w:rQ)(cL:cols.length<=140737488355328)(lX:row.length<=140737488355328)(hro:∀v∈row,v.Ok)
  (aZ:Tr.cH ts) (hat:Tr.aM w (Old w) ts ys) (hl:ys.length<=1599289640356) (hA:RE w w.heap.size A ys) (hC:RC w w.heap.size CA cols) (hV:RV w w.heap.size RA row):
  ar 34 #[.slice A ys.length c,.slice CA cols.length cc,.slice RA row.length rc] w (rF cols row ts w):=by
 obtain⟨l,fJ,hl2,ud⟩:=Tr.Bw cols CA cc row RA rc cL lX hro ts ys w aZ hat hC hV;rcases qN l with h |⟨pre,bad,post,rfl,h1,h2⟩
 ·have hw:br cols row ts=.ok (l.map λ a=>a.2.1):=by unfold br;rw[<- hl2,Jl (λ a ha=>by obtain⟨b,hb,rfl⟩:=List.mem_map.1 ha;exact h b hb),if_neg V0,map_map];rfl
  have e1:(l.map λ a=>(a.1,a.2.1)).map (·.1)=ys:=by rw[map_map,<- fJ];rfl
  refine(QC A ys.length c (.slice CA cols.length cc) (.slice RA row.length rc) (l.map λ a=>(a.1,a.2.1)) w (by rw[<- e1];simp) hl (by rw[e1];exact hA) ?_).mono ?_
  ·intro a ha;obtain⟨b,hb,rfl⟩:=List.mem_map.1 ha;have:=ud b hb;rw[h b hb] at this;exact this
  ·rintro e w' ⟨v,h1,h2,h3⟩;unfold rF;rw[hw];refine⟨v,h1,?_,h3⟩;rw[map_map] at h2;exact h2
 ·have hw:br cols row ts=.error bad.2.2:=by
   have:bQ (Tr.eP cols row ts)=bad.2.2:=by rw[<- hl2,map_append,map_cons];exact J9 (λ a ha=>by obtain⟨b,hb,rfl⟩:=List.mem_map.1 ha;exact h1 b hb) h2
   unfold br;rw[this,if_pos h2]
  have e1:((pre.map λ a=>(a.1,a.2.1)).map (·.1))++bad.1::post.map (·.1)=ys:=by rw[map_map,<- fJ,map_append,map_cons];rfl
  refine(QB A ys.length c (.slice CA cols.length cc) (.slice RA row.length rc) (pre.map λ a=>(a.1,a.2.1)) bad.1 bad.2.1 bad.2.2 (post.map (·.1)) w ?_ hl (by rw[e1];exact hA) ?_ ?_ h2).mono ?_
  ·rw[<- fJ];simp;omega
  ·intro a ha;obtain⟨b,hb,rfl⟩:=List.mem_map.1 ha;have:=ud b (mem_append_left _ hb);rw[h1 b hb] at this;exact this
  ·exact ud bad (mem_append_right _ (mem_cons_self ..))
  ·rintro e w' ⟨h1,h3⟩;unfold rF;rw[hw];exact⟨h2,h1,h3⟩
theorem dZ:∀ {ts:uF} {ys:u_},Tr.aM w S ts ys->ts.length=ys.length
 | [],ys,h=>by unfold Tr.aM at h;rw[h];rfl
 | t::ts,ys,h=>by unfold Tr.aM at h;obtain⟨y,ys',rfl,_,h2⟩:=h;rw[length_cons,length_cons,dZ h2]
theorem wG:∀(ts:uF) (ys:u_),Tr.aM w (Old w) ts ys->∃l:List tO,l.length=ys.length/\(∀(i:Nat) y x,ys[i]?=some y->l[i]?=some x->y.A=x.A/\y.n=x.ys.length/\y.c=x.c/\RE w w.heap.size x.A x.ys)/\Tr.aM w (Old w) (ts.flatMap Tr.args) (l.flatMap tO.ys)/\ys.map Ex.n=ts.map λ t=>t.args.length
 | [],ys,h=>by unfold Tr.aM at h;subst h;exact⟨[],rfl,λ i y x h=>by simp at h,by simp[Tr.aM],rfl⟩
 | t::ts,ys,h=>by
   unfold Tr.aM at h;obtain⟨y,ys',rfl,h1,h2⟩:=h;obtain⟨l,l1,l2,l3,l4⟩:=wG ts ys' h2;obtain⟨op,v,name,width,args⟩:=t;unfold Tr.at_ at h1;obtain⟨_,_,_,_,hn,zs,hz1,hz2⟩:=h1;have hzl:zs.length=args.length:=(dZ hz2).symm;refine⟨⟨y.A,y.c,zs⟩::l,by simp[l1],?_,?_,?_⟩
   ·intro i y' x hy hx;cases i with
    | zero=>
      simp at hy hx;subst hy hx;refine⟨rfl,by rw[hn];exact hzl.symm,rfl,?_⟩;rcases hz1 with h |⟨b,off,e1,e2,e3⟩
      ·exact .inl h
      ·exact .inr ⟨b,off,e1,e2,e3⟩
    | succ i=>exact l2 i y' x (by simpa using hy) (by simpa using hx)
   ·rw[flatMap_cons,flatMap_cons];exact Tr.all_append hz2 l3
   ·rw[map_cons,map_cons,l4,hn];rfl
theorem Jm:∀(ts:uF) (l:v_),(∀t∈ts,t.args.length<=2)->(ts.map λ t=>t.args.length).sum<=l.length->mq (ts.map λ t=>t.args.length) l=gh ts l
 | [],l,_,_=>rfl
 | t::ts,l,h,hl=>by
   rw[map_cons] at hl ⊢;rw[sum_cons] at hl;unfold mq gh;rw[Jm ts (l.drop t.args.length) (λ u hu=>h u (mem_cons_of_mem _ hu)) (by rw[length_drop];omega)];congr 1;have h2:=h t (mem_cons_self ..);generalize t.args.length=n at*;unfold ll
   match n,h2 with
   | 0,_=>simp
   | 1,_=>
     match l,hl with
     | [],hl=>simp at hl
     | a::l,_=>simp
   | 2,_=>
     match l,hl with
     | [],hl=>simp at hl
     | [a],hl=>simp at hl;omega
     | a::b::l,_=>simp
theorem CN{l:List α}  {a:α}(h:l[i]?=some a):l.set i a=l:=by
 apply ext_getElem?;intro j;rw[getElem?_set];split
 ·subst_vars;split
  ·exact h.symm
  ·rename_i hn;rw[getElem?_eq_none TD]
 ·rfl
variable{t':TypeId}{cs':x_}
theorem aiN{g:Nat}  (h:aB w g t cs)(h':aB w g t' cs'):t=t':=by have e1:w.heap[g]?=some (.cells cs t (0,0)):=h;have e2:w.heap[g]?=some (.cells cs' t' (0,0)):=h';rw[e1] at e2;injection e2 with e2;injection e2
theorem CO:∀l:List Nat,Mw l=l.sum
 | []=>rfl
 | n::l=>by unfold Mw;rw[CO l,sum_cons]
theorem CP:∀(ts:uF) (l:v_),(gh ts l).length=ts.length
 | [],_=>rfl
 | t::ts,l=>by unfold gh;simp[CP ts]
structure ia where
 g:Nat
 KA:z_
 kc:Nat
 key:v_
 sv:Value
 qs:List Nat
 ss:List St
structure cM (w:rQ) (A:z_) (l:v_):Prop where
 rv:RV w w.heap.size A l
 ty:∀a,A=some a->∃cur,aB w a.block 44 cur
theorem cM.keep{A:z_} (h:cM w A l)(hs:w.heap.size<=w'.heap.size)(hk:∀b cur,aB w b 44 cur->w'.heap[b]?=w.heap[b]?):cM w' A l:=by
 refine⟨?_,λ a ha=>?_⟩
 ·rcases h.rv with h0 |⟨b,off,rfl,hb,hc⟩
  ·exact .inl h0
  ·obtain⟨cur,yy⟩:=h.ty _ rfl;refine .inr ⟨b,off,rfl,Nat.lt_of_lt_of_le hb hs,λ i x hx=>(hc i x hx).keep λ o=>bI (hk b cur yy) o⟩
 ·obtain⟨cur,yy⟩:=h.ty a ha;exact⟨cur,(hk _ cur yy).trans yy⟩
theorem cM.off{A:z_}  {qs:List Nat} {ss:List St}(h:cM w A l)(hs:dJ w B qs ss):∀a,A=some a->a.block∉qs:=λ a ha=>by obtain⟨cur,yy⟩:=h.ty a ha;exact hs.tP yy V0
theorem Jn(h:aH aU 44 3 w base v l):∃A c,v=.slice A l.length c/\l.length<=c/\cM w A l:=by
 obtain⟨A0,c0,e0,_,hle,_⟩:=h.reads;obtain⟨A,c,rfl,hr⟩:=Hz h;injection e0 with e1 e2 e3;refine⟨A,c,rfl,by rw[e3];exact hle,hr,λ a ha=>?_⟩;have qK:(Value.slice A l.length c).ownBlock=some a.block:=by rw[fU,ha];rfl
 obtain⟨_,_,cur,hc⟩:=h.lt qK;exact⟨cur,hc⟩
structure ia.At (w:rQ) (B:Nat) (x:ia):Prop where
 blk:aB w x.g 141 #[.slice x.KA x.key.length x.kc,x.sv]
 low:B<=x.g
 own:aH dn 145 1 w B x.sv x.qs
 qz:dJ w B x.qs x.ss
 key:cM w x.KA x.key
variable{x:ia}
theorem ia.At.keep(h:x.At w B)(hs:w.heap.size<=w'.heap.size)(hk:∀b t cs,aB w b t cs->(t=141\/t=145\/t=44\/t=199/\b∈x.qs)->w'.heap[b]?=w.heap[b]?):x.At w' B:=by
 refine⟨(hk _ _ _ h.blk (.inl rfl)).trans h.blk,h.low,h.own.keep λ g hg=>?_,h.qz.keep hs λ q hq=>?_,h.key.keep hs λ b cur hb=>hk b _ cur hb (.inr (.inr (.inl rfl)))⟩
 ·obtain⟨_,_,cur,hc⟩:=h.own.lt hg;exact hk g _ cur hc (.inr (.inl rfl))
 ·obtain⟨i,hi,he⟩:=getElem_of_mem hq;have h1:=h.qz.at_ i q (x.ss[i]'(by rw[<- h.qz.len];exact hi)) Tav (getElem?_eq_getElem _);exact hk q _ _ h1 (.inr (.inr (.inr ⟨rfl,hq⟩)))
structure kG (w:rQ) (B:Nat) (xs:List ia):Prop where
 at_:∀x∈xs,x.At w B
 apart:(xs.map ia.qs).Pairwise λ a b=>∀q∈a,q∉b
theorem kG.nil:kG w B []:=⟨λ x h=> Tac,List.Pairwise.nil⟩
variable{xs:List ia}
theorem kG.later(h:kG w B xs)(hb:aj w w'):kG w' B xs:=
 ⟨λ x hx=>(h.at_ x hx).keep hb.size λ b t cs hc _=>hb.block b hc.lt,h.apart⟩
theorem kG.grown{g:Nat}   (h:kG w B xs)(hg:w.grownBy w' (some g))(hc:aB w g t cs)(h1:t≠141)(h2:t≠145)(h3:t≠44)(h4:t≠199):kG w' B xs:=
 ⟨λ x hx=>(h.at_ x hx).keep hg.size λ b t' cs' hc' ho=>hg.block b hc'.lt λ e=>by
   injection e with e
   rw[e] at hc'
   have e2:=aiN hc hc'
   rw[<- e2] at ho
   rcases ho with ho | ho | ho |⟨ho,_⟩
   ·exact h1 ho
   ·exact h2 ho
   ·exact h3 ho
   ·exact h4 ho,h.apart⟩
theorem kG.own{size:Nat}  {l:List α}   (h:kG w B xs)(ho:aH f e size w base v l)(hg:w.grownBy w' v.ownBlock)(h1:e≠141)(h2:e≠145)(h3:e≠44)(h4:e≠199):kG w' B xs:=by
 cases hv:v.ownBlock with
 | none=>rw[hv] at hg;exact h.later (pA hg)
 | some g=>rw[hv] at hg;obtain⟨_,_,cur,hc⟩:=ho.lt hv;exact h.grown hg hc h1 h2 h3 h4
theorem kG.feed{k:Nat}   {ss:List St}(h:kG w B xs)(hx:xs[k]?=some x)(ht:pB w w' x.qs)(hs:dJ w' B x.qs ss):kG w' B (xs.set k { x with ss:=ss }):=by
 have hk:k < xs.length:=by
  rcases Nat.lt_or_ge k xs.length with h | h
  ·exact h
  ·rw[getElem?_eq_none h] at hx;cases hx
 have K7:xs[k]=x:=by rw[getElem?_eq_getElem hk] at hx;injection hx
 have uA:=mem_of_getElem? hx
 have hap:(xs.set k { x with ss:=ss }).map ia.qs=xs.map ia.qs:=by
  rw[map_set];have:(xs.map ia.qs)[k]?=some x.qs:=by rw[getElem?_map,hx];rfl
  exact CN this
 refine⟨λ y hy=>?_,by rw[hap];exact h.apart⟩;obtain⟨i,hi,he⟩:=getElem_of_mem hy;have Kk:i < xs.length:=by simpa using hi
 rw[getElem_set] at he;by_cases hik:k=i
 ·rw[if_pos hik] at he;subst he;have hA:=h.at_ x uA;have hb:∀b t cs,aB w b t cs->t≠199->w'.heap[b]?=w.heap[b]?:=λ b t cs hc hn=>ht.block b hc.lt (hA.qz.tP hc hn)
  refine⟨(hb _ _ _ hA.blk V0).trans hA.blk,hA.low,hA.own.keep λ g hg=>?_,hs,hA.key.keep ht.size λ b cur hc=>hb b _ cur hc V0⟩;obtain⟨_,_,cur,hc⟩:=hA.own.lt hg;exact hb g _ cur hc V0
 ·rw[if_neg hik] at he;subst he;have hA:=h.at_ xs[i] (getElem_mem Kk);refine hA.keep ht.size λ b t cs hc ho=>ht.block b hc.lt λ hm=>?_
  rcases ho with ho | ho | ho |⟨ho,hm2⟩
  ·exact Zf6
  ·exact Zf6
  ·exact Zf6
  ·have hp:=h.apart;rw[pairwise_iff_getElem] at hp;rcases Nat.lt_or_gt_of_ne hik with h1 | h1
   ·have:=hp k i Ta3 (by simpa using Kk) h1;simp only[getElem_map,K7] at this;exact this b hm hm2
   ·have:=hp i k (by simpa using Kk) Ta3 h1;simp only[getElem_map,K7] at this;exact this b hm2 hm
theorem kG.insert{k:Nat}  (h:kG w B xs)(hx:x.At w B)(hn:∀y∈xs,∀q∈y.qs,q∉x.qs):kG w B (xs.take k++x::xs.drop k):=by
 have hp:(xs.take k++x::xs.drop k).Perm (x::xs):=by have:=perm_middle (a:=x) (l₁:=xs.take k) (l₂:=xs.drop k);rwa [take_append_drop] at this
 refine⟨λ y hy=>?_,?_⟩
 ·rcases List.mem_cons.1 (hp.mem_iff.1 hy)with rfl | h1
  ·exact hx
  ·exact h.at_ y h1
 ·refine((hp.map ia.qs).pairwise_iff (λ {a b} hab q hq lx=>hab q lx hq)).2 ?_;rw[map_cons,pairwise_cons];refine⟨λ b hb q hq=>?_,h.apart⟩;obtain⟨y,hy,rfl⟩:=List.mem_map.1 hb;exact λ hm=>hn y hy q hm hq
end Go.Proofs.YtndgjggokjickaaGreatDoor
