/- Parts of the proof. -/
import Derived.Test.YtehhdlgjfdnafaaGreatDoorXF28
namespace Go.Proofs.YtehhdlgjfdnafaaGreatDoor
variable{p:Prop}
set_option maxHeartbeats 90000000
set_option maxRecDepth 100000
open Go.Lib (hid)
open Go.ChangeShapes Go.WideShapes Go.ChangeAt Go.RowKit List
set_option linter.unusedVariables false
set_option linter.unusedSimpArgs false
theorem oU:(Tryz.prog.info? 32).map (·.size)=some 3:=by kernel_rfl
theorem Ea (v:Val):(fZ v).toArray.all (·.oneCell')=true:=by simp[fZ,Value.oneCell']
def J0 (ρ:bw)(w:World)(lg dp:Bool)(l:aK)(e:Ending)(w':World):Prop:=
 GP ρ w qV l (λ v r u w'=>u=.agg (fZ v).toArray/\bh ρ w w' r lg dp) e w'
variable{l:aK}
theorem VF(h:ar bT l=true):qV l=.ok (aV,l.tail):=by unfold qV;rw[cg];simp only[h,if_true];rfl
theorem J1(h:ar bT l=false):qV l=(lZ >>= λ n=>(pure ⟨2,if ar dP l then -n else n,ByteArray.empty⟩:Ps Val)) (ja dP l):=by unfold qV;rw[cg];simp only[h];exact ag (uo dP l)
theorem Eb (ρ:bw)(w:World)(l:aK)(lg dp:Bool)(h:ρ.gh w l lg dp):
  Calls Tryz.prog 123 #[ρ.ptr] w (J0 ρ w lg dp l):=by
 have br:=h.od;have b1:=aa w (.cells #[.int .u8 0,.int .i64 0,.string ⟨#[]⟩] 32);have HQ:=hid (av.new w 32 #[.int .u8 0,.int .i64 0,.string ⟨#[]⟩]);have HD:=hid (bh.aF h b1);have hm:=bz ρ _ l lg dp HD.out.at_ ⟨#[110,117,108,108]⟩;rw[show(⟨#[110,117,108,108]⟩:ByteArray).data.toList=bT from rfl] at hm;clear h b1;cases hh:ar bT l
 ·rw[hh,cy hh] at hm;have HE:=hid (J1 hh);clear hh;go_enter Tryz.func123,Tryz.ntmps123;go_wp2_with fail;refine hm.mono ?_;clear hm;rintro e w1 ⟨rfl,d⟩;have gb:=hid (HD.out.trans d);have qF:=hid (d.blk HQ.out Taa);clear d HD HQ;have hm:=bz ρ w1 l lg dp gb.out.at_ ⟨#[45]⟩;rw[show(⟨#[45]⟩:ByteArray).data.toList=dP from rfl] at hm;go_wp2_with fail;refine hm.mono ?_;clear hm;rintro e w2 ⟨rfl,d⟩;have eZ:=hid (gb.out.trans d);have ku:=hid (d.blk qF.out Taa);clear d gb qF;generalize ar dP l=less at*;generalize ja dP l=l2 at*;go_wp2_with fail;refine(ey ρ w2 l2 lg dp eZ.out.at_).mono ?_;intro e w3 hp;rcases hp.cases with ⟨n,l3,v9,aC,rfl,rfl,⟨Bd,Cf⟩,d⟩|⟨m,au,rfl,hg⟩;case inr=>have HF:=hid (show qV l=.error m from HE.out.trans (ak au));have HG:=hid eZ.out.grown;clear hp au;go_wp2_with fail;exact aj rfl (GP.err HF.out ⟨rfl,ai HG.out hg⟩)
  have vx:=hid (show qV l=.ok (⟨2,if less then -n else n,ByteArray.empty⟩,l3)from HE.out.trans ((ag aC).trans rfl));have kt:=hid (eZ.out.trans d);have nh:=hid (d.blk ku.out Taa);clear hp aC d eZ ku HE;cases less
  ·have HX:=hid (show qV l=.ok (⟨2,n,ByteArray.empty⟩,l3)from vx.out);clear vx;go_wp2_with (first
    |(refine wpList_store_row rfl 32 (.tmp 2) (.tmp 16) rfl w.heap.size (fZ ⟨2,n,ByteArray.empty⟩).toArray rfl rfl 32 #[.int .u8 0,.int .i64 0,.string ⟨#[]⟩] nh.out oU rfl (Ea _) ?_
      have HR:=hid (nh.out.row (fZ ⟨2,n,ByteArray.empty⟩).toArray)))
   exact bodyPost_ret (v:=.agg (fZ ⟨2,n,ByteArray.empty⟩).toArray) (results_cell_row Tryz.results123 _ _ w.heap.size 32 (fZ ⟨2,n,ByteArray.empty⟩).toArray (0,0) _ rfl HR.out Tryz.underlying32 rfl oU) rfl
    (GP.ok HX.out ⟨rfl,kt.out.own br (cP w3 _ _) (λ G e=>by injection e with e;omega)⟩)
  ·have HX:=hid (show qV l=.ok (⟨2, -n,ByteArray.empty⟩,l3)from vx.out);have xc:IntKind.i64.wrap (-n)= -n:=Go.IntWalk.i64_in _ Taa;clear vx;go_wp2_with (first
    |(refine wpList_store_row rfl 32 (.tmp 2) (.tmp 16) rfl w.heap.size (fZ ⟨2, -n,ByteArray.empty⟩).toArray rfl rfl 32 #[.int .u8 0,.int .i64 0,.string ⟨#[]⟩] nh.out oU rfl (Ea _) ?_
      have HR:=hid (nh.out.row (fZ ⟨2, -n,ByteArray.empty⟩).toArray)))
   exact bodyPost_ret (v:=.agg (fZ ⟨2, -n,ByteArray.empty⟩).toArray) (results_cell_row Tryz.results123 _ _ w.heap.size 32 (fZ ⟨2, -n,ByteArray.empty⟩).toArray (0,0) _ rfl HR.out Tryz.underlying32 rfl oU) rfl
    (GP.ok HX.out ⟨rfl,kt.out.own br (cP w3 _ _) (λ G e=>by injection e with e;omega)⟩)
 ·rw[hh,cE hh] at hm;have HE:=hid (VF hh);clear hh;go_enter Tryz.func123,Tryz.ntmps123;go_wp2_with fail;refine hm.mono ?_;clear hm;rintro e w1 ⟨rfl,d⟩;have gb:=hid (HD.out.trans d);have qF:=hid (d.blk HQ.out Taa);clear d HD HQ;go_wp2_with (first
   |(refine wpList_store_row rfl 32 (.tmp 2) (.tmp 7) rfl w.heap.size (fZ aV).toArray rfl rfl 32 #[.int .u8 0,.int .i64 0,.string ⟨#[]⟩] qF.out oU rfl (Ea _) ?_
     have HR:=hid (qF.out.row (fZ aV).toArray)))
  exact bodyPost_ret (v:=.agg (fZ aV).toArray) (results_cell_row Tryz.results123 _ _ w.heap.size 32 (fZ aV).toArray (0,0) _ rfl HR.out Tryz.underlying32 rfl oU) rfl
   (GP.ok HE.out ⟨rfl,gb.out.own br (cP w1 _ _) (λ G e=>by injection e with e;omega)⟩)
def RZ (s:List UInt8):Int:=if s=bV then 9 else if s=bQ then 10 else if s=df then 11 else 12
def MD:List (List UInt8×Value):=[([114,101,102,114,101,115,104],.int .u8 9),([99,111,109,112,114,101,115,115],.int .u8 10),([100,101,99,111,109,112,114,101,115,115],.int .u8 11),([100,114,111,112,95,99,104,117,110,107,115],.int .u8 12)]
variable{s:List UInt8}
theorem VG(h:s∈ [bV,bQ,df,eP]):(MD.lookup (⟨s.toArray⟩:ByteArray).data.toList).getD (.int .u8 0)=.int .u8 (RZ s):=by
 simp only[mem_cons,not_mem_nil,or_false] at h;rcases h with rfl | rfl | rfl | rfl <;> rfl
def J2 (k:Int)(name:ByteArray)(aP dx:Val):Ps St:=return { kind:=k,name,aP,dx }
def J3 (k:Int)(name:ByteArray)(aP dx:Val):Ps St:=must aM >>= λ _=>J2 k name aP dx
def ME (k:Int)(name:ByteArray)(aP:Val):Ps St:=qV >>= λ dx=>J3 k name aP dx
def J4 (name:ByteArray)(aP:Val):Ps St:=must bt >>= λ _=>ME 9 name aP
def He (k:Int)(name:ByteArray):Ps St:=kB k >>= λ aP=>ME k name aP
def aey (k:Int)(name:ByteArray):Ps St:=must bt >>= λ _=>He k name
def aez (k:Int):Ps St:=cC >>= λ name=>aey k name
def aeA (k:Int):Ps St:=must bG >>= λ _=>aez k
def J5:Ps St:=jS [bV,bQ,df,eP] >>= λ s=>aeA (RZ s)
def fJ:Ps St:=must lX >>= λ _=>J5
theorem ahm (name:ByteArray):He 9 name=(qV >>= λ aP=>J4 name aP):=by unfold He kB;rw[if_pos rfl];simp only[ji];rfl
variable{k:Int}
theorem abO(name:ByteArray)(h:¬k=9):He k name=ME k name aV:=by unfold He kB;rw[if_neg h];rfl
theorem J6:fJ=(must lX >>= λ _=>AO):=rfl
theorem zcH.Kaz(h:p:=by generalize w17.setRow (w.heap.size) cs=WF at*;exact Zdw):p:=h
theorem zfc.Kbq(h:p:=by refine wpList_store_row rfl 34 (.tmp 2) (.tmp 38) rfl (w.heap.size) cs rfl rfl 34 cK mC.out dS.out mF.out jN.out ?_;open zcH in exact ZaS):p:=h
theorem zbb.Kah(h:p:=by have wy:=hid (show av w17 b 34 cs by rw[hcs];exact HA.out.blk);have mC:=hid HA.out.sa.res;have tX:=hid (show cQ ρ w lg dp fJ l (.returned (.agg cs)) (w17.setRow (w.heap.size) cs) by rw[hcs];exact HA.out.post br HX.out);open zfc in exact ZcH):p:=h
theorem zcI.Kaz(h:p:=by generalize Uz.setRow (w.heap.size) cs=WF at*;exact Zdw):p:=h
theorem zfd.Kbq(h:p:=by refine wpList_store_row rfl 34 (.tmp 2) (.tmp 38) rfl (w.heap.size) cs rfl rfl 34 cK mC.out dS.out mF.out jN.out ?_;open zcI in exact ZaS):p:=h
theorem zbc.Kah(h:p:=by have wy:=hid (show av Uz b 34 cs by rw[hcs];exact HA.out.blk);have mC:=hid HA.out.sa.res;have tX:=hid (show cQ ρ w lg dp fJ l (.returned (.agg cs)) (Uz.setRow (w.heap.size) cs) by rw[hcs];exact HA.out.post br HX.out);open zfd in exact ZcH):p:=h
theorem zh2.KcG(h:p:=by
 intro e w17 hp;rcases hp.cases with ⟨_,l18,v9,aC,rfl,rfl,d⟩|⟨m,au,rfl,hg⟩;case inr=>have HF:=hid (show fJ l=.error m from HE.out.trans (ak (show must aM l15=.error m by rw[<- aB];exact au)));have HG:=hid HB.out.sa.did.grown;clear hp au;go_wp2_with fail;exact aj rfl (GP.err HF.out ⟨rfl,ai HG.out hg⟩)
 have cf:=hid (show fJ l=J2 9 nm aP VI l18 from HE.out.trans (ag (show must aM l15=.ok ((),l18) by rw[<- aB];exact aC)));have HA:=hid (HB.out.go br d);clear hp aC d HB HE lH;have HE:=cf;clear cf;go_upto_region 11 with fail;have HX:=hid (show fJ l=.ok ({ kind:=9,name:=nm,aP:=aP,dx:=VI },l18)from HE.out);obtain⟨cs,hcs⟩:∃cs,cs=(cd { kind:=9,name:=nm,aP:=aP,dx:=VI }).toArray:=⟨_,rfl⟩;open zbb in exact Zal):p:=h
theorem zh3.KcG(h:p:=by
 intro e Uz hp;rcases hp.cases with ⟨_,l13,v9,aC,rfl,rfl,d⟩|⟨m,au,rfl,hg⟩;case inr=>have HF:=hid (show fJ l=.error m from HE.out.trans (ak (show must aM l10=.error m by rw[<- aB];exact au)));have HG:=hid HB.out.sa.did.grown;clear hp au;go_wp2_with fail;exact aj rfl (GP.err HF.out ⟨rfl,ai HG.out hg⟩)
 have cf:=hid (show fJ l=J2 kx nm aV VI l13 from HE.out.trans (ag (show must aM l10=.ok ((),l13) by rw[<- aB];exact aC)));have HA:=hid (HB.out.go br d);clear hp aC d HB HE lH;have HE:=cf;clear cf;go_upto_region 11 with fail;have HX:=hid (show fJ l=.ok ({ kind:=kx,name:=nm,dx:=VI },l13)from HE.out);obtain⟨cs,hcs⟩:∃cs,cs=(cd { kind:=kx,name:=nm,dx:=VI }).toArray:=⟨_,rfl⟩;open zbc in exact Zal):p:=h
theorem zgu.KbX(h:p:=by
 refine hm.mono ?_;clear hm;intro e w8 hp;rcases hp.cases with ⟨sx,l8,v9,aC,rfl,rfl,d⟩|⟨m,au,rfl,hg⟩;case inr=>have HF:=hid (show fJ l=.error m from HE.out.trans (ak au));have HG:=hid HB.out.did.grown;clear hp au;go_wp2_with fail;exact aj rfl (GP.err HF.out ⟨rfl,ai HG.out hg⟩)
 have yJ:=vH aC;have cf:=hid (show fJ l=aeA (RZ sx) l8 from HE.out.trans (ag aC));have HS:=hid (HB.out.go br d);have FK:=hid (show mD w8 w1.heap.size MD from(d.grown.block _ Tae (by intro e;injection e with e;omega)).trans G1.out);have HLK:=hid (VG yJ);clear hp aC d HB HE G1 yJ;have HE:=cf;clear cf;try unfold strOf
 go_upto_region 3 with (first
  |(refine fI Tryz.underlying158 Tryz.underlying9 rfl _ _ rfl w1.heap.size rfl (⟨sx.toArray⟩:ByteArray) rfl (l:=MD) FK.out (z:=.int .u8 0) Tryz.zeroValue5 ?_
    rw[HLK.out]))
 clear HLK FK;generalize RZ sx=kx at*;have hb:=aa w8 (.cells (aR [bG]) 9);have HB:=hid (HS.out.later hb);have lH:=HS.out.res.lt;have hm:=aY ρ _ l8 _ _ HB.out.did.at_ [bG] w8.heap.size 1 rfl (av.new w8 _ _) Taa Taa;clear hb HS;unfold aR strOf at hm HB;simp only[map_cons,map_nil] at hm HB;rw[show bG.toArray= #[40] from rfl] at hm HB;go_wp2_with fail;refine hm.mono ?_;clear hm;intro e w3 hp;rcases hp.cases with ⟨_,l4,v9,aC,rfl,rfl,d⟩|⟨m,au,rfl,hg⟩;case inr=>have HF:=hid (show fJ l=.error m from HE.out.trans (ak (show must bG l8=.error m by rw[<- aB];exact au)));have HG:=hid HB.out.did.grown;clear hp au;go_wp2_with fail;exact aj rfl (GP.err HF.out ⟨rfl,ai HG.out hg⟩)
 have cf:=hid (show fJ l=aez kx l4 from HE.out.trans (ag (show must bG l8=.ok ((),l4) by rw[<- aB];exact aC)));have HS:=hid (HB.out.go br d);clear hp aC d HB HE lH;have HE:=cf;clear cf;go_wp2_with fail;refine(ep ρ w3 l4 _ _ HS.out.did.at_).mono ?_;intro e w5 hp;rcases hp.cases with ⟨nm,l6,v9,aC,rfl,rfl,d⟩|⟨m,au,rfl,hg⟩;case inr=>have HF:=hid (show fJ l=.error m from HE.out.trans (ak au));have HG:=hid HS.out.did.grown;clear hp au;go_wp2_with fail;exact aj rfl (GP.err HF.out ⟨rfl,ai HG.out hg⟩)
 have cf:=hid (show fJ l=aey kx nm l6 from HE.out.trans (ag aC));clear hp aC HE;have HE:=cf;clear cf;have xh:=d.size;have ru:=hid (HS.out.go br d);have hbq:=ru.out.res.lt;obtain⟨cs,hcs⟩:∃cs,cs=(cd { kind:=kx,name:=nm }).toArray:=⟨_,rfl⟩;have dS:=hid (show(Tryz.prog.info? 34).map (·.size)=some cs.size by rw[hcs];exact cz);have mF:=hid (show cK.size=cs.size by rw[hcs,bB];exact bB _);have jN:=hid (show cs.all (·.oneCell')=true by rw[hcs];exact cW _);have Cm:=hid (show Tryz.prog.built 34 [(0,.int .u8 kx),(1,.string nm)]=some cs by rw[hcs];exact mS _ _);have HA:=hid (show wu ρ w (w.heap.size) [] lg dp w5.heap.size (w5.alloc (.cells cs 34)) l6 { kind:=kx,name:=nm } { kind:=kx,name:=nm } by
  rw[hcs]
  exact ru.out.start (lg2:=lg) (dp2:=dp) { kind:=kx,name:=nm } { kind:=kx,name:=nm } (λ p hp=>by simp at hp) Tal Tas Tal (λ W S=> { St.kV W S with kind:=rfl,name:=rfl }))
 clear d HS ru hcs;go_upto_region 5 with (first
  |(refine iF rfl 34 _ rfl (cs:=cs) ?hv ?_;rotate_left)
  |(refine wpList_store_row rfl 34 (.tmp 4) (.tmp 20) rfl w5.heap.size cs rfl rfl 34 cK (av.new w5 34 cK) dS.out mF.out jN.out ?_
    rw[iG]))
 case hv=>exact Cm.out
 generalize hb:w5.heap.size=b at*;generalize hW:(World.alloc _ _)=WB at*;clear hW hb xh Cm jN mF dS;have hb:=aa WB (.cells (aR [bt]) 9);have HB:=hid (HA.out.later hb);have lH:=HA.out.blk.lt;have hm:=aY ρ _ l6 _ _ HB.out.sa.did.at_ [bt] WB.heap.size 1 rfl (av.new WB _ _) Taa Taa;clear hb HA;unfold aR strOf at hm HB;simp only[map_cons,map_nil] at hm HB;rw[show bt.toArray= #[44] from rfl] at hm HB;go_wp2_with fail;refine hm.mono ?_;clear hm;intro e w7 hp;rcases hp.cases with ⟨_,l8,v9,aC,rfl,rfl,d⟩|⟨m,au,rfl,hg⟩;case inr=>have HF:=hid (show fJ l=.error m from HE.out.trans (ak (show must bt l6=.error m by rw[<- aB];exact au)));have HG:=hid HB.out.sa.did.grown;clear hp au;go_wp2_with fail;exact aj rfl (GP.err HF.out ⟨rfl,ai HG.out hg⟩)
 have cf:=hid (show fJ l=He kx nm l8 from HE.out.trans (ag (show must bt l6=.ok ((),l8) by rw[<- aB];exact aC)));have HA:=hid (HB.out.go br d);clear hp aC d HB HE lH;have HE:=cf;clear cf;by_cases h9:kx=9
 ·subst h9;have cf:=hid (show fJ l=(qV >>= λ aP=>J4 nm aP) l8 from HE.out.trans (congrFun (ahm nm) _));clear HE;have HE:=cf;clear cf;go_wp2_with fail;refine(Eb ρ w7 l8 _ _ HA.out.sa.did.at_).mono ?_;intro e w9 hp;rcases GP.cases hp with ⟨aP,l10,v9,aC,rfl,rfl,d⟩|⟨m,au,rfl,hg⟩;case inr=>have HF:=hid (show fJ l=.error m from HE.out.trans (ak au));have HG:=hid HA.out.sa.did.grown;clear hp au;go_wp2_with fail;exact aj rfl (GP.err HF.out ⟨rfl,ai HG.out hg⟩)
  have cf:=hid (show fJ l=J4 nm aP l10 from HE.out.trans (ag aC));clear hp aC HE;have HE:=cf;clear cf;obtain⟨vk,vn,vs⟩:=aP;have hX:=d.blk HA.out.blk Taf;have x0:w9.cell? ⟨b,22,none⟩=_:=hX.cell 22;have f0:w9.frozen? ⟨b,22,none⟩=_:=hX.frozen 22;have x1:w9.cell? ⟨b,23,none⟩=_:=hX.cell 23;have f1:w9.frozen? ⟨b,23,none⟩=_:=hX.frozen 23;have x2:w9.cell? ⟨b,24,none⟩=_:=hX.cell 24;have f2:w9.frozen? ⟨b,24,none⟩=_:=hX.frozen 24;have RP:=HA.out.set (m':= { kind:=9,name:=nm,aP:=⟨vk,0,ByteArray.empty⟩}) (d':= { kind:=9,name:=nm,aP:=⟨vk,0,ByteArray.empty⟩}) br d 22 (.int .u8 vk) rfl rfl rfl (λ hat=> { hat with aP:=rfl });have Fu:=RP.set (m':= { kind:=9,name:=nm,aP:=⟨vk,vn,ByteArray.empty⟩}) (d':= { kind:=9,name:=nm,aP:=⟨vk,vn,ByteArray.empty⟩}) br (bh.refl RP.sa.did.at_) 23 (.int .i64 vn) rfl rfl rfl (λ hat=> { hat with aP:=rfl });have fH:=hid (Fu.set (m':= { kind:=9,name:=nm,aP:=⟨vk,vn,vs⟩}) (d':= { kind:=9,name:=nm,aP:=⟨vk,vn,vs⟩}) br (bh.refl Fu.sa.did.at_) 24 (.string vs) rfl rfl rfl (λ hat=> { hat with aP:=rfl }));clear hX d HA RP Fu;have HA:=fH;clear fH;unfold cd kL fN fZ at x0 x1 x2;unfold fZ;go_upto_region 8 with fail;clear x0 x1 x2 f0 f1 f2;generalize (World.setCell (World.setCell (World.setCell _ _ _) _ _) _ _)=Qn at*;obtain⟨aP,hv9⟩:∃v:Val,v=⟨vk,vn,vs⟩:=⟨_,rfl⟩;rw[<- hv9] at HA HE;clear hv9;have hb:=aa Qn (.cells (aR [bt]) 9);have HB:=hid (HA.out.later hb);have lH:=HA.out.blk.lt;have hm:=aY ρ _ l10 _ _ HB.out.sa.did.at_ [bt] Qn.heap.size 1 rfl (av.new Qn _ _) Taa Taa
  clear hb HA;unfold aR strOf at hm HB;simp only[map_cons,map_nil] at hm HB;rw[show bt.toArray= #[44] from rfl] at hm HB;go_wp2_with fail;refine hm.mono ?_;clear hm;intro e Uz hp;rcases hp.cases with ⟨_,l13,v9,aC,rfl,rfl,d⟩|⟨m,au,rfl,hg⟩;case inr=>have HF:=hid (show fJ l=.error m from HE.out.trans (ak (show must bt l10=.error m by rw[<- aB];exact au)));have HG:=hid HB.out.sa.did.grown;clear hp au;go_wp2_with fail;exact aj rfl (GP.err HF.out ⟨rfl,ai HG.out hg⟩)
  have cf:=hid (show fJ l=ME 9 nm aP l13 from HE.out.trans (ag (show must bt l10=.ok ((),l13) by rw[<- aB];exact aC)));have HA:=hid (HB.out.go br d);clear hp aC d HB HE lH;have HE:=cf;clear cf;go_wp2_with fail;refine(Eb ρ Uz l13 _ _ HA.out.sa.did.at_).mono ?_;intro e Jr hp;rcases GP.cases hp with ⟨VI,l15,v9,aC,rfl,rfl,d⟩|⟨m,au,rfl,hg⟩;case inr=>have HF:=hid (show fJ l=.error m from HE.out.trans (ak au));have HG:=hid HA.out.sa.did.grown;clear hp au;go_wp2_with fail;exact aj rfl (GP.err HF.out ⟨rfl,ai HG.out hg⟩)
  have cf:=hid (show fJ l=J3 9 nm aP VI l15 from HE.out.trans (ag aC));clear hp aC HE;have HE:=cf;clear cf;obtain⟨vk,vn,vs⟩:=VI;have hX:=d.blk HA.out.blk Taf;have x0:Jr.cell? ⟨b,25,none⟩=_:=hX.cell 25;have f0:Jr.frozen? ⟨b,25,none⟩=_:=hX.frozen 25;have x1:Jr.cell? ⟨b,26,none⟩=_:=hX.cell 26;have f1:Jr.frozen? ⟨b,26,none⟩=_:=hX.frozen 26;have x2:Jr.cell? ⟨b,27,none⟩=_:=hX.cell 27;have f2:Jr.frozen? ⟨b,27,none⟩=_:=hX.frozen 27;have RP:=HA.out.set (m':= { kind:=9,name:=nm,aP:=aP,dx:=⟨vk,0,ByteArray.empty⟩}) (d':= { kind:=9,name:=nm,aP:=aP,dx:=⟨vk,0,ByteArray.empty⟩}) br d 25 (.int .u8 vk) rfl rfl rfl (λ hat=> { hat with dx:=rfl });have Fu:=RP.set (m':= { kind:=9,name:=nm,aP:=aP,dx:=⟨vk,vn,ByteArray.empty⟩}) (d':= { kind:=9,name:=nm,aP:=aP,dx:=⟨vk,vn,ByteArray.empty⟩}) br (bh.refl RP.sa.did.at_) 26 (.int .i64 vn) rfl rfl rfl (λ hat=> { hat with dx:=rfl });have fH:=hid (Fu.set (m':= { kind:=9,name:=nm,aP:=aP,dx:=⟨vk,vn,vs⟩}) (d':= { kind:=9,name:=nm,aP:=aP,dx:=⟨vk,vn,vs⟩}) br (bh.refl Fu.sa.did.at_) 27 (.string vs) rfl rfl rfl (λ hat=> { hat with dx:=rfl }));clear hX d HA RP Fu;have HA:=fH;clear fH;unfold cd kL fN fZ at x0 x1 x2;unfold fZ;go_upto_region 10 with fail;clear x0 x1 x2 f0 f1 f2;generalize (World.setCell (World.setCell (World.setCell _ _ _) _ _) _ _)=aho at*;obtain⟨VI,hv9⟩:∃v:Val,v=⟨vk,vn,vs⟩:=⟨_,rfl⟩;rw[<- hv9] at HA HE;clear hv9;have hb:=aa aho (.cells (aR [aM]) 9);have HB:=hid (HA.out.later hb);have lH:=HA.out.blk.lt;have hm:=aY ρ _ l15 _ _ HB.out.sa.did.at_ [aM] aho.heap.size 1 rfl (av.new aho _ _) Taa Taa
  open zh2 in exact ZgB
 ·have cf:=hid (show fJ l=ME kx nm aV l8 from HE.out.trans (congrFun (abO nm h9) _));clear HE;have HE:=cf;clear cf;go_wp2_with fail;refine(Eb ρ w7 l8 _ _ HA.out.sa.did.at_).mono ?_;intro e w9 hp;rcases GP.cases hp with ⟨VI,l10,v9,aC,rfl,rfl,d⟩|⟨m,au,rfl,hg⟩;case inr=>have HF:=hid (show fJ l=.error m from HE.out.trans (ak au));have HG:=hid HA.out.sa.did.grown;clear hp au;go_wp2_with fail;exact aj rfl (GP.err HF.out ⟨rfl,ai HG.out hg⟩)
  have cf:=hid (show fJ l=J3 kx nm aV VI l10 from HE.out.trans (ag aC));clear hp aC HE;have HE:=cf;clear cf;obtain⟨vk,vn,vs⟩:=VI;have hX:=d.blk HA.out.blk Taf;have x0:w9.cell? ⟨b,25,none⟩=_:=hX.cell 25;have f0:w9.frozen? ⟨b,25,none⟩=_:=hX.frozen 25;have x1:w9.cell? ⟨b,26,none⟩=_:=hX.cell 26;have f1:w9.frozen? ⟨b,26,none⟩=_:=hX.frozen 26;have x2:w9.cell? ⟨b,27,none⟩=_:=hX.cell 27;have f2:w9.frozen? ⟨b,27,none⟩=_:=hX.frozen 27;have RP:=HA.out.set (m':= { kind:=kx,name:=nm,dx:=⟨vk,0,ByteArray.empty⟩}) (d':= { kind:=kx,name:=nm,dx:=⟨vk,0,ByteArray.empty⟩}) br d 25 (.int .u8 vk) rfl rfl rfl (λ hat=> { hat with dx:=rfl });have Fu:=RP.set (m':= { kind:=kx,name:=nm,dx:=⟨vk,vn,ByteArray.empty⟩}) (d':= { kind:=kx,name:=nm,dx:=⟨vk,vn,ByteArray.empty⟩}) br (bh.refl RP.sa.did.at_) 26 (.int .i64 vn) rfl rfl rfl (λ hat=> { hat with dx:=rfl });have fH:=hid (Fu.set (m':= { kind:=kx,name:=nm,dx:=⟨vk,vn,vs⟩}) (d':= { kind:=kx,name:=nm,dx:=⟨vk,vn,vs⟩}) br (bh.refl Fu.sa.did.at_) 27 (.string vs) rfl rfl rfl (λ hat=> { hat with dx:=rfl }));clear hX d HA RP Fu;have HA:=fH;clear fH;unfold cd kL fN fZ at x0 x1 x2;unfold fZ;go_upto_region 10 with fail;clear x0 x1 x2 f0 f1 f2;generalize (World.setCell (World.setCell (World.setCell _ _ _) _ _) _ _)=Qn at*;obtain⟨VI,hv9⟩:∃v:Val,v=⟨vk,vn,vs⟩:=⟨_,rfl⟩;rw[<- hv9] at HA HE;clear hv9;have hb:=aa Qn (.cells (aR [aM]) 9);have HB:=hid (HA.out.later hb);have lH:=HA.out.blk.lt;have hm:=aY ρ _ l10 _ _ HB.out.sa.did.at_ [aM] Qn.heap.size 1 rfl (av.new Qn _ _) Taa Taa
  open zh3 in exact ZgB):p:=h
theorem zgX.Kca(h:p:=by have hb:=aa wm (.cells (aR [bV,bQ,df,eP]) 9);have HB:=hid (ru.out.later hb);have G1:=hid (show mD (wm.alloc (.cells (aR [bV,bQ,df,eP]) 9)) w1.heap.size MD from(hb.block _ qg).trans RO.out);have lH:=ru.out.res.lt;have hm:=ry ρ _ l2 _ _ HB.out.did.at_ [bV,bQ,df,eP] wm.heap.size 4 rfl (av.new wm _ _) Taa Taa;clear hb RO ru;unfold aR strOf at hm HB G1;simp only[map_cons,map_nil] at hm HB G1;rw[show bV.toArray= #[114,101,102,114,101,115,104] from rfl,show bQ.toArray= #[99,111,109,112,114,101,115,115] from rfl,show df.toArray= #[100,101,99,111,109,112,114,101,115,115] from rfl,show eP.toArray= #[100,114,111,112,95,99,104,117,110,107,115] from rfl] at hm HB G1;open zgu in exact Zef):p:=h
theorem zf1.KbN(h:p:=by refine bu Tryz.underlying158 Tryz.underlying9 rfl _ _ _ rfl w1.heap.size rfl [114,101,102,114,101,115,104] rfl (.int .u8 9) rfl HM Tab ?_;clear HM;intro wm HM jk;replace HG:=ai HG jk;clear jk;refine bu Tryz.underlying158 Tryz.underlying9 rfl _ _ _ rfl w1.heap.size rfl [99,111,109,112,114,101,115,115] rfl (.int .u8 10) rfl HM Tab ?_;clear HM;intro wm HM jk;replace HG:=ai HG jk;clear jk;refine bu Tryz.underlying158 Tryz.underlying9 rfl _ _ _ rfl w1.heap.size rfl [100,101,99,111,109,112,114,101,115,115] rfl (.int .u8 11) rfl HM Tab ?_;clear HM;intro wm HM jk;replace HG:=ai HG jk;clear jk;refine bu Tryz.underlying158 Tryz.underlying9 rfl _ _ _ rfl w1.heap.size rfl [100,114,111,112,95,99,104,117,110,107,115] rfl (.int .u8 12) rfl HM Tab ?_;clear HM;intro wm HM jk;replace HG:=ai HG jk;clear jk;have RO:=hid (show mD wm w1.heap.size MD from HM);open zgX in exact ZeE):p:=h
theorem zem.Ka9(h:p:=by
 have hb:=aa W0 (.cells (aR [lX]) 9);have HB:=hid (HS.out.later hb);have lH:=HS.out.res.lt;have hm:=aY ρ _ l _ _ HB.out.did.at_ [lX] W0.heap.size 1 rfl (av.new W0 _ _) Taa Taa;clear hb HS;unfold aR strOf at hm HB;simp only[map_cons,map_nil] at hm HB;rw[show lX.toArray= #[99,97,108,108] from rfl] at hm HB;go_wp2_with fail;refine hm.mono ?_;clear hm;intro e w1 hp;rcases hp.cases with ⟨_,l2,v9,aC,rfl,rfl,d⟩|⟨m,au,rfl,hg⟩;case inr=>have HF:=hid (show fJ l=.error m from HE.out.trans (ak (show must lX l=.error m by rw[<- aB];exact au)));have HG:=hid HB.out.did.grown;clear hp au;go_wp2_with fail;exact aj rfl (GP.err HF.out ⟨rfl,ai HG.out hg⟩)
 have cf:=hid (show fJ l=J5 l2 from HE.out.trans (ag (show must lX l=.ok ((),l2) by rw[<- aB];exact aC)));open zf1 in exact ZdX):p:=h
theorem zeF.Kbe(h:p:=by have HE:=hid (show fJ l=(must lX >>= λ _=>J5) l from rfl);clear h b1;go_enter Tryz.func73,Tryz.ntmps73;open zem in exact Zb3):p:=h
theorem VH (ρ:bw)(w:World)(l:aK)(lg dp:Bool)(h:ρ.gh w l lg dp):
  Calls Tryz.prog 73 #[ρ.ptr] w (cQ ρ w lg dp fJ l):=by
 open zeF in exact Zce
def Vw (ρ:bw)(W:World)(pb:Nat):vX:=⟨ρ,W,24,W.heap.size,0,pb,W.heap.size+1,#[.slice none 0 0],[],λ _ _=>True⟩
variable{ρ:bw}{W:World}{pb:Nat}
theorem F8(hg:ρ.g < W.heap.size)(h1:ρ.g < pb)(h2:pb < W.heap.size):(Vw ρ W pb).Fit:=
 ⟨hg,Nat.le_refl _,h1,by show pb≠W.heap.size;omega,Nat.lt_succ_self _,by show pb < W.heap.size+1;omega,λ x hx=>by simp[Vw] at hx,by show 0 < 1;omega,λ w w' S S' h hk=>trivial⟩
theorem zhI.Kcw(h:p:=by
 have br:=F.gg;have hp0:=F.p0;have WX:=F.pq;have hqB:=F.qB;have hpB:=F.pB;have hsz:=A.sz;have hgW:γ.ρ.g < W.heap.size:=by have:=hd.lt;omega
 have hvo:∀G,v.ownBlock=some G->G < W.heap.size:=λ G hG=>(A.ge hG).2
 have HA:=hid A;have HD:=hid hd;have b1:=aa W (.cells #[.slice none 0 0] 24);have HR:=hid (av.new W 24 #[.slice none 0 0]);have HG1:=hid (bh.aF hd.at_ b1);clear Vp A hd b1;go_enter Tryz.func118,Tryz.ntmps118;go_upto_region 1 with fail;generalize hW1:(W.alloc _)=W1 at*;clear hW1;have hr1:=HR.out.lt;have p0:=(HA.out.grown F HG1.out.grown).ptr;have hb:=aa W1 (.cells (aR [bG]) 9);have Ad:=hid (HG1.out.later hb);have Og:=hid (HR.out.later hb);have hm:=aY γ.ρ _ l _ _ Ad.out.at_ [bG] W1.heap.size 1 rfl (av.new W1 _ _) Taa Taa;clear hb HG1 HR;unfold aR strOf at hm Ad Og;simp only[map_cons,map_nil] at hm Ad Og;rw[show bG.toArray= #[40] from rfl] at hm Ad Og;go_wp2_with fail;refine hm.mono ?_;clear hm p0;intro e w2 hp
 rcases hp.cases with ⟨_,l2,v9,aC,rfl,rfl,d⟩|⟨m,au,rfl,hg⟩;case inr=>
  have FJ:must bG l=.error m:=by rw[<- aB];exact au
  have HF:=hid (show rZ l=.error m from ak FJ);have HG:=hid (ai HD.out.grown Ad.out.grown);clear hp au FJ;go_wp2_with fail;exact aj rfl (vW.err HF.out ⟨rfl,ai HG.out hg⟩)
 have kA:must bG l=.ok ((),l2):=by rw[<- aB];exact aC
 have HE:=hid (show rZ l=(dN eD >>= λ xs=>must aM >>= λ _=>pure xs) l2 from ag kA);have Fc:=hid (Ad.out.trans d);have HR3:=hid (d.blk Og.out Taa);clear hp aC kA d Ad Og;have hA3:=HA.out.grown F Fc.out.grown;have p0:=hA3.ptr;have F2:=F8 (ρ:=γ.ρ) (W:=W) (pb:=γ.pb) hgW hp0 Taa;have hac:(Vw γ.ρ W γ.pb).acc fy 36 [] w2:=⟨.slice none 0 0,HR3.out,jK.nil fy 36 w2 (W.heap.size+1),trivial,by have:=HR3.out.lt;show W.heap.size+1<=w2.heap.size;omega,hA3.vF,λ x hx=>by simp[Vw] at hx⟩
 have L:Lst γ.ρ W (λ t=>decide (32 < t.depth)) eD 119 #[.pointer (some ⟨W.heap.size,0,none⟩),.pointer (some ⟨γ.pb,0,none⟩)] ((Vw γ.ρ W γ.pb).acc fy 36):=
  ⟨lG,enters_of Tryz.func119 Tac rfl,λ acc a b hs hg _=>by obtain⟨v,h⟩:=hs;exact⟨v,h.grown F2 hg⟩,λ acc W3 l lg dp hn hs hd=>Ms (Vw γ.ρ W γ.pb) F2 rfl rfl acc W3 l lg dp hn hs hd⟩
 have hm:=oT γ.ρ W (λ t=>decide (32 < t.depth)) eD 119 #[.pointer (some ⟨W.heap.size,0,none⟩),.pointer (some ⟨γ.pb,0,none⟩)] _ L w2 l2 lg dp Fc.out hac hgW;have HF2:=hid F2;clear L F2 hac hA3 HR3;go_wp2_with fail;refine hm.mono ?_;clear hm p0;intro e w3 hp;unfold jb at hp
 cases hx:dN eD l2 with
 | error m=>rw[hx] at hp;obtain⟨rfl,hg⟩:=hp;have HF:=hid (show rZ l=.error m from HE.out.trans (ak hx));have HG:=hid (ai HD.out.grown hg);clear hx hg;go_wp2_with fail;exact aj rfl (vW.err HF.out ⟨rfl,HG.out⟩)
 | ok z=>
   obtain⟨xs,l3⟩:=z;rw[hx] at hp;obtain⟨rfl,⟨v3,hs⟩,hd⟩:=hp;have vx:=hid (show rZ l=(must aM >>= λ _=>pure xs) l3 from HE.out.trans (ag hx));have HS:=hid hs;have Ky:=hid hd;clear hx hs hd HE Fc;have hw3:=Ky.out.size;have ayH:=Ky.out.lt;have p0:=(HA.out.grown F Ky.out.grown).ptr;have hb:=aa w3 (.cells (aR [aM]) 9);have FH:=hid (Ky.out.later hb);have V8:=hid (HS.out.later HF2.out hb);have hm:=aY γ.ρ _ l3 _ _ FH.out.at_ [aM] w3.heap.size 1 rfl (av.new w3 _ _) Taa Taa;clear hb Ky HS;unfold aR strOf at hm FH V8;simp only[map_cons,map_nil] at hm FH V8;rw[show aM.toArray= #[41] from rfl] at hm FH V8;go_wp2_with fail;refine hm.mono ?_;clear hm p0;intro e w4 hp
   rcases hp.cases with ⟨_,l4,v9,aC,rfl,rfl,d⟩|⟨m,au,rfl,hg⟩;case inr=>
    have FJ:must aM l3=.error m:=by rw[<- aB];exact au
    have HF:=hid (show rZ l=.error m from vx.out.trans (ak FJ));have HG:=hid (ai HD.out.grown FH.out.grown);clear hp au FJ;go_wp2_with fail;exact aj rfl (vW.err HF.out ⟨rfl,ai HG.out hg⟩)
   have kA:must aM l3=.ok ((),l4):=by rw[<- aB];exact aC
   have NI:=hid (show rZ l=.ok (xs,l4)from vx.out.trans ((ag kA).trans rfl));have HG6:=hid (FH.out.trans d);have hS:=V8.out.grown HF2.out d.grown;clear hp aC kA d FH V8;obtain⟨sl,hv,hn9,ki⟩:=hS.row.sl (B':=W.heap.size+1) (Nat.le_refl _);have x0:w4.cell? ⟨W.heap.size,0,none⟩=some v3:=hS.cell HF2.out;rw[hv] at x0;obtain⟨A3,n3,c3⟩:=sl;unfold fN at x0;have HSL:=hid ki;have hA:=HA.out.grown F HG6.out.grown;have vD:=hid hA;have kq:=hA.cell F;rw[hk] at kq;have Qc:=hA.sz;have hw4:=HG6.out.size;have HDD:=hid (HD.out.trans HG6.out);clear hA hS hv hn9 ki vx HG6 HA HD HF2;go_wp2_with (first
    |(at_builtin
      refine ez vD.out F rfl _ _ 29 rfl _ 24 Tryz.underlying29 Vr rfl Tab (⟨A3,n3,c3⟩:Sl) (row_one _) rfl rfl Taa Taa Qc ?_
      intro ys v' W3 ha pN mm hv
      obtain⟨A9,n9,c9,rfl⟩:=nO pN
      obtain⟨Qd,Qe,xq,xr⟩:=vD.out.push F HDD.out (n0:=W.heap.size+1) (x:=xs) (y:=(⟨A3,n3,c3⟩:Sl)) (show xM.rel w4 (eI (W.heap.size+1) w4) xs (⟨A3,n3,c3⟩:Sl)from HSL.out) Taa (λ G hG=>by have:=hvo G hG;omega) ha (aa _ _) mm pN Taz
      rw[hk] at Qd Qe xq xr
      have Qf:=hid xq
      have Qg:=hid xr
      clear xq xr ha pN mm hv))
   go_end0;exact vW.ok NI.out ⟨_,Qf.out⟩ Qg.out):p:=h
theorem Vx (γ:vX)(F:γ.Fit)(Vp:γ.TQ=34)(hk:γ.k=19)(acc:List (List Tr))(W:World)(l:aK)(lg dp:Bool)(hn:acc.length<=5000)(hs:γ.acc xM 24 acc W)(hd:bh γ.ρ γ.W0 W l lg dp):
  Calls Tryz.prog 118 #[.pointer (some ⟨γ.pb,0,none⟩),.pointer (some ⟨γ.qb,0,none⟩)] W (vW γ.ρ γ.W0 (λ r=>decide (64 < r.length)) (λ r=>di r) rZ (γ.acc xM 24) acc lg dp l):=by obtain⟨v,A⟩:=hs;open zhI in exact Zgi
def aeE (name:ByteArray)(rows:List (List Tr)):Ps St:=return { kind:=5,name,rows }
def aeF (name:ByteArray):Ps St:=do
 let rows <- dN rZ
 aeE name rows
def aeG (name:ByteArray):Ps St:=do
 must jf
 aeF name
def J8:Ps St:=do
 let name <- cC
 aeG name
def pG:Ps St:=gW [iw,fp] >>= λ _=>J8
theorem zcJ.Kaz(h:p:=by generalize w7.setRow (w.heap.size+1) cs=WF at*;go_wp2_with fail;exact bodyPost_ret (v:=.agg cs) (results_cell_row Tryz.results69 _ _ (w.heap.size+1) 34 cs (0,0) _ rfl tu.out Tryz.underlying34 rfl dS.out) rfl tX.out):p:=h
theorem zdK.KaW(h:p:=by refine wpList_store_row rfl 34 (.tmp 2) (.tmp 16) rfl (w.heap.size+1) cs rfl rfl 34 cK mC.out dS.out mF.out jN.out ?_;open zcJ in exact ZaS):p:=h
theorem zbd.Kah(h:p:=by have wy:=hid (show av w7 b 34 cs by rw[hcs];exact HA.out.blk);have mC:=hid HA.out.sa.res;have tX:=hid (show cQ ρ w lg dp pG l (.returned (.agg cs)) (w7.setRow (w.heap.size+1) cs) by rw[hcs];exact HA.out.post br HX.out);open zdK in exact Zbw):p:=h
theorem zdC.KaU(h:p:=by
 have hb:=aa WB (.cells (aR [jf]) 9);have HB:=hid (HA.out.later hb);have lH:=HA.out.blk.lt;have p0:=HA.out.sa.ptr;have hm:=aY ρ _ l4 _ _ HB.out.sa.did.at_ [jf] WB.heap.size 1 rfl (av.new WB _ _) Taa Taa;clear hb HA;unfold aR strOf at hm HB;simp only[map_cons,map_nil] at hm HB;rw[show jf.toArray= #[118,97,108,117,101,115] from rfl] at hm HB;go_wp2_with fail;refine hm.mono ?_;clear hm p0;intro e w5 hp;rcases hp.cases with ⟨_,l6,v9,aC,rfl,rfl,d⟩|⟨m,au,rfl,hg⟩;case inr=>have HF:=hid (show pG l=.error m from HE.out.trans (ak (show must jf l4=.error m by rw[<- aB];exact au)));have HG:=hid HB.out.sa.did.grown;clear hp au;go_wp2_with fail;exact aj rfl (GP.err HF.out ⟨rfl,ai HG.out hg⟩)
 have cf:=hid (show pG l=aeF nm l6 from HE.out.trans (ag (show must jf l4=.ok ((),l6) by rw[<- aB];exact aC)));have HA:=hid (HB.out.go br d);clear hp aC d HB HE lH;have HE:=cf;clear cf;have p0:=HA.out.sa.ptr;have F:=HA.out.fit br 19 Tab
 have L:agS ρ w (λ r=>decide (64 < r.length)) (λ r=>di r) rZ 118 #[.pointer (some ⟨w.heap.size,0,none⟩),.pointer (some ⟨b,0,none⟩)] ((stG ρ w (w.heap.size+1) w.heap.size b { kind:=5,name:=nm } { kind:=5,name:=nm } 19).acc xM 24):=
  ⟨zL,enters_of Tryz.func118 Tac rfl,λ acc a b hs hg _=>by obtain⟨v,h⟩:=hs;exact⟨v,h.grown F hg⟩,λ acc W l lg dp hn hs hd=>Vx _ F rfl rfl acc W l lg dp hn hs hd⟩
 have hm:=DV ρ w (λ r=>decide (64 < r.length)) (λ r=>di r) rZ 118 #[.pointer (some ⟨w.heap.size,0,none⟩),.pointer (some ⟨b,0,none⟩)] _ L w5 l6 _ _ HA.out.sa.did (HA.out.start xM 24 19 rfl) br;clear L F;go_wp2_with fail;refine hm.mono ?_;clear hm p0;intro e w7 hp;unfold fR at hp
 cases hx:dN rZ l6 with
 | error m=>rw[hx] at hp;obtain⟨rfl,hg⟩:=hp;have HF:=hid (show pG l=.error m from HE.out.trans (ak hx));exact Zcd
 | ok z=>obtain⟨rows,l8⟩:=z;rw[hx] at hp;obtain⟨rfl,hs,hd⟩:=hp;obtain⟨so,hA⟩:=HA.out.list (m':=λ so=> { kind:=5,name:=nm,rows:=so }) (d':= { kind:=5,name:=nm,rows:=rows }) hs hd (λ _=>rfl) (by simp[St.long,Qu.long,Bool.or_assoc,Bool.or_comm,Bool.or_left_comm]) Tai (λ so ki hat=> { hat with rows:=ki });have cf:=hid (show pG l=aeE nm rows l8 from HE.out.trans (ag hx));have fH:=hid hA;clear hx hA hs hd HA HE;have HA:=fH;have HE:=cf;clear fH cf;go_upto_region 5 with fail;have HX:=hid (show pG l=.ok ({ kind:=5,name:=nm,rows:=rows },l8)from HE.out);obtain⟨cs,hcs⟩:∃cs,cs=(cd { kind:=5,name:=nm,rows:=so }).toArray:=⟨_,rfl⟩;open zbd in exact Zal):p:=h
theorem zhN.Kcy(h:p:=by
 rcases hp.cases with ⟨nm,l4,v9,aC,rfl,rfl,d⟩|⟨m,au,rfl,hg⟩;case inr=>have HF:=hid (show pG l=.error m from HE.out.trans (ak au));have HG:=hid HS.out.did.grown;clear hp au;go_wp2_with fail;exact aj rfl (GP.err HF.out ⟨rfl,ai HG.out hg⟩)
 have cf:=hid (show pG l=aeG nm l4 from HE.out.trans (ag aC));clear hp aC HE;have HE:=cf;clear cf;have xh:=d.size;have ru:=hid (HS.out.go br d);have hbq:=ru.out.res.lt;obtain⟨cs,hcs⟩:∃cs,cs=(cd { kind:=5,name:=nm }).toArray:=⟨_,rfl⟩;have dS:=hid (show(Tryz.prog.info? 34).map (·.size)=some cs.size by rw[hcs];exact cz);have mF:=hid (show cK.size=cs.size by rw[hcs,bB];exact bB _);have jN:=hid (show cs.all (·.oneCell')=true by rw[hcs];exact cW _);have Cm:=hid (show Tryz.prog.built 34 [(0,.int .u8 5),(1,.string nm)]=some cs by rw[hcs];exact mS _ _);have HA:=hid (show wu ρ w (w.heap.size+1) [w.heap.size] lg dp w3.heap.size (w3.alloc (.cells cs 34)) l4 { kind:=5,name:=nm } { kind:=5,name:=nm } by
  rw[hcs]
  exact ru.out.start (lg2:=lg) (dp2:=dp) { kind:=5,name:=nm } { kind:=5,name:=nm } (λ p hp=>by simp at hp;subst hp;omega) Tal Tas Tal (λ W S=> { St.kV W S with kind:=rfl,name:=rfl }))
 open zdC in exact Zbo):p:=h
theorem zgd.KbR(h:p:=by
 have hb:=aa W0 (.cells (aR [iw,fp]) 9);have HB:=hid (HS.out.later hb);have lH:=HS.out.res.lt;have p0:=HS.out.ptr;have hm:=aY ρ _ l _ _ HB.out.did.at_ [iw,fp] W0.heap.size 2 rfl (av.new W0 _ _) Taa Taa;clear hb HS;unfold aR strOf at hm HB;simp only[map_cons,map_nil] at hm HB;rw[show iw.toArray= #[105,110,115,101,114,116] from rfl,show fp.toArray= #[105,110,116,111] from rfl] at hm HB;go_wp2_with fail;refine hm.mono ?_;clear hm p0;intro e w1 hp;rcases hp.cases with ⟨_,l2,v9,aC,rfl,rfl,d⟩|⟨m,au,rfl,hg⟩;case inr=>have HF:=hid (show pG l=.error m from HE.out.trans (ak (show gW [iw,fp] l=.error m from au)));have HG:=hid HB.out.did.grown;clear hp au;go_wp2_with fail;exact aj rfl (GP.err HF.out ⟨rfl,ai HG.out hg⟩)
 have cf:=hid (show pG l=J8 l2 from HE.out.trans (ag (show gW [iw,fp] l=.ok (_,l2)from aC)));open zhN in exact Zgk):p:=h
theorem zcz.Kay(h:p:=by have HE:=hid (show pG l=(gW [iw,fp] >>= λ _=>J8) l from rfl);clear h b2 hP hR;go_enter Tryz.func69,Tryz.ntmps69;open zgd in exact Zd1):p:=h
theorem MG (ρ:bw)(w:World)(l:aK)(lg dp:Bool)(h:ρ.gh w l lg dp):
  Calls Tryz.prog 69 #[ρ.ptr] w (cQ ρ w lg dp pG l):=by
 open zcz in exact ZaR
def DZ:List (List UInt8×Value):=[([99,114,101,97,116,101],.func (.func 67) #[] #[]),([100,114,111,112],.func (.func 68) #[] #[]),([105,110,115,101,114,116],.func (.func 69) #[] #[]),([117,112,100,97,116,101],.func (.func 70) #[] #[]),([100,101,108,101,116,101],.func (.func 71) #[] #[]),([115,101,108,101,99,116],.func (.func 72) #[] #[]),([99,97,108,108],.func (.func 73) #[] #[])]
theorem zc1.KaG(h:p:=by
 have HE:=hid hP;have HF:=hid (hF W1 _ _ HS.out.did.at_);clear hF hP hv;have CJ:∀w,(binOp .eql 121 (.func (.func F) #[] #[]) .nilFunc).run Tryz.prog w=.ok (.bool false) w:=λ _=>rfl
 go_upto_region 6 with fail;clear y0 y1;go_wp2_with fail;refine HF.out.mono ?_;clear HF;intro e w2 hp;rcases GP.cases hp with ⟨d9,L2,v9,aC,rfl,m9,rfl,Mz,d⟩|⟨n9,au,hfp⟩
 ·have hgq:=HS.out.res.lt;have hsz:=d.size;obtain⟨cs,hcs⟩:∃cs,cs=(cd m9).toArray:=⟨_,rfl⟩;have dS:=hid (show(Tryz.prog.info? 34).map (·.size)=some cs.size by rw[hcs];exact cz);have mF:=hid (show cK.size=cs.size by rw[hcs,bB];exact bB _);have jN:=hid (show cs.all (·.oneCell')=true by rw[hcs];exact cW _);have mC:=hid (d.blk HS.out.res Taa);have tX:=hid (show cQ ρ w lg dp bK (⟨1,s9,n9⟩::r) (.returned (.agg cs)) (w2.setRow w.heap.size cs) by
   rw[hcs]
   exact GP.ok (HE.out.trans aC) ⟨m9,rfl,St.at_.keep (ir Taa) (St.at_.keep (iZ w2 (show w.heap.size < W1.heap.size by omega) _) Mz),(HS.out.did.trans d).own br (cP w2 w.heap.size (cd m9).toArray) (λ G e=>by injection e with e;omega)⟩)
  unfold mK;rw[<- hcs];clear d HS HE hcs Mz hp aC;go_wp2_with (first
   |(refine wpList_store_row rfl 34 (.tmp 2) (.tmp 25) rfl w.heap.size cs rfl rfl 34 cK mC.out dS.out mF.out jN.out ?_
     have tu:=hid (mC.out.row cs)))
  exact bodyPost_ret (v:=.agg cs) (results_cell_row Tryz.results27 _ _ w.heap.size 34 cs (0,0) _ rfl tu.out Tryz.underlying34 rfl dS.out) rfl tX.out
 ·obtain⟨rfl,hgr⟩:=hfp;exact aj rfl (GP.err (HE.out.trans au) ⟨rfl,ai HS.out.did.grown hgr⟩)):p:=h
theorem zc2.KaG(h:p:=by
 have HF:=hid (jX ρ W1 _ _ _ HS.out.did.at_);have HE:=hid (show bK (⟨1,s9,n9⟩::r)=.error (⟨1,s9,n9⟩::r:aK).length from Zk);have CJ:∀w,(binOp .eql 121 .nilFunc .nilFunc).run Tryz.prog w=.ok (.bool true) w:=λ _=>rfl
 exact Zey):p:=h
theorem zgs.KbX(h:p:=by
 refine hm.mono ?_;clear hm;rintro e w1 ⟨rfl,b1⟩;have hs1:=b1.size;obtain⟨tk,AD⟩:∃tk,tk=ρ.tok (t::r):=⟨_,rfl⟩;have xh:tk.w=t:=by rw[AD];exact HTK.out
 rw[<- AD];clear AD HTK;have hb2:=aa w1 (.cells (cA tk) 81);have HS:=hid ((ru.out.later b1).later hb2);have HT:=hid (av.new w1 81 (cA tk));have FK:=hid (show mD (w1.alloc (.cells (cA tk) 81)) W0.heap.size DZ from((hb2.block _ Taa).trans (b1.block _ qg)).trans RO.out);clear b1 hb2 ru RO;obtain⟨⟨k9,s9,n9⟩,p9⟩:=tk;simp only at xh;subst xh;rcases HC.out with ⟨F,P,en,hF,hk,hv,hP⟩| hk |⟨hk,hv,Zk⟩
 ·open zc1 in exact Za6
 ·clear HC;simp only at hk;have BR:((k9:Int) != 1)=true:=by simp;omega
  unfold cA at HS HT FK;unfold cA;go_upto_region 3 with fail
  change Code.wp _ _ _ _ (w1.alloc (.cells #[.int .u8 ((k9:Nat):Int),.string ⟨s9.toArray⟩,.int .i64 n9,.int .i64 p9] 81));generalize hb:w1.heap.size=b at*;generalize hW:(World.alloc w1 _)=W1 at*;clear hW hb hs1 qg;have y0:W1.cell? ⟨b,0,none⟩=some (.int .u8 ((k9:Nat):Int)):=(HT.out.cell 0).trans rfl;have y1:W1.cell? ⟨b,1,none⟩=some (.string ⟨s9.toArray⟩):=(HT.out.cell 1).trans rfl;go_upto_region 4 with (first
   |(refine fI Tryz.underlying122 Tryz.underlying9 rfl _ _ rfl W0.heap.size rfl (⟨s9.toArray⟩:ByteArray) rfl (l:=DZ) FK.out (z:=.nilFunc) Tryz.zeroValue121 ?_
     rw[show(⟨s9.toArray⟩:ByteArray).data.toList=s9 by simp]))
  generalize (DZ.lookup s9).getD .nilFunc=u at*;clear FK HT;have HF:=hid (jX ρ W1 _ _ _ HS.out.did.at_);have HE:=hid (show bK (⟨k9,s9,n9⟩::r)=.error (⟨k9,s9,n9⟩::r:aK).length from by simp[bK,hk]);exact Zey
 ·open zc2 in exact Za6):p:=h
theorem zen.Ka9(h:p:=by
 have HM:=mD.new W0;have HG:=aD (p:=W0.heap.size) (aa W0 (.map #[] 0));refine wp_region_lit ?_;refine gG rfl 122 rfl ?_;refine bu Tryz.underlying122 Tryz.underlying9 rfl _ _ _ rfl W0.heap.size rfl [99,114,101,97,116,101] rfl (.func (.func 67) #[] #[]) rfl HM Tab ?_;clear HM;intro wm HM jk;replace HG:=ai HG jk;clear jk;refine bu Tryz.underlying122 Tryz.underlying9 rfl _ _ _ rfl W0.heap.size rfl [100,114,111,112] rfl (.func (.func 68) #[] #[]) rfl HM Tab ?_;clear HM;intro wm HM jk;replace HG:=ai HG jk;clear jk;refine bu Tryz.underlying122 Tryz.underlying9 rfl _ _ _ rfl W0.heap.size rfl [105,110,115,101,114,116] rfl (.func (.func 69) #[] #[]) rfl HM Tab ?_;clear HM;intro wm HM jk;replace HG:=ai HG jk;clear jk;refine bu Tryz.underlying122 Tryz.underlying9 rfl _ _ _ rfl W0.heap.size rfl [117,112,100,97,116,101] rfl (.func (.func 70) #[] #[]) rfl HM Tab ?_;clear HM;intro wm HM jk;replace HG:=ai HG jk;clear jk;refine bu Tryz.underlying122 Tryz.underlying9 rfl _ _ _ rfl W0.heap.size rfl [100,101,108,101,116,101] rfl (.func (.func 71) #[] #[]) rfl HM Tab ?_;clear HM;intro wm HM jk;replace HG:=ai HG jk;clear jk;refine bu Tryz.underlying122 Tryz.underlying9 rfl _ _ _ rfl W0.heap.size rfl [115,101,108,101,99,116] rfl (.func (.func 72) #[] #[]) rfl HM Tab ?_;clear HM;intro wm HM jk;replace HG:=ai HG jk;clear jk;refine bu Tryz.underlying122 Tryz.underlying9 rfl _ _ _ rfl W0.heap.size rfl [99,97,108,108] rfl (.func (.func 73) #[] #[]) rfl HM Tab ?_
 clear HM;intro wm HM jk;replace HG:=ai HG jk;clear jk;have RO:=hid (show mD wm W0.heap.size DZ from HM);have ru:=hid (HS.out.VA (w2:=wm) br HG Taa Taa (λ p hp=>by simp at hp));have qg:W0.heap.size < wm.heap.size:=by have:=RO.out;unfold mD at this;exact(Array.getElem?_eq_some_iff.mp this).1
 clear HM HG HS;have hm:=iD ρ wm (t::r) _ _ ru.out.did.at_;open zgs in exact Zef):p:=h
theorem JS (ρ:bw)(w:World)(t:Wd)(r:aK)(lg dp:Bool)(h:ρ.gh w (t::r) lg dp)(hc:(∃(F:FuncId) (P:Ps St),(∀args w,(callFunc F args).run Tryz.prog w=.ok (.enter F args) w)/\(∀w2 lg dp,ρ.gh w2 (t::r) lg dp->Calls Tryz.prog F #[ρ.ptr] w2 (cQ ρ w2 lg dp P (t::r)))/\t.k=1/\(DZ.lookup t.s).getD .nilFunc=.func (.func F) #[] #[]/\bK (t::r)=P (t::r))\/(¬t.k=1)\/(t.k=1/\(DZ.lookup t.s).getD .nilFunc=.nilFunc/\bK (t::r)=.error (t::r).length)):
  Calls Tryz.prog 27 #[ρ.ptr] w (cQ ρ w lg dp bK (t::r)):=by
 have br:=h.od;have AD:(ρ.tok (t::r)).w=t:=by obtain⟨tk,r',pl,rv,hl,_⟩:=h.mN;rw[<- rv];injection hl with h1 _;exact h1.symm
 have b1:=aa w (ib {});have HS:=hid (show BM ρ w w.heap.size [] lg dp (w.alloc (ib {})) (t::r)from⟨bh.aF h b1,av.new w _ _,Nat.le_refl _,λ p hp=>by simp at hp⟩);have HTK:=hid AD;have HC:=hid hc;clear hc h b1 AD;go_enter Tryz.func27,Tryz.ntmps27;open zen in exact Zb3
theorem pF (ρ:bw)(w:World)(t:Wd)(r:aK)(lg dp:Bool)(h:ρ.gh w (t::r) lg dp)(F:FuncId)(P:Ps St)(en:∀args w,(callFunc F args).run Tryz.prog w=.ok (.enter F args) w)(hF:∀w2 lg dp,ρ.gh w2 (t::r) lg dp->Calls Tryz.prog F #[ρ.ptr] w2 (cQ ρ w2 lg dp P (t::r)))(hk:t.k=1)(hv:(DZ.lookup t.s).getD .nilFunc=.func (.func F) #[] #[])(hP:bK (t::r)=P (t::r)):
  Calls Tryz.prog 27 #[ρ.ptr] w (cQ ρ w lg dp bK (t::r)):=
 JS ρ w t r lg dp h (.inl ⟨F,P,en,hF,hk,hv,hP⟩)
theorem G5 (ρ:bw)(w:World)(t:Wd)(r:aK)(lg dp:Bool)(h:ρ.gh w (t::r) lg dp)(hk:¬t.k=1):
  Calls Tryz.prog 27 #[ρ.ptr] w (cQ ρ w lg dp bK (t::r)):=
 JS ρ w t r lg dp h (.inr (.inl hk))
theorem G6 (ρ:bw)(w:World)(t:Wd)(r:aK)(lg dp:Bool)(h:ρ.gh w (t::r) lg dp)(hk:t.k=1)(hv:(DZ.lookup t.s).getD .nilFunc=.nilFunc)(Zk:bK (t::r)=.error (t::r).length):
  Calls Tryz.prog 27 #[ρ.ptr] w (cQ ρ w lg dp bK (t::r)):=
 JS ρ w t r lg dp h (.inr (.inr ⟨hk,hv,Zk⟩))
end Go.Proofs.YtehhdlgjfdnafaaGreatDoor
