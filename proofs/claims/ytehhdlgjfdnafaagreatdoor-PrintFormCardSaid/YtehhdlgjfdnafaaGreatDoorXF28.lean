/- Parts of the proof. -/
import Derived.Test.YtehhdlgjfdnafaaGreatDoorXF27
namespace Go.Proofs.YtehhdlgjfdnafaaGreatDoor
variable{p:Prop}
set_option maxHeartbeats 90000000
set_option maxRecDepth 100000
open Go.Lib (hid)
open Go.ChangeShapes Go.WideShapes Go.ChangeAt Go.RowKit List
set_option linter.unusedVariables false
set_option linter.unusedSimpArgs false
theorem zg0.Kcc(h:p:=by exact aj (P:=Tryz.prog) (fn:=Tryz.f151) hdf hE):p:=h
theorem zh8.KcJ(h:p:=by exact bodyPost_end (results_none Tryz.results151 _ _ _) hdf hE):p:=h
theorem Mr (γ:vX)(F:γ.Fit)(Vp:γ.TQ=28)(hk:γ.k=4)(acc:List Tr)(W:World)(l:aK)(lg dp:Bool)(hn:acc.length<=5000)(hs:γ.acc fy 36 acc W)(hd:bh γ.ρ γ.W0 W l lg dp):
  Calls Tryz.prog 151 #[.pointer (some ⟨γ.qb,0,none⟩),.pointer (some ⟨γ.pb,0,none⟩)] W (tC γ.ρ γ.W0 (λ t=>decide (32 < t.depth)) eD (γ.acc fy 36) acc lg dp l):=by
 obtain⟨v,A⟩:=hs;obtain⟨ys,ho,ha⟩:=A.row.has;obtain⟨A0,c0,hv⟩:=ho.form;have zZ:ys.length=acc.length:=ha.len;rw[zZ] at hv;subst hv;have E7:(Addr.mk γ.qb 4 none)=⟨γ.qb,γ.k,none⟩:=by rw[hk]
 clear ho ha zZ Vp;go_enter Tryz.func151,Tryz.ntmps151
 cases hx:eD l with
 | ok z=>
   obtain⟨t,r⟩:=z;go_wp2_with fail;refine Mq (lg:=lg) (dp:=dp) (l:=l) (r:=r) (t:=t) (γ:=γ) (v:=.slice A0 acc.length c0) (acc:=acc) (s0:=0) (s1:=1) (d0:=2) (d1:=3) (d2:=4) (d3:=5) (d4:=6) (d5:=7) (d6:=8) (d7:=9) (d9:=10) (vs0:=.pointer (some ⟨γ.qb,0,none⟩)) (vs1:=.pointer (some ⟨γ.pb,0,none⟩)) (F:=120) (args:= #[γ.ρ.ptr]) F Tac Tac Tac Tac rfl rfl ZeY ZeY Zdz ZcP Zdc ZcJ ZeX ?_ Zgq Zct Zhd A hd hn Zcz ?_
   ·intro ρ' w' x' v' X5 rQ oH tE;exact Za7
   ·open zh8 in exact ZgK
 | error m=>
   go_wp2_with fail;refine yI (E:=λ C W=>C=[sy (γ.ρ.placeOf m)]/\γ.W0.grownBy W (some γ.ρ.g)) (γ:=γ) (v:=.slice A0 acc.length c0) (acc:=acc) (s0:=0) (s1:=1) (d0:=2) (d1:=3) (d2:=4) (d3:=5) (d4:=6) (d5:=7) (d6:=8) (d7:=9) (d9:=10) (vs0:=.pointer (some ⟨γ.qb,0,none⟩)) (vs1:=.pointer (some ⟨γ.pb,0,none⟩)) (F:=120) (args:= #[γ.ρ.ptr]) F Tac Tac Tac Tac rfl rfl ZeY ZeY Zdz ZcP Zdc ZcJ ZeX Tac A Zcy ?_
   ·open zg0 in exact ZeL
theorem zg1.Kcc(h:p:=by exact aj (P:=Tryz.prog) (fn:=Tryz.f119) hdf hE):p:=h
theorem zh9.KcJ(h:p:=by exact bodyPost_end (results_none Tryz.results119 _ _ _) hdf hE):p:=h
theorem Ms (γ:vX)(F:γ.Fit)(Vp:γ.TQ=24)(hk:γ.k=0)(acc:List Tr)(W:World)(l:aK)(lg dp:Bool)(hn:acc.length<=5000)(hs:γ.acc fy 36 acc W)(hd:bh γ.ρ γ.W0 W l lg dp):
  Calls Tryz.prog 119 #[.pointer (some ⟨γ.qb,0,none⟩),.pointer (some ⟨γ.pb,0,none⟩)] W (tC γ.ρ γ.W0 (λ t=>decide (32 < t.depth)) eD (γ.acc fy 36) acc lg dp l):=by
 obtain⟨v,A⟩:=hs;obtain⟨ys,ho,ha⟩:=A.row.has;obtain⟨A0,c0,hv⟩:=ho.form;have zZ:ys.length=acc.length:=ha.len;rw[zZ] at hv;subst hv;have E7:(Addr.mk γ.qb 0 none)=⟨γ.qb,γ.k,none⟩:=by rw[hk]
 clear ho ha zZ Vp;go_enter Tryz.func119,Tryz.ntmps119
 cases hx:eD l with
 | ok z=>
   obtain⟨t,r⟩:=z;go_wp2_with fail;refine Qa (lg:=lg) (dp:=dp) (l:=l) (r:=r) (t:=t) (γ:=γ) (v:=.slice A0 acc.length c0) (acc:=acc) (s0:=0) (s1:=1) (d0:=2) (d1:=3) (d2:=4) (d3:=5) (d4:=6) (d5:=7) (d6:=8) (vs0:=.pointer (some ⟨γ.qb,0,none⟩)) (vs1:=.pointer (some ⟨γ.pb,0,none⟩)) (F:=120) (args:= #[γ.ρ.ptr]) F Tac Tac Tac Tac rfl rfl ?_ Zdz ZcP Zdc ZcJ ZeX ?_ Zgq Zct Zhd A hd hn Zcz ?_
   ·rw[<- E7]
   ·intro ρ' w' x' v' X5 rQ oH tE;exact Za7
   ·open zh9 in exact ZgK
 | error m=>
   go_wp2_with fail;refine Ab (E:=λ C W=>C=[sy (γ.ρ.placeOf m)]/\γ.W0.grownBy W (some γ.ρ.g)) (γ:=γ) (v:=.slice A0 acc.length c0) (acc:=acc) (s0:=0) (s1:=1) (d0:=2) (d1:=3) (d2:=4) (d3:=5) (d4:=6) (d5:=7) (d6:=8) (vs0:=.pointer (some ⟨γ.qb,0,none⟩)) (vs1:=.pointer (some ⟨γ.pb,0,none⟩)) (F:=120) (args:= #[γ.ρ.ptr]) F Tac Tac Tac Tac rfl rfl ?_ Zdz ZcP Zdc ZcJ ZeX Tac A Zcy ?_
   ·rw[<- E7]
   ·open zg1 in exact ZeL
def FI:Obj:=.cells #[.slice none 0 0,.string ⟨#[]⟩,.bool false,.slice none 0 0,.slice none 0 0,.slice none 0 0,.slice none 0 0,.slice none 0 0] 28
def aha (items:List (Tr×ByteArray))(only:Bool)(aP:ByteArray)(aS group having:List Tr)(order:List (Tr×Bool)):Ps Qu:=do
 let aN <- qH
 return { items,aP,only,aS,group,having,order,aN }
def amH (items:List (Tr×ByteArray))(only:Bool)(aP:ByteArray)(aS group having:List Tr):Ps Qu:=do
 let order <- ma
 aha items only aP aS group having order
def ahb (items:List (Tr×ByteArray))(only:Bool)(aP:ByteArray)(aS group:List Tr):Ps Qu:=do
 let having <- fU nC
 amH items only aP aS group having
def amI (items:List (Tr×ByteArray))(only:Bool)(aP:ByteArray)(aS:List Tr):Ps Qu:=do
 let group <- pc
 ahb items only aP aS group
def amJ (items:List (Tr×ByteArray))(only:Bool)(aP:ByteArray):Ps Qu:=do
 let aS <- fU dB
 amI items only aP aS
def amK (items:List (Tr×ByteArray))(only:Bool):Ps Qu:=do
 let aP <- cC
 amJ items only aP
def amL (items:List (Tr×ByteArray)):Ps Qu:=do
 let only <- may jD
 amK items only
def ahc (items:List (Tr×ByteArray)):Ps Qu:=do
 must cD
 amL items
def amM:Ps Qu:=do
 let items <- qG
 ahc items
variable{w:World}{S:Nat->Prop}{G:Nat}{k:Int}
theorem F6(h:av w G 2 #[.int .i64 k])(hS:S G):QS.sl w S ⟨some ⟨G,0,none⟩,1,1⟩ [k]:=
 ⟨rfl,[k],CP (f:=λ k:Int=> [Value.int .i64 k]) (λ _=>rfl) h hS,.one rfl⟩
theorem ziv.KcT(h:p:=by
 intro e w8b hp
 rcases hp.cases with ⟨_,l8b,v9,aC,rfl,rfl,d⟩|⟨m,au,rfl,hg⟩;case inr=>
  have FJ:must nB l7.tail=.error m:=by rw[<- aB];exact au
  have HF:=hid (show dc l=.error m from HE7.out.trans (ak (HW.out.trans (ak FJ))));have HG:=hid HB.out.did.grown;clear hp au FJ;go_wp2_with fail;exact aj rfl (GP.err HF.out ⟨rfl,ai HG.out hg⟩)
 have kA:must nB l7.tail=.ok ((),l8b):=by rw[<- aB];exact aC
 have amP:=hid (show pc l7=dN eD l8b from HW.out.trans (ag kA));have F7:=hid (HB.out.go br d);clear hp aC kA d HB hq;have p0:=F7.out.ptr;have hq:=F7.out.blk.lt;have F:=JQ (ρ:=ρ) (w:=w) (m:= { items:=sl,only:=only,aP:=aP,aS:=sw }) (d:= { items:=items,only:=only,aP:=aP,aS:=aS }) br 4 Tab
 have L:Lst ρ w (λ t=>decide (32 < t.depth)) eD 151 #[.pointer (some ⟨w.heap.size+1+1,0,none⟩),.pointer (some ⟨w.heap.size,0,none⟩)] ((Xp ρ w { items:=sl,only:=only,aP:=aP,aS:=sw } { items:=items,only:=only,aP:=aP,aS:=aS } 4).acc fy 36):=
  ⟨lG,enters_of Tryz.func151 Tac rfl,λ acc a b hs hg _=>by obtain⟨v,h⟩:=hs;exact⟨v,h.grown F hg⟩,λ acc W l lg dp hn hs hd=>Mr (Xp ρ w { items:=sl,only:=only,aP:=aP,aS:=sw } { items:=items,only:=only,aP:=aP,aS:=aS } 4) F rfl rfl acc W l lg dp hn hs hd⟩
 have hm:=oT ρ w (λ t=>decide (32 < t.depth)) eD 151 #[.pointer (some ⟨w.heap.size+1+1,0,none⟩),.pointer (some ⟨w.heap.size,0,none⟩)] _ L w8b l8b _ _ F7.out.did (F7.out.start fy 36 4 rfl) br;clear L F;go_wp2_with fail;refine hm.mono ?_;clear hm p0;intro e w8c hp;unfold jb at hp
 cases hx:dN eD l8b with
 | error m=>rw[hx] at hp;obtain⟨rfl,hg⟩:=hp;have HF:=hid (show dc l=.error m from HE7.out.trans (ak (amP.out.trans hx)));exact Zcd
 | ok z=>obtain⟨xs,l8c⟩:=z;rw[hx] at hp;obtain⟨rfl,hs,hd⟩:=hp;obtain⟨so,hA⟩:=GQ.list (lg:=lg) (dp:=dp) (m':=λ so=> { items:=sl,only:=only,aP:=aP,aS:=sw,group:=so }) (d':= { items:=items,only:=only,aP:=aP,aS:=aS,group:=xs }) hs hd (λ _=>rfl) Tay Tak (λ so ki hat=> { hat with group:=ki });have HAX:=hid hA;have Qi:=hid (HE7.out.trans (ag (amP.out.trans hx)));clear hx hA hs hd F7;go_wp2_with fail;go_meet;exact⟨xs,so,l8c,Qi.out,HAX.out⟩):p:=h
theorem ziw.KcT(h:p:=by
 intro e arV hp
 rcases hp.cases with ⟨_,abF,v9,aC,rfl,rfl,d⟩|⟨m,au,rfl,hg⟩;case inr=>
  have FJ:must nB l10.tail=.error m:=by rw[<- aB];exact au
  have HF:=hid (show dc l=.error m from PS.out.trans (ak (HW.out.trans (ak FJ))));have HG:=hid HB.out.did.grown;clear hp au FJ;go_wp2_with fail;exact aj rfl (GP.err HF.out ⟨rfl,ai HG.out hg⟩)
 have kA:must nB l10.tail=.ok ((),abF):=by rw[<- aB];exact aC
 have aem:=hid (show ma l10=dN km abF from HW.out.trans (ag kA));have Mw:=hid (HB.out.go br d);clear hp aC kA d HB hq;have p0:=Mw.out.ptr;have hq:=Mw.out.blk.lt;have F:=JQ (ρ:=ρ) (w:=w) (m:= { items:=sl,only:=only,aP:=aP,aS:=sw,group:=sg,having:=sh }) (d:= { items:=items,only:=only,aP:=aP,aS:=aS,group:=group,having:=having }) br 6 Tab
 have L:Lst ρ w (λ x=>decide (32 < x.1.depth)) km 152 #[.pointer (some ⟨w.heap.size,0,none⟩),.pointer (some ⟨w.heap.size+1+1,0,none⟩)] ((Xp ρ w { items:=sl,only:=only,aP:=aP,aS:=sw,group:=sg,having:=sh } { items:=items,only:=only,aP:=aP,aS:=aS,group:=group,having:=having } 6).acc oq 86):=
  ⟨nH,enters_of Tryz.func152 Tac rfl,λ acc a b hs hg _=>by obtain⟨v,h⟩:=hs;exact⟨v,h.grown F hg⟩,λ acc W l lg dp hn hs hd=>Mu (Xp ρ w { items:=sl,only:=only,aP:=aP,aS:=sw,group:=sg,having:=sh } { items:=items,only:=only,aP:=aP,aS:=aS,group:=group,having:=having } 6) F rfl rfl acc W l lg dp hn hs hd⟩
 have hm:=oT ρ w (λ x=>decide (32 < x.1.depth)) km 152 #[.pointer (some ⟨w.heap.size,0,none⟩),.pointer (some ⟨w.heap.size+1+1,0,none⟩)] _ L arV abF _ _ Mw.out.did (Mw.out.start oq 86 6 rfl) br;clear L F;go_wp2_with fail;refine hm.mono ?_;clear hm p0;intro e ayF hp;unfold jb at hp
 cases hx:dN km abF with
 | error m=>rw[hx] at hp;obtain⟨rfl,hg⟩:=hp;have HF:=hid (show dc l=.error m from PS.out.trans (ak (aem.out.trans hx)));exact Zcd
 | ok z=>obtain⟨xs,arW⟩:=z;rw[hx] at hp;obtain⟨rfl,hs,hd⟩:=hp;obtain⟨so,hA⟩:=GQ.list (lg:=lg) (dp:=dp) (m':=λ so=> { items:=sl,only:=only,aP:=aP,aS:=sw,group:=sg,having:=sh,order:=so }) (d':= { items:=items,only:=only,aP:=aP,aS:=aS,group:=group,having:=having,order:=xs }) hs hd (λ _=>rfl) Tay Tak (λ so ki hat=> { hat with order:=ki });have HAX:=hid hA;have Qi:=hid (PS.out.trans (ag (aem.out.trans hx)));clear hx hA hs hd Mw;go_wp2_with fail;go_meet;exact⟨xs,so,arW,Qi.out,HAX.out⟩):p:=h
theorem ziy.KcU(h:p:=by
 clear hm p0;intro e w4 hp
 rcases hp.cases with ⟨_,l4,v9,aC,rfl,rfl,d⟩|⟨m,au,rfl,hg⟩;case inr=>
  have FJ:must cD l3=.error m:=by rw[<- aB];exact au
  have HF:=hid (show dc l=.error m from vx.out.trans (ak FJ));have HG:=hid HB.out.did.grown;clear hp au FJ;go_wp2_with fail;exact aj rfl (GP.err HF.out ⟨rfl,ai HG.out hg⟩)
 have kA:must cD l3=.ok ((),l4):=by rw[<- aB];exact aC
 have NI:=hid (show dc l=amL items l4 from vx.out.trans (ag kA));have rO:=hid (HB.out.go br d);clear hp aC kA d HB hq;have p0:=rO.out.ptr;have hm:=bz ρ w4 l4 _ _ rO.out.did.at_ ⟨#[111,110,108,121]⟩;rw[show(⟨#[111,110,108,121]⟩:ByteArray).data.toList=jD from rfl] at hm;go_wp2_with fail;refine hm.mono ?_;clear hm p0;rintro e w5 ⟨rfl,d⟩;have hX:=d.blk rO.out.blk Taa;have hc:w5.cell? ⟨w.heap.size+1+1,2,none⟩=_:=hX.cell 2;have hf:w5.frozen? ⟨w.heap.size+1+1,2,none⟩=_:=hX.frozen 2;have FD:=hid (rO.out.set (m':= { items:=sl,only:=ar jD l4 }) (d':= { items:=items,only:=ar jD l4 }) br d 2 (.bool (ar jD l4)) rfl (rfl) (rfl) (λ hat=> { hat with only:=rfl }));have HE5:=hid (show dc l=amK items (ar jD l4) (ja jD l4)from NI.out.trans (ag (uo jD l4)));clear hX d rO;generalize ar jD l4=only at*;generalize ja jD l4=l5 at*;clear NI vx;go_upto_region 7 with fail;clear hc hf;generalize w5.setCell _ _=W5 at*;have p0:=FD.out.ptr;go_wp2_with fail;refine(ep ρ W5 l5 _ _ FD.out.did.at_).mono ?_;clear p0;intro e w6 hp;rcases hp.cases with ⟨aP,l6,v9,aC,rfl,rfl,d⟩|⟨m,au,rfl,hg⟩;case inr=>have HF:=hid (show dc l=.error m from HE5.out.trans (ak au));have HG:=hid FD.out.did.grown;clear hp au;go_wp2_with fail;exact aj rfl (GP.err HF.out ⟨rfl,ai HG.out hg⟩)
 have hX:=d.blk FD.out.blk Taa;have hc:w6.cell? ⟨w.heap.size+1+1,1,none⟩=_:=hX.cell 1;have hf:w6.frozen? ⟨w.heap.size+1+1,1,none⟩=_:=hX.frozen 1;have Ck:=hid (FD.out.set (m':= { items:=sl,only:=only,aP:=aP }) (d':= { items:=items,only:=only,aP:=aP }) br d 1 (.string aP) rfl (rfl) (rfl) (λ hat=> { hat with aP:=rfl }));have HE6:=hid (show dc l=amJ items only aP l6 from HE5.out.trans (ag aC));clear hp aC hX d FD HE5;go_upto_region 8 with fail;clear hc hf;generalize w6.setCell _ _=W6 at*;have p0:=Ck.out.ptr;have hq:=Ck.out.blk.lt;have hm:=xp ρ W6 l6 _ _ Ck.out.did.at_ dB;rw[show dB.toArray= #[119,104,101,114,101] from rfl] at hm;go_wp2_with fail;refine hm.mono ?_;clear hm p0;intro e w7 hp;rcases GP.cases hp with ⟨aS,l7,v9,aC,rfl,⟨A,n,c⟩,rfl,ki,d⟩|⟨m,au,rfl,hg⟩;case inr=>have HF:=hid (show dc l=.error m from HE6.out.trans (ak au));have HG:=hid Ck.out.did.grown;clear hp au;go_wp2_with fail;exact aj rfl (GP.err HF.out ⟨rfl,ai HG.out hg⟩)
 have hX:=d.blk Ck.out.blk Taa;have hc:w7.cell? ⟨w.heap.size+1+1,3,none⟩=_:=hX.cell 3;have hf:w7.frozen? ⟨w.heap.size+1+1,3,none⟩=_:=hX.frozen 3;have HA7:=hid (Ck.out.set (m':= { items:=sl,only:=only,aP:=aP,aS:=⟨A,n,c⟩}) (d':= { items:=items,only:=only,aP:=aP,aS:=aS }) br d 3 (.slice A n c) rfl Tay Tak (λ hat=> { hat with aS:=El.lies.more ki Taa}));have HE7:=hid (show dc l=amI items only aP aS l7 from HE6.out.trans (ag aC));clear hp aC ki hq hX d Ck HE6;unfold fN;go_upto_region 9 with fail;obtain⟨sw,hsw⟩:∃s:Sl,s=⟨A,n,c⟩:=⟨_,rfl⟩;rw[<- hsw] at HA7;clear hsw hc hf;generalize w7.setCell _ _=W7 at*;have p0:=HA7.out.ptr;have hm:=bz ρ W7 l7 _ _ HA7.out.did.at_ ⟨#[103,114,111,117,112]⟩;rw[show(⟨#[103,114,111,117,112]⟩:ByteArray).data.toList=iR from rfl] at hm;go_upto_if 26 with fail;refine hm.mono ?_;clear hm p0;rintro e w8 ⟨rfl,d⟩;have Fb:=hid (HA7.out.go br d);clear d HA7;go_upto_if 26 with fail;go_cut [] (λ wx=>∃(group:List Tr) (so:Sl) (l':aK),dc l=ahb items only aP aS group l'/\GQ ρ w lg dp wx l' { items:=sl,only:=only,aP:=aP,aS:=sw,group:=so } { items:=items,only:=only,aP:=aP,aS:=aS,group:=group })
 case first=>
  cases hst:ar iR l7
  ·rw[cy hst] at Fb;have Qi:=hid (show dc l=ahb items only aP aS [] l7 from HE7.out.trans (ag (F4 hst)));clear hst;go_wp2_with fail;go_meet;exact⟨[],Sl.nil,_,Qi.out,Fb.out⟩
  ·rw[cE hst] at Fb;have HW:=hid (Vt hst);clear hst;have hb:=aa w8 (.cells (aR [nB]) 9);have HB:=hid (Fb.out.later hb);have hq:=Fb.out.blk.lt;have p0:=Fb.out.ptr;have hm:=aY ρ _ l7.tail _ _ HB.out.did.at_ [nB] w8.heap.size 1 rfl (av.new w8 _ _) Taa Taa;clear hb Fb;open ziv in exact Zhj
 case rest=>
  obtain⟨group,sg,l9,hE,hA⟩:=hcut;have cf:=hid hE;have fH:=hid hA;clear hE hA Fb HE7;have p0:=fH.out.ptr;have hq:=fH.out.blk.lt;have hm:=xp ρ wc l9 _ _ fH.out.did.at_ nC;rw[show nC.toArray= #[104,97,118,105,110,103] from rfl] at hm;go_wp2_with fail;refine hm.mono ?_;clear hm p0;intro e xg hp;rcases GP.cases hp with ⟨having,l10,v9,aC,rfl,⟨A,n,c⟩,rfl,ki,d⟩|⟨m,au,rfl,hg⟩;case inr=>have HF:=hid (show dc l=.error m from cf.out.trans (ak au));have HG:=hid fH.out.did.grown;clear hp au;go_wp2_with fail;exact aj rfl (GP.err HF.out ⟨rfl,ai HG.out hg⟩)
  have hX:=d.blk fH.out.blk Taa;have hc:xg.cell? ⟨w.heap.size+1+1,5,none⟩=_:=hX.cell 5;have hf:xg.frozen? ⟨w.heap.size+1+1,5,none⟩=_:=hX.frozen 5;have DT:=hid (fH.out.set (m':= { items:=sl,only:=only,aP:=aP,aS:=sw,group:=sg,having:=⟨A,n,c⟩}) (d':= { items:=items,only:=only,aP:=aP,aS:=aS,group:=group,having:=having }) br d 5 (.slice A n c) rfl Tay Tak (λ hat=> { hat with having:=El.lies.more ki Taa}));have PS:=hid (show dc l=amH items only aP aS group having l10 from cf.out.trans (ag aC));clear hp aC ki hq hX d fH cf;unfold fN;go_upto_region 13 with fail;obtain⟨sh,Tm⟩:∃s:Sl,s=⟨A,n,c⟩:=⟨_,rfl⟩;rw[<- Tm] at DT;clear Tm hc hf;generalize xg.setCell _ _=W10 at*;have p0:=DT.out.ptr;have hm:=bz ρ W10 l10 _ _ DT.out.did.at_ ⟨#[111,114,100,101,114]⟩;rw[show(⟨#[111,114,100,101,114]⟩:ByteArray).data.toList=iT from rfl] at hm;go_upto_if 37 with fail;refine hm.mono ?_;clear hm p0;rintro e GA ⟨rfl,d⟩;have Mv:=hid (DT.out.go br d);clear d DT;go_upto_if 37 with fail;go_cut [] (λ wx=>∃(order:List (Tr×Bool)) (so:Sl) (l':aK),dc l=aha items only aP aS group having order l'/\GQ ρ w lg dp wx l' { items:=sl,only:=only,aP:=aP,aS:=sw,group:=sg,having:=sh,order:=so } { items:=items,only:=only,aP:=aP,aS:=aS,group:=group,having:=having,order:=order })
  case first=>
   cases hst:ar iT l10
   ·rw[cy hst] at Mv;have Qi:=hid (show dc l=aha items only aP aS group having [] l10 from PS.out.trans (ag (Vu hst)));clear hst;go_wp2_with fail;go_meet;exact⟨[],Sl.nil,_,Qi.out,Mv.out⟩
   ·rw[cE hst] at Mv;have HW:=hid (Qh hst);clear hst;have hb:=aa GA (.cells (aR [nB]) 9);have HB:=hid (Mv.out.later hb);have hq:=Mv.out.blk.lt;have p0:=Mv.out.ptr;have hm:=aY ρ _ l10.tail _ _ HB.out.did.at_ [nB] GA.heap.size 1 rfl (av.new GA _ _) Taa Taa;clear hb Mv;open ziw in exact Zhj
  case rest=>
   obtain⟨order,so,Xq,hE,hA⟩:=hcut;have abG:=hid hE;have abH:=hid hA;clear hE hA Mv PS;have p0:=abH.out.ptr;have hm:=bz ρ wc Xq _ _ abH.out.did.at_ ⟨#[108,105,109,105,116]⟩;rw[show(⟨#[108,105,109,105,116]⟩:ByteArray).data.toList=ju from rfl] at hm;go_wp2_with fail;refine hm.mono ?_;clear hm p0;rintro e LH ⟨rfl,d⟩;have Ae:=hid (abH.out.go br d);clear d abH;cases hst:ar ju Xq
   ·rw[cy hst] at Ae;have Qi:=hid (show dc l=.ok ({ items:=items,only:=only,aP:=aP,aS:=aS,group:=group,having:=having,order:=order },Xq)from abG.out.trans ((ag (F5 hst)).trans rfl));clear hst;go_wp2_with (first
     |(refine wpList_load_row rfl 28 (.tmp 3) rfl (w.heap.size+1+1) rfl 28 _ (0,0) _ Ae.out.blk Tryz.underlying28 rfl vI ?_)
     |(refine wpList_store_row rfl 28 (.tmp 2) (.tmp 50) rfl (w.heap.size+1) (kL { items:=sl,only:=only,aP:=aP,aS:=sw,group:=sg,having:=sh,order:=so }).toArray rfl rfl 28 qu0 Ae.out.res vI rfl (F0 _) ?_
       have HR:=hid (Ae.out.res.row (kL { items:=sl,only:=only,aP:=aP,aS:=sw,group:=sg,having:=sh,order:=so }).toArray)))
    exact bodyPost_ret (v:=IU { items:=sl,only:=only,aP:=aP,aS:=sw,group:=sg,having:=sh,order:=so }) (results_cell_row Tryz.results113 _ _ (w.heap.size+1) 28 (kL { items:=sl,only:=only,aP:=aP,aS:=sw,group:=sg,having:=sh,order:=so }).toArray (0,0) _ rfl HR.out Tryz.underlying28 rfl vI) rfl (Ae.out.post br Qi.out)
   ·rw[cE hst] at Ae;have HW:=hid (Vv hst);clear hst;have p0:=Ae.out.ptr;go_wp2_with fail;refine(ey ρ LH _ _ _ Ae.out.did.at_).mono ?_;clear p0;intro e Jr hp;rcases hp.cases with ⟨k,RT,v9,aC,rfl,rfl,_,d⟩|⟨m,au,rfl,hg⟩;case inr=>have HF:=hid (show dc l=.error m from abG.out.trans (ak (HW.out.trans (ak au))));have HG:=hid Ae.out.did.grown;clear hp au;go_wp2_with fail;exact aj rfl (GP.err HF.out ⟨rfl,ai HG.out hg⟩)
    have Qi:=hid (show dc l=.ok ({ items:=items,only:=only,aP:=aP,aS:=aS,group:=group,having:=having,order:=order,aN:=[k] },RT)from abG.out.trans ((ag (HW.out.trans ((ag aC).trans rfl))).trans rfl));have hq:=Ae.out.blk.lt;have hs:=d.size;have hb:=aa Jr (.cells #[.int .i64 k] 2);have hN:=F6 (S:=eI (w.heap.size+3) (Jr.alloc (.cells #[.int .i64 k] 2))) (av.new Jr 2 #[.int .i64 k]) ⟨by omega,by simp⟩;have hX:=(d.later hb).blk Ae.out.blk Taa;have hc:(Jr.alloc (.cells #[.int .i64 k] 2)).cell? ⟨w.heap.size+1+1,7,none⟩=_:=hX.cell 7;have hf:(Jr.alloc (.cells #[.int .i64 k] 2)).frozen? ⟨w.heap.size+1+1,7,none⟩=_:=hX.frozen 7;have abI:=hid (Ae.out.set (m':= { items:=sl,only:=only,aP:=aP,aS:=sw,group:=sg,having:=sh,order:=so,aN:=⟨some ⟨Jr.heap.size,0,none⟩,1,1⟩}) (d':= { items:=items,only:=only,aP:=aP,aS:=aS,group:=group,having:=having,order:=order,aN:=[k] }) br (d.later hb) 7 (.slice (some ⟨Jr.heap.size,0,none⟩) 1 1) rfl rfl rfl (λ hat=> { hat with aN:=hN }));clear hp aC hX d hb hN Ae abG HW;go_upto_region 18 with fail
    clear hc hf;generalize (World.setCell _ _ _)=W15 at*;generalize (some (Addr.mk Jr.heap.size 0 none))=AX at*;go_wp2_with (first
     |(refine wpList_load_row rfl 28 (.tmp 3) rfl (w.heap.size+1+1) rfl 28 _ (0,0) _ abI.out.blk Tryz.underlying28 rfl vI ?_)
     |(refine wpList_store_row rfl 28 (.tmp 2) (.tmp 50) rfl (w.heap.size+1) (kL { items:=sl,only:=only,aP:=aP,aS:=sw,group:=sg,having:=sh,order:=so,aN:=⟨AX,1,1⟩}).toArray rfl rfl 28 qu0 abI.out.res vI rfl (F0 _) ?_
       have HR:=hid (abI.out.res.row (kL { items:=sl,only:=only,aP:=aP,aS:=sw,group:=sg,having:=sh,order:=so,aN:=⟨AX,1,1⟩}).toArray)))
    exact bodyPost_ret (v:=IU { items:=sl,only:=only,aP:=aP,aS:=sw,group:=sg,having:=sh,order:=so,aN:=⟨AX,1,1⟩}) (results_cell_row Tryz.results113 _ _ (w.heap.size+1) 28 (kL { items:=sl,only:=only,aP:=aP,aS:=sw,group:=sg,having:=sh,order:=so,aN:=⟨AX,1,1⟩}).toArray (0,0) _ rfl HR.out Tryz.underlying28 rfl vI) rfl (abI.out.post br Qi.out)):p:=h
theorem zhH.Kcw(h:p:=by
 have b1:=aa w (.cells #[ρ.ptr] 77);have b3:=af.then (af.then b1 (aa _ FI)) (aa _ FI)
 have hP:=((av.new w 77 #[ρ.ptr]).alloc FI).alloc FI;have hR:=(av.new (w.alloc (.cells #[ρ.ptr] 77)) 28 qu0).alloc FI;have hQ:=av.new ((w.alloc (.cells #[ρ.ptr] 77)).alloc FI) 28 (kL {}).toArray;rw[World.size_alloc] at hR;rw[World.size_alloc,World.size_alloc] at hQ;have HA:=hid (show GQ ρ w lg dp (((w.alloc (.cells #[ρ.ptr] 77)).alloc FI).alloc FI) l {} {} from
  ⟨by simpa [Qu.long,Qu.exprs,di] using bh.aF h b3,hQ,hR,hP,Qu.kV _ _⟩)
 have HE:=hid (show dc l=(must dw >>= λ _=>amM) l from rfl);clear h b1 b3 hP hR hQ;go_enter Tryz.func113,Tryz.ntmps113;go_upto_region 2 with fail;change Code.wp _ _ _ _ (((w.alloc (.cells #[ρ.ptr] 77)).alloc FI).alloc FI);generalize hW:(World.alloc _ _)=W0 at*;clear hW;have hb:=aa W0 (.cells (aR [dw]) 9);have HB:=hid (HA.out.later hb);have hq:=HA.out.blk.lt;have p0:=HA.out.ptr;have hm:=aY ρ _ l _ _ HB.out.did.at_ [dw] W0.heap.size 1 rfl (av.new W0 _ _) Taa Taa;clear hb HA;unfold aR strOf at hm HB;simp only[map_cons,map_nil] at hm HB;rw[show dw.toArray= #[115,101,108,101,99,116] from rfl] at hm HB;go_wp2_with fail;refine hm.mono ?_;clear hm p0;intro e w1 hp
 rcases hp.cases with ⟨_,l1,v9,aC,rfl,rfl,d⟩|⟨m,au,rfl,hg⟩;case inr=>
  have FJ:must dw l=.error m:=by rw[<- aB];exact au
  have HF:=hid (show dc l=.error m from HE.out.trans (ak FJ));have HG:=hid HB.out.did.grown;clear hp au FJ;go_wp2_with fail;exact aj rfl (GP.err HF.out ⟨rfl,ai HG.out hg⟩)
 have kA:must dw l=.ok ((),l1):=by rw[<- aB];exact aC
 have wX:=hid (show dc l=amM l1 from HE.out.trans (ag kA));have qL:=hid (HB.out.go br d);clear hp aC kA d HB hq;have p0:=qL.out.ptr;have hm:=bz ρ w1 l1 _ _ qL.out.did.at_ ⟨#[42]⟩;rw[show(⟨#[42]⟩:ByteArray).data.toList=fq from rfl] at hm;go_upto_if 9 with fail;refine hm.mono ?_;clear hm p0;rintro e w2 ⟨rfl,d⟩;have ia:=hid (qL.out.go br d);clear d qL HE;go_upto_if 9 with fail;go_cut [] (λ wx=>∃(items:List (Tr×ByteArray)) (sl:Sl) (l':aK),dc l=ahc items l'/\GQ ρ w lg dp wx l' { items:=sl } { items:=items })
 case first=>
  cases hst:ar fq l1
  ·rw[cy hst] at ia;have HY:=hid (abD hst);clear hst;have p0:=ia.out.ptr;have hq:=ia.out.blk.lt;have F:=JQ (ρ:=ρ) (w:=w) (m:= {}) (d:= {}) br 0 Tab
   have L:Lst ρ w (λ x=>decide (32 < x.1.depth)) nE 150 #[.pointer (some ⟨w.heap.size,0,none⟩),.pointer (some ⟨w.heap.size+1+1,0,none⟩)] ((Xp ρ w {} {} 0).acc kR 51):=
    ⟨mM,enters_of Tryz.func150 Tac rfl,λ acc a b hs hg _=>by obtain⟨v,h⟩:=hs;exact⟨v,h.grown F hg⟩,λ acc W l lg dp hn hs hd=>Qb (Xp ρ w {} {} 0) F rfl rfl acc W l lg dp hn hs hd⟩
   have hm:=oT ρ w (λ x=>decide (32 < x.1.depth)) nE 150 #[.pointer (some ⟨w.heap.size,0,none⟩),.pointer (some ⟨w.heap.size+1+1,0,none⟩)] _ L w2 l1 _ _ ia.out.did (ia.out.start kR 51 0 rfl) br;clear L F;go_wp2_with fail;refine hm.mono ?_;clear hm p0;intro e w3 hp;unfold jb at hp
   cases hx:dN nE l1 with
   | error m=>rw[hx] at hp;obtain⟨rfl,hg⟩:=hp;have HF:=hid (show dc l=.error m from wX.out.trans (ak (HY.out.trans hx)));exact Zcd
   | ok z=>obtain⟨xs,l3⟩:=z;rw[hx] at hp;obtain⟨rfl,hs,hd⟩:=hp;obtain⟨so,hA⟩:=GQ.list (lg:=lg) (dp:=dp) (m':=λ so=> { items:=so }) (d':= { items:=xs }) hs hd (λ _=>rfl) Tay Tak (λ so ki hat=> { hat with items:=ki });have HAX:=hid hA;have Qi:=hid (wX.out.trans (ag (HY.out.trans hx)));clear hx hA hs hd ia;go_wp2_with fail;go_meet;exact⟨xs,so,l3,Qi.out,HAX.out⟩
  ·rw[cE hst] at ia;have Qi:=hid (show dc l=ahc [] l1.tail from wX.out.trans (ag (abC hst)));clear hst;go_wp2_with fail;go_meet;exact⟨[],Sl.nil,_,Qi.out,ia.out⟩
 case rest=>obtain⟨items,sl,l3,hE,hA⟩:=hcut;have vx:=hid hE;have nK:=hid hA;clear hE hA ia wX;have hb:=aa wc (.cells (aR [cD]) 9);have HB:=hid (nK.out.later hb);have hq:=nK.out.blk.lt;have p0:=nK.out.ptr;have hm:=aY ρ _ l3 _ _ HB.out.did.at_ [cD] wc.heap.size 1 rfl (av.new wc _ _) Taa Taa;clear hb nK;open ziy in exact Zhl):p:=h
theorem DX (ρ:bw)(w:World)(l:aK)(lg dp:Bool)(h:ρ.gh w l lg dp):
  Calls Tryz.prog 113 #[ρ.ptr] w (F3 ρ w lg dp l):=by have br:=h.od;open zhH in exact Zgi
def I5 (name:ByteArray)(bg:List (ByteArray×Int))(time:ByteArray)(every:Int)(space:ByteArray)(parts:Int):Ps St:=return { kind:=1,name,bg,time,every,space,parts }
def I6 (name:ByteArray)(bg:List (ByteArray×Int))(time:ByteArray)(every:Int)(space:ByteArray):Ps St:=lZ >>= λ n=>I5 name bg time every space n
def aes (name:ByteArray)(bg:List (ByteArray×Int))(time:ByteArray)(every:Int)(space:ByteArray):Ps St:=must fp >>= λ _=>I6 name bg time every space
def aet (name:ByteArray)(bg:List (ByteArray×Int))(time:ByteArray)(every:Int):Ps St:=cC >>= λ s=>aes name bg time every s
def Hd (name:ByteArray)(bg:List (ByteArray×Int))(time:ByteArray)(every:Int):Ps St:=tT >>= λ sp=>(pure { kind:=1,name,bg,time,every,space:=sp.1,parts:=sp.2 }:Ps St)
def aeu (name:ByteArray)(bg:List (ByteArray×Int))(time:ByteArray):Ps St:=lZ >>= λ every=>Hd name bg time every
def aev (name:ByteArray)(bg:List (ByteArray×Int))(time:ByteArray):Ps St:=must cx >>= λ _=>aeu name bg time
def I7 (name:ByteArray)(bg:List (ByteArray×Int)):Ps St:=cC >>= λ time=>aev name bg time
def RY (name:ByteArray)(bg:List (ByteArray×Int)):Ps St:=gW [aM,lY] >>= λ _=>I7 name bg
def aew (name:ByteArray):Ps St:=dN gL >>= λ bg=>RY name bg
def aex (name:ByteArray):Ps St:=must bG >>= λ _=>aew name
def MA:Ps St:=cC >>= λ name=>aex name
variable{name:ByteArray}{bg:List (ByteArray×Int)}{time:ByteArray}{every:Int}{l:aK}
theorem I8(h:ar jR l=false):Hd name bg time every l=.ok ({ kind:=1,name,bg,time,every },l):=by unfold Hd tT;rw[ji,cg];simp only[h];rfl
theorem VE(h:ar jR l=true):Hd name bg time every l=aet name bg time every l.tail:=by unfold Hd tT;rw[ji,cg];simp only[h,if_true,ji];rfl
def amT (name:ByteArray)(query:Qu):Ps St:=return { kind:=2,name,query }
def amU (name:ByteArray):Ps St:=dc >>= λ query=>amT name query
def amV (name:ByteArray):Ps St:=must mA >>= λ _=>amU name
def abN:Ps St:=cC >>= λ name=>amV name
def MB (s:List UInt8):Ps St:=if s=cG then MA else if s=dH then abN else Fk
theorem amW:MB cG=MA:=if_pos rfl
theorem amX:MB dH=abN:=(if_neg Tab).trans (if_pos rfl)
theorem amY:MB iM=Fk:=(if_neg Tab).trans (if_neg Tab)
def I9:Ps St:=jS [cG,dH,iM] >>= λ s=>MB s
def dm:Ps St:=must fA >>= λ _=>I9
theorem zcE.Kaz(h:p:=by generalize wS.setRow (w.heap.size+1) cs=WF at*;go_wp2_with fail;exact ZbJ):p:=h
theorem zfa.Kbq(h:p:=by refine wpList_store_row rfl 34 (.tmp 2) (.tmp 59) rfl (w.heap.size+1) cs rfl rfl 34 cK mC.out dS.out mF.out jN.out ?_;open zcE in exact ZaS):p:=h
theorem za8.Kah(h:p:=by have wy:=hid (show av wS b 34 cs by rw[hcs];exact HA.out.blk);have mC:=hid HA.out.sa.res;have tX:=hid (show cQ ρ w lg dp dm l (.returned (.agg cs)) (wS.setRow (w.heap.size+1) cs) by rw[hcs];exact HA.out.post br HX.out);open zfa in exact ZcH):p:=h
theorem zcF.Kaz(h:p:=by generalize W28.setRow (w.heap.size+1) cs=WF at*;go_wp2_with fail;exact ZbJ):p:=h
theorem zfb.Kbq(h:p:=by refine wpList_store_row rfl 34 (.tmp 2) (.tmp 59) rfl (w.heap.size+1) cs rfl rfl 34 cK mC.out dS.out mF.out jN.out ?_;open zcF in exact ZaS):p:=h
theorem za9.Kah(h:p:=by have wy:=hid (show av W28 b 34 cs by rw[hcs];exact HA.out.blk);have mC:=hid HA.out.sa.res;have tX:=hid (show cQ ρ w lg dp dm l (.returned (.agg cs)) (W28.setRow (w.heap.size+1) cs) by rw[hcs];exact HA.out.post br HX.out);open zfb in exact ZcH):p:=h
theorem zcG.Kaz(h:p:=by generalize WQ.setRow (w.heap.size+1) cs=WF at*;go_wp2_with fail;exact ZbJ):p:=h
theorem zdJ.KaW(h:p:=by refine wpList_store_row rfl 34 (.tmp 2) (.tmp 22) rfl (w.heap.size+1) cs rfl rfl 34 cK mC.out dS.out mF.out jN.out ?_;open zcG in exact ZaS):p:=h
theorem zba.Kah(h:p:=by have wy:=hid (show av WQ b 34 cs by rw[hcs];exact HA.out.blk);have mC:=hid HA.out.sa.res;have tX:=hid (show cQ ρ w lg dp dm l (.returned (.agg cs)) (WQ.setRow (w.heap.size+1) cs) by rw[hcs];exact HA.out.post br HX.out);open zdJ in exact Zbw):p:=h
theorem ziA.KcV(h:p:=by
 clear hm p0;intro e w16 hp;rcases hp.cases with ⟨_,l17,v9,aC,rfl,rfl,d⟩|⟨m,au,rfl,hg⟩;case inr=>have HF:=hid (show dm l=.error m from HE.out.trans (ak (show must cx RT=.error m by rw[<- aB];exact au)));have HG:=hid HB.out.sa.did.grown;clear hp au;go_wp2_with fail;exact aj rfl (GP.err HF.out ⟨rfl,ai HG.out hg⟩)
 have cf:=hid (show dm l=aeu nm bg time l17 from HE.out.trans (ag (show must cx RT=.ok ((),l17) by rw[<- aB];exact aC)));have HA:=hid (HB.out.go br d);clear hp aC d HB HE lH;have HE:=cf;clear cf;go_upto_region 16 with fail;have p0:=HA.out.sa.ptr;go_wp2_with fail;refine(ey ρ w16 l17 _ _ HA.out.sa.did.at_).mono ?_;clear p0;intro e w18 hp;rcases hp.cases with ⟨every,l19,v9,aC,rfl,rfl,_,d⟩|⟨m,au,rfl,hg⟩;case inr=>have HF:=hid (show dm l=.error m from HE.out.trans (ak au));have HG:=hid HA.out.sa.did.grown;clear hp au;go_wp2_with fail;exact aj rfl (GP.err HF.out ⟨rfl,ai HG.out hg⟩)
 have cf:=hid (show dm l=Hd nm bg time every l19 from HE.out.trans (ag aC));clear hp aC HE;have HE:=cf;clear cf;have hX:=d.blk HA.out.blk Taf;have hc:w18.cell? ⟨b,4,none⟩=_:=hX.cell 4;have hf:w18.frozen? ⟨b,4,none⟩=_:=hX.frozen 4;have fH:=hid (HA.out.set (m':= { kind:=1,name:=nm,bg:=so,time:=time,every:=every }) (d':= { kind:=1,name:=nm,bg:=bg,time:=time,every:=every }) br d 4 (.int .i64 every) rfl (rfl) (rfl) (λ hat=> { hat with every:=rfl }));clear hX d HA;have HA:=fH;clear fH;unfold cd kL fN fZ at hc;try unfold fN
 go_upto_region 17 with fail;clear hc hf;generalize w18.setCell _ _=W20 at*;have p0:=HA.out.sa.ptr;have hm:=bz ρ W20 l19 _ _ HA.out.sa.did.at_ ⟨#[115,112,97,99,101]⟩;rw[show(⟨#[115,112,97,99,101]⟩:ByteArray).data.toList=jR from rfl] at hm;go_wp2_with fail;refine hm.mono ?_;clear hm p0;rintro e wS ⟨rfl,d⟩;have fH:=hid (HA.out.go br d);clear d HA;have HA:=fH;clear fH;cases hst:ar jR l19
 ·rw[cy hst] at HA;have cf:=hid (show dm l=.ok ({ kind:=1,name:=nm,bg:=bg,time:=time,every:=every },l19)from HE.out.trans (I8 hst));clear HE hst;have HE:=cf;clear cf;go_upto_region 21 with fail;have HX:=hid (show dm l=.ok ({ kind:=1,name:=nm,bg:=bg,time:=time,every:=every },l19)from HE.out);obtain⟨cs,hcs⟩:∃cs,cs=(cd { kind:=1,name:=nm,bg:=so,time:=time,every:=every }).toArray:=⟨_,rfl⟩;open za8 in exact Zal
 ·rw[cE hst] at HA;have cf:=hid (show dm l=aet nm bg time every l19.tail from HE.out.trans (VE hst));clear HE hst;have HE:=cf;clear cf;have p0:=HA.out.sa.ptr;go_wp2_with fail;refine(ep ρ wS l19.tail _ _ HA.out.sa.did.at_).mono ?_;clear p0;intro e w21 hp;rcases hp.cases with ⟨Y5,l22,v9,aC,rfl,rfl,d⟩|⟨m,au,rfl,hg⟩;case inr=>have HF:=hid (show dm l=.error m from HE.out.trans (ak au));have HG:=hid HA.out.sa.did.grown;clear hp au;go_wp2_with fail;exact aj rfl (GP.err HF.out ⟨rfl,ai HG.out hg⟩)
  have cf:=hid (show dm l=aes nm bg time every Y5 l22 from HE.out.trans (ag aC));clear hp aC HE;have HE:=cf;clear cf;have hX:=d.blk HA.out.blk Taf;have hc:w21.cell? ⟨b,5,none⟩=_:=hX.cell 5;have hf:w21.frozen? ⟨b,5,none⟩=_:=hX.frozen 5;have fH:=hid (HA.out.set (m':= { kind:=1,name:=nm,bg:=so,time:=time,every:=every,space:=Y5 }) (d':= { kind:=1,name:=nm,bg:=bg,time:=time,every:=every,space:=Y5 }) br d 5 (.string Y5) rfl (rfl) (rfl) (λ hat=> { hat with space:=rfl }));clear hX d HA;have HA:=fH;clear fH;unfold cd kL fN fZ at hc;try unfold fN
  go_upto_region 19 with fail;clear hc hf;generalize w21.setCell _ _=W23 at*;have hb:=aa W23 (.cells (aR [fp]) 9);have HB:=hid (HA.out.later hb);have lH:=HA.out.blk.lt;have p0:=HA.out.sa.ptr;have hm:=aY ρ _ l22 _ _ HB.out.sa.did.at_ [fp] W23.heap.size 1 rfl (av.new W23 _ _) Taa Taa;clear hb HA;unfold aR strOf at hm HB;simp only[map_cons,map_nil] at hm HB;rw[show fp.toArray= #[105,110,116,111] from rfl] at hm HB;go_wp2_with fail;refine hm.mono ?_;clear hm p0;intro e w24 hp;rcases hp.cases with ⟨_,l25,v9,aC,rfl,rfl,d⟩|⟨m,au,rfl,hg⟩;case inr=>have HF:=hid (show dm l=.error m from HE.out.trans (ak (show must fp l22=.error m by rw[<- aB];exact au)));have HG:=hid HB.out.sa.did.grown;clear hp au;go_wp2_with fail;exact aj rfl (GP.err HF.out ⟨rfl,ai HG.out hg⟩)
  have cf:=hid (show dm l=I6 nm bg time every Y5 l25 from HE.out.trans (ag (show must fp l22=.ok ((),l25) by rw[<- aB];exact aC)));have HA:=hid (HB.out.go br d);clear hp aC d HB HE lH;have HE:=cf;clear cf;go_upto_region 20 with fail;have p0:=HA.out.sa.ptr;go_wp2_with fail;refine(ey ρ w24 l25 _ _ HA.out.sa.did.at_).mono ?_;clear p0;intro e w26 hp;rcases hp.cases with ⟨prt,l27,v9,aC,rfl,rfl,_,d⟩|⟨m,au,rfl,hg⟩;case inr=>have HF:=hid (show dm l=.error m from HE.out.trans (ak au));have HG:=hid HA.out.sa.did.grown;clear hp au;go_wp2_with fail;exact aj rfl (GP.err HF.out ⟨rfl,ai HG.out hg⟩)
  have cf:=hid (show dm l=I5 nm bg time every Y5 prt l27 from HE.out.trans (ag aC));clear hp aC HE;have HE:=cf;clear cf;have hX:=d.blk HA.out.blk Taf;have hc:w26.cell? ⟨b,6,none⟩=_:=hX.cell 6;have hf:w26.frozen? ⟨b,6,none⟩=_:=hX.frozen 6;have fH:=hid (HA.out.set (m':= { kind:=1,name:=nm,bg:=so,time:=time,every:=every,space:=Y5,parts:=prt }) (d':= { kind:=1,name:=nm,bg:=bg,time:=time,every:=every,space:=Y5,parts:=prt }) br d 6 (.int .i64 prt) rfl (rfl) (rfl) (λ hat=> { hat with parts:=rfl }));clear hX d HA;have HA:=fH;clear fH;unfold cd kL fN fZ at hc;try unfold fN
  go_upto_region 21 with fail;clear hc hf;generalize w26.setCell _ _=W28 at*;have HX:=hid (show dm l=.ok ({ kind:=1,name:=nm,bg:=bg,time:=time,every:=every,space:=Y5,parts:=prt },l27)from HE.out);obtain⟨cs,hcs⟩:∃cs,cs=(cd { kind:=1,name:=nm,bg:=so,time:=time,every:=every,space:=Y5,parts:=prt }).toArray:=⟨_,rfl⟩;open za9 in exact Zal):p:=h
theorem zeX.Kbk(h:p:=by
 have cf:=hid (show dm l=aex nm l6 from HE.out.trans (ag aC));clear hp aC HE;have HE:=cf;clear cf;have xh:=d.size;have ru:=hid (HS.out.go br d);have hbq:=ru.out.res.lt;obtain⟨cs,hcs⟩:∃cs,cs=(cd { kind:=1,name:=nm }).toArray:=⟨_,rfl⟩;have dS:=hid (show(Tryz.prog.info? 34).map (·.size)=some cs.size by rw[hcs];exact cz);have mF:=hid (show cK.size=cs.size by rw[hcs,bB];exact bB _);have jN:=hid (show cs.all (·.oneCell')=true by rw[hcs];exact cW _);have Cm:=hid (show Tryz.prog.built 34 [(0,.int .u8 1),(1,.string nm)]=some cs by rw[hcs];exact mS _ _);have HA:=hid (show wu ρ w (w.heap.size+1) [w.heap.size] lg dp w5.heap.size (w5.alloc (.cells cs 34)) l6 { kind:=1,name:=nm } { kind:=1,name:=nm } by
  rw[hcs]
  exact ru.out.start (lg2:=lg) (dp2:=dp) { kind:=1,name:=nm } { kind:=1,name:=nm } (λ p hp=>by simp at hp;subst hp;omega) Tal Tas Tal (λ W S=> { St.kV W S with kind:=rfl,name:=rfl }))
 clear d HS ru hcs;go_upto_region 11 with (first
  |(refine iF rfl 34 _ rfl (cs:=cs) ?hv ?_;rotate_left)
  |(refine wpList_store_row rfl 34 (.tmp 4) (.tmp 29) rfl w5.heap.size cs rfl rfl 34 cK (av.new w5 34 cK) dS.out mF.out jN.out ?_
    rw[iG]))
 case hv=>exact Cm.out
 generalize hb:w5.heap.size=b at*;generalize hW:(World.alloc _ _)=WB at*;clear hW hb xh Cm jN mF dS;have hb:=aa WB (.cells (aR [bG]) 9);have HB:=hid (HA.out.later hb);have lH:=HA.out.blk.lt;have p0:=HA.out.sa.ptr;have hm:=aY ρ _ l6 _ _ HB.out.sa.did.at_ [bG] WB.heap.size 1 rfl (av.new WB _ _) Taa Taa;clear hb HA;unfold aR strOf at hm HB;simp only[map_cons,map_nil] at hm HB;rw[show bG.toArray= #[40] from rfl] at hm HB;go_wp2_with fail;refine hm.mono ?_;clear hm p0;intro e w7 hp;rcases hp.cases with ⟨_,l8,v9,aC,rfl,rfl,d⟩|⟨m,au,rfl,hg⟩;case inr=>have HF:=hid (show dm l=.error m from HE.out.trans (ak (show must bG l6=.error m by rw[<- aB];exact au)));have HG:=hid HB.out.sa.did.grown;clear hp au;go_wp2_with fail;exact aj rfl (GP.err HF.out ⟨rfl,ai HG.out hg⟩)
 have cf:=hid (show dm l=aew nm l8 from HE.out.trans (ag (show must bG l6=.ok ((),l8) by rw[<- aB];exact aC)));have HA:=hid (HB.out.go br d);clear hp aC d HB HE lH;have HE:=cf;clear cf;have p0:=HA.out.sa.ptr;have F:=HA.out.fit br 2 Tab
 have L:Lst ρ w (λ _=>false) gL 116 #[.pointer (some ⟨w.heap.size,0,none⟩),.pointer (some ⟨b,0,none⟩)] ((stG ρ w (w.heap.size+1) w.heap.size b { kind:=1,name:=nm } { kind:=1,name:=nm } 2).acc AJ 53):=
  ⟨ow,enters_of Tryz.func116 Tac rfl,λ acc a b hs hg _=>by obtain⟨v,h⟩:=hs;exact⟨v,h.grown F hg⟩,λ acc W l lg dp hn hs hd=>JP _ F rfl rfl acc W l lg dp hn hs hd⟩
 have hm:=oT ρ w (λ _=>false) gL 116 #[.pointer (some ⟨w.heap.size,0,none⟩),.pointer (some ⟨b,0,none⟩)] _ L w7 l8 _ _ HA.out.sa.did (HA.out.start AJ 53 2 rfl) br;clear L F;go_wp2_with fail;refine hm.mono ?_;clear hm p0;intro e w9 hp;unfold jb at hp
 cases hx:dN gL l8 with
 | error m=>rw[hx] at hp;obtain⟨rfl,hg⟩:=hp;have HF:=hid (show dm l=.error m from HE.out.trans (ak hx));exact Zcd
 | ok z=>
   obtain⟨bg,l10⟩:=z;rw[hx] at hp;obtain⟨rfl,hs,hd⟩:=hp;obtain⟨so,hA⟩:=HA.out.list (m':=λ so=> { kind:=1,name:=nm,bg:=so }) (d':= { kind:=1,name:=nm,bg:=bg }) hs hd (λ _=>rfl) Tav (by rw[GX];simp[St.exprs,Qu.exprs,di]) (λ so ki hat=> { hat with bg:=ki });have cf:=hid (show dm l=RY nm bg l10 from HE.out.trans (ag hx));have fH:=hid hA;clear hx hA hs hd HA HE;have HA:=fH;have HE:=cf;clear fH cf;go_upto_region 13 with fail;have hb:=aa w9 (.cells (aR [aM,lY]) 9);have HB:=hid (HA.out.later hb);have lH:=HA.out.blk.lt;have p0:=HA.out.sa.ptr;have hm:=aY ρ _ l10 _ _ HB.out.sa.did.at_ [aM,lY] w9.heap.size 2 rfl (av.new w9 _ _) Taa Taa;clear hb HA;unfold aR strOf at hm HB;simp only[map_cons,map_nil] at hm HB;rw[show aM.toArray= #[41] from rfl,show lY.toArray= #[116,105,109,101] from rfl] at hm HB;go_wp2_with fail;refine hm.mono ?_;clear hm p0;intro e GA hp;rcases hp.cases with ⟨_,Xq,v9,aC,rfl,rfl,d⟩|⟨m,au,rfl,hg⟩;case inr=>have HF:=hid (show dm l=.error m from HE.out.trans (ak (show gW [aM,lY] l10=.error m from au)));have HG:=hid HB.out.sa.did.grown;clear hp au;go_wp2_with fail;exact aj rfl (GP.err HF.out ⟨rfl,ai HG.out hg⟩)
   have cf:=hid (show dm l=I7 nm bg Xq from HE.out.trans (ag (show gW [aM,lY] l10=.ok (_,Xq)from aC)));have HA:=hid (HB.out.go br d);clear hp aC d HB HE lH;have HE:=cf;clear cf;go_upto_region 14 with fail;have p0:=HA.out.sa.ptr;go_wp2_with fail;refine(ep ρ GA Xq _ _ HA.out.sa.did.at_).mono ?_;clear p0;intro e LH hp;rcases hp.cases with ⟨time,RT,v9,aC,rfl,rfl,d⟩|⟨m,au,rfl,hg⟩;case inr=>have HF:=hid (show dm l=.error m from HE.out.trans (ak au));have HG:=hid HA.out.sa.did.grown;clear hp au;go_wp2_with fail;exact aj rfl (GP.err HF.out ⟨rfl,ai HG.out hg⟩)
   have cf:=hid (show dm l=aev nm bg time RT from HE.out.trans (ag aC));clear hp aC HE;have HE:=cf;clear cf;have hX:=d.blk HA.out.blk Taf;have hc:LH.cell? ⟨b,3,none⟩=_:=hX.cell 3;have hf:LH.frozen? ⟨b,3,none⟩=_:=hX.frozen 3;have fH:=hid (HA.out.set (m':= { kind:=1,name:=nm,bg:=so,time:=time }) (d':= { kind:=1,name:=nm,bg:=bg,time:=time }) br d 3 (.string time) rfl (rfl) (rfl) (λ hat=> { hat with time:=rfl }));clear hX d HA;have HA:=fH;clear fH;unfold cd kL fN fZ at hc;try unfold fN
   go_upto_region 15 with fail;clear hc hf;generalize LH.setCell _ _=W15 at*;have hb:=aa W15 (.cells (aR [cx]) 9);have HB:=hid (HA.out.later hb);have lH:=HA.out.blk.lt;have p0:=HA.out.sa.ptr;have hm:=aY ρ _ RT _ _ HB.out.sa.did.at_ [cx] W15.heap.size 1 rfl (av.new W15 _ _) Taa Taa;open ziA in exact Zhm):p:=h
theorem zeY.Kbk(h:p:=by
 have cf:=hid (show dm l=amV nm l6 from HE.out.trans (ag aC));clear hp aC HE;have HE:=cf;clear cf;have xh:=d.size;have ru:=hid (HS.out.go br d);have hbq:=ru.out.res.lt;obtain⟨cs,hcs⟩:∃cs,cs=(cd { kind:=2,name:=nm }).toArray:=⟨_,rfl⟩;have dS:=hid (show(Tryz.prog.info? 34).map (·.size)=some cs.size by rw[hcs];exact cz);have mF:=hid (show cK.size=cs.size by rw[hcs,bB];exact bB _);have jN:=hid (show cs.all (·.oneCell')=true by rw[hcs];exact cW _);have Cm:=hid (show Tryz.prog.built 34 [(0,.int .u8 2),(1,.string nm)]=some cs by rw[hcs];exact mS _ _);have HA:=hid (show wu ρ w (w.heap.size+1) [w.heap.size] lg dp w5.heap.size (w5.alloc (.cells cs 34)) l6 { kind:=2,name:=nm } { kind:=2,name:=nm } by
  rw[hcs]
  exact ru.out.start (lg2:=lg) (dp2:=dp) { kind:=2,name:=nm } { kind:=2,name:=nm } (λ p hp=>by simp at hp;subst hp;omega) Tal Tas Tal (λ W S=> { St.kV W S with kind:=rfl,name:=rfl }))
 clear d HS ru hcs;go_upto_region 5 with (first
  |(refine iF rfl 34 _ rfl (cs:=cs) ?hv ?_;rotate_left)
  |(refine wpList_store_row rfl 34 (.tmp 3) (.tmp 15) rfl w5.heap.size cs rfl rfl 34 cK (av.new w5 34 cK) dS.out mF.out jN.out ?_
    rw[iG]))
 case hv=>exact Cm.out
 generalize hb:w5.heap.size=b at*;generalize hW:(World.alloc _ _)=WB at*;clear hW hb xh Cm jN mF dS;have hb:=aa WB (.cells (aR [mA]) 9);have HB:=hid (HA.out.later hb);have lH:=HA.out.blk.lt;have p0:=HA.out.sa.ptr;have hm:=aY ρ _ l6 _ _ HB.out.sa.did.at_ [mA] WB.heap.size 1 rfl (av.new WB _ _) Taa Taa;clear hb HA;unfold aR strOf at hm HB;simp only[map_cons,map_nil] at hm HB;rw[show mA.toArray= #[97,115] from rfl] at hm HB;go_wp2_with fail;refine hm.mono ?_;clear hm p0;intro e w7 hp;rcases hp.cases with ⟨_,l8,v9,aC,rfl,rfl,d⟩|⟨m,au,rfl,hg⟩;case inr=>have HF:=hid (show dm l=.error m from HE.out.trans (ak (show must mA l6=.error m by rw[<- aB];exact au)));have HG:=hid HB.out.sa.did.grown;clear hp au;go_wp2_with fail;exact aj rfl (GP.err HF.out ⟨rfl,ai HG.out hg⟩)
 have cf:=hid (show dm l=amU nm l8 from HE.out.trans (ag (show must mA l6=.ok ((),l8) by rw[<- aB];exact aC)));have HA:=hid (HB.out.go br d);clear hp aC d HB HE lH;have HE:=cf;clear cf;have p0:=HA.out.sa.ptr;go_wp2_with fail;refine(DX ρ w7 l8 _ _ HA.out.sa.did.at_).mono ?_;clear p0;intro e w9 hp;rcases GP.cases hp with ⟨qd,l10,v9,aC,rfl,qy,rfl,Mz,d⟩|⟨m,au,rfl,hg⟩;case inr=>have HF:=hid (show dm l=.error m from HE.out.trans (ak au));have HG:=hid HA.out.sa.did.grown;clear hp au;go_wp2_with fail;exact aj rfl (GP.err HF.out ⟨rfl,ai HG.out hg⟩)
 have cf:=hid (show dm l=amT nm qd l10 from HE.out.trans (ag aC));clear hp aC HE;have HE:=cf;clear cf;have hX:=d.blk HA.out.blk Taf;have x7:w9.cell? ⟨b,7,none⟩=_:=hX.cell 7;have f7:w9.frozen? ⟨b,7,none⟩=_:=hX.frozen 7;have x8:w9.cell? ⟨b,8,none⟩=_:=hX.cell 8;have f8:w9.frozen? ⟨b,8,none⟩=_:=hX.frozen 8;have x9:w9.cell? ⟨b,9,none⟩=_:=hX.cell 9;have f9:w9.frozen? ⟨b,9,none⟩=_:=hX.frozen 9;have NB:w9.cell? ⟨b,10,none⟩=_:=hX.cell 10;have f10:w9.frozen? ⟨b,10,none⟩=_:=hX.frozen 10;have NC:w9.cell? ⟨b,11,none⟩=_:=hX.cell 11;have f11:w9.frozen? ⟨b,11,none⟩=_:=hX.frozen 11;have ND:w9.cell? ⟨b,12,none⟩=_:=hX.cell 12;have f12:w9.frozen? ⟨b,12,none⟩=_:=hX.frozen 12;have NF:w9.cell? ⟨b,13,none⟩=_:=hX.cell 13;have f13:w9.frozen? ⟨b,13,none⟩=_:=hX.frozen 13;have NG:w9.cell? ⟨b,14,none⟩=_:=hX.cell 14;have f14:w9.frozen? ⟨b,14,none⟩=_:=hX.frozen 14;have fH:=hid (HA.out.query (m':= { kind:=2,name:=nm,query:=qy }) (d':= { kind:=2,name:=nm,query:=qd }) br d (by simp only[cd,G7,kL,fZ,setIfInBounds_toArray,cons_append,nil_append,set_cons_zero,set_cons_succ];rfl) Tav Tai (λ hat=> { hat with query:=Qu.at_.keep (ir (by have:=HA.out.blk.lt;omega)) Mz }));clear hX d HA Mz;have HA:=fH;clear fH;unfold cd kL fN fZ at x7 x8 x9 NB NC ND NF NG;unfold IU kL;obtain⟨⟨iA,iN,iC⟩,qf,qo,⟨wA,wN,wC⟩,⟨gA,gN,gC⟩,⟨hA,hN,hC⟩,⟨oA,oN,oC⟩,⟨lA,lN,lC⟩⟩:=qy
 unfold fN;go_upto_region 7 with fail;change Code.wp _ _ _ _ (Qm w9 b ⟨⟨iA,iN,iC⟩,qf,qo,⟨wA,wN,wC⟩,⟨gA,gN,gC⟩,⟨hA,hN,hC⟩,⟨oA,oN,oC⟩,⟨lA,lN,lC⟩⟩);clear x7 x8 x9 NB NC ND NF NG f7 f8 f9 f10 f11 f12 f13 f14;generalize Qm w9 b _=WQ at*;have HX:=hid (show dm l=.ok ({ kind:=2,name:=nm,query:=qd },l10)from HE.out);obtain⟨cs,hcs⟩:∃cs,cs=(cd { kind:=2,name:=nm,query:=⟨⟨iA,iN,iC⟩,qf,qo,⟨wA,wN,wC⟩,⟨gA,gN,gC⟩,⟨hA,hN,hC⟩,⟨oA,oN,oC⟩,⟨lA,lN,lC⟩⟩}).toArray:=⟨_,rfl⟩;open zba in exact Zal):p:=h
theorem zgc.KbR(h:p:=by
 have hb:=aa W0 (.cells (aR [fA]) 9);have HB:=hid (HS.out.later hb);have lH:=HS.out.res.lt;have p0:=HS.out.ptr;have hm:=aY ρ _ l _ _ HB.out.did.at_ [fA] W0.heap.size 1 rfl (av.new W0 _ _) Taa Taa;clear hb HS;unfold aR strOf at hm HB;simp only[map_cons,map_nil] at hm HB;rw[show fA.toArray= #[99,114,101,97,116,101] from rfl] at hm HB;go_wp2_with fail;refine hm.mono ?_;clear hm p0;intro e w1 hp;rcases hp.cases with ⟨_,l2,v9,aC,rfl,rfl,d⟩|⟨m,au,rfl,hg⟩;case inr=>have HF:=hid (show dm l=.error m from HE.out.trans (ak (show must fA l=.error m by rw[<- aB];exact au)));have HG:=hid HB.out.did.grown;clear hp au;go_wp2_with fail;exact aj rfl (GP.err HF.out ⟨rfl,ai HG.out hg⟩)
 have cf:=hid (show dm l=I9 l2 from HE.out.trans (ag (show must fA l=.ok ((),l2) by rw[<- aB];exact aC)));have HS:=hid (HB.out.go br d);clear hp aC d HB HE lH;have HE:=cf;clear cf;have hb:=aa w1 (.cells (aR [cG,dH,iM]) 9);have HB:=hid (HS.out.later hb);have lH:=HS.out.res.lt;have p0:=HS.out.ptr;have hm:=ry ρ _ l2 _ _ HB.out.did.at_ [cG,dH,iM] w1.heap.size 3 rfl (av.new w1 _ _) Taa Taa;clear hb HS;unfold aR strOf at hm HB;simp only[map_cons,map_nil] at hm HB;rw[show cG.toArray= #[116,97,98,108,101] from rfl,show dH.toArray= #[118,105,101,119] from rfl,show iM.toArray= #[106,111,98] from rfl] at hm HB;go_wp2_with fail;refine hm.mono ?_;clear hm p0;intro e w3 hp;rcases hp.cases with ⟨sx,l4,v9,aC,rfl,rfl,d⟩|⟨m,au,rfl,hg⟩;case inr=>have HF:=hid (show dm l=.error m from HE.out.trans (ak au));have HG:=hid HB.out.did.grown;clear hp au;go_wp2_with fail;exact aj rfl (GP.err HF.out ⟨rfl,ai HG.out hg⟩)
 have I4:=hid (vH aC);have cf:=hid (show dm l=MB sx l4 from HE.out.trans (ag aC));have HS:=hid (HB.out.go br d);clear hp aC d HB HE lH;have HE:=cf;clear cf;try unfold strOf
 have yJ:=I4.out;clear I4;simp only[mem_cons,not_mem_nil,or_false] at yJ;rcases yJ with rfl | rfl | rfl
 ·rw[show cG.toArray= #[116,97,98,108,101] from rfl];have cf:=hid (show dm l=MA l4 from HE.out.trans (congrFun amW _));clear HE;have HE:=cf;clear cf;go_upto_region 10 with fail;open zeX in exact Zcw
 ·rw[show dH.toArray= #[118,105,101,119] from rfl];have cf:=hid (show dm l=abN l4 from HE.out.trans (congrFun amX _));clear HE;have HE:=cf;clear cf;go_upto_region 4 with fail;open zeY in exact Zcw
 ·rw[show iM.toArray= #[106,111,98] from rfl];have cf:=hid (show dm l=Fk l4 from HE.out.trans (congrFun amY _));clear HE;have HE:=cf;clear cf;go_upto_region 9 with fail;have p0:=HS.out.ptr;go_wp2_with fail;refine(I3 ρ w3 l4 _ _ HS.out.did.at_).mono ?_;clear p0;intro e w5 hp;rcases GP.cases hp with ⟨d9,l6,v9,aC,rfl,m9,rfl,Mz,d⟩|⟨m,au,rfl,hg⟩;case inr=>have HF:=hid (show dm l=.error m from HE.out.trans au);have HG:=hid HS.out.did.grown;clear hp au;go_wp2_with fail;exact aj rfl (GP.err HF.out ⟨rfl,ai HG.out hg⟩)
  have cf:=hid (show dm l=.ok (d9,l6)from HE.out.trans aC);clear hp aC HE;have lH:=HS.out.res.lt;obtain⟨cs,hcs⟩:∃cs,cs=(cd m9).toArray:=⟨_,rfl⟩;have dS:=hid (show(Tryz.prog.info? 34).map (·.size)=some cs.size by rw[hcs];exact cz);have mF:=hid (show cK.size=cs.size by rw[hcs,bB];exact bB _);have jN:=hid (show cs.all (·.oneCell')=true by rw[hcs];exact cW _);have mC:=hid (d.blk HS.out.res Taa);have tX:=hid (show cQ ρ w lg dp dm l (.returned (.agg cs)) (w5.setRow (w.heap.size+1) cs) by
   rw[hcs]
   exact GP.ok cf.out ⟨m9,rfl,St.at_.keep (ir Taa) (St.at_.keep (iZ w5 (show w.heap.size+1 < _ by omega) _) Mz),(HS.out.did.trans d).own br (cP w5 (w.heap.size+1) (cd m9).toArray) (λ G e=>by injection e with e;omega)⟩)
  unfold mK;rw[<- hcs];clear d HS cf hcs Mz;go_wp2_with (first
   |(refine wpList_store_row rfl 34 (.tmp 2) (.tmp 26) rfl (w.heap.size+1) cs rfl rfl 34 cK mC.out dS.out mF.out jN.out ?_
     have tu:=hid (mC.out.row cs)))
  exact ZbJ):p:=h
theorem zcy.Kay(h:p:=by have HE:=hid (show dm l=(must fA >>= λ _=>I9) l from rfl);clear h b2 hP hR;go_enter Tryz.func67,Tryz.ntmps67;open zgc in exact Zd1):p:=h
theorem MC (ρ:bw)(w:World)(l:aK)(lg dp:Bool)(h:ρ.gh w l lg dp):
  Calls Tryz.prog 67 #[ρ.ptr] w (cQ ρ w lg dp dm l):=by
 open zcy in exact ZaR
end Go.Proofs.YtehhdlgjfdnafaaGreatDoor
