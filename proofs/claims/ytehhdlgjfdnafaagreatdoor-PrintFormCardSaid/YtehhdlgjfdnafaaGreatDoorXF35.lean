/- Parts of the proof. -/
import Derived.Test.YtehhdlgjfdnafaaGreatDoorXF25
import Derived.Test.YtehhdlgjfdnafaaGreatDoorXF31
namespace Go.Proofs.YtehhdlgjfdnafaaGreatDoor
variable{p:Prop}
set_option maxHeartbeats 90000000
set_option maxRecDepth 100000
open Go.Lib (hid)
open Go.ChangeShapes Go.WideShapes Go.ChangeAt Go.RowKit List
set_option linter.unusedVariables false
set_option linter.unusedSimpArgs false
def td:Ps St:=do
 let _ <- gW [gK,cD]
 let name <- cC
 let aS <- fU dB
 return { kind:=7,name,aS }
def aeC (name:ByteArray)(aS:List Tr):Ps St:=return { kind:=7,name,aS }
def aeD (name:ByteArray):Ps St:=do
 let aS <- fU dB
 aeC name aS
def J7:Ps St:=do
 let name <- cC
 aeD name
theorem zcK.Kaz(h:p:=by generalize W7.setRow (w.heap.size) cs=WF at*;go_wp2_with fail;exact bodyPost_ret (v:=.agg cs) (results_cell_row Tryz.results71 _ _ (w.heap.size) 34 cs (0,0) _ rfl tu.out Tryz.underlying34 rfl dS.out) rfl tX.out):p:=h
theorem zdL.KaW(h:p:=by refine wpList_store_row rfl 34 (.tmp 2) (.tmp 13) rfl (w.heap.size) cs rfl rfl 34 cK mC.out dS.out mF.out jN.out ?_;open zcK in exact ZaS):p:=h
theorem zbe.Kah(h:p:=by have wy:=hid (show av W7 b 34 cs by rw[hcs];exact HA.out.blk);have mC:=hid HA.out.sa.res;have tX:=hid (show cQ ρ w lg dp td l (.returned (.agg cs)) (W7.setRow (w.heap.size) cs) by rw[hcs];exact HA.out.post br HX.out);open zdL in exact Zbw):p:=h
theorem zdA.KaU(h:p:=by
 go_wp2_with fail;refine(Bk ρ WB l4 _ _ HA.out.sa.did.at_ dB ⟨#[119,104,101,114,101]⟩ rfl).mono ?_;intro e w5 hp;rcases GP.cases hp with ⟨aS,l6,v9,aC,rfl,⟨A,n,c⟩,rfl,ki,d⟩|⟨m,au,rfl,hg⟩;case inr=>have HF:=hid (show td l=.error m from HE.out.trans (ak au));have HG:=hid HA.out.sa.did.grown;clear hp au;go_wp2_with fail;exact aj rfl (GP.err HF.out ⟨rfl,ai HG.out hg⟩)
 have cf:=hid (show td l=aeC nm aS l6 from HE.out.trans (ag aC));clear hp aC HE;have HE:=cf;clear cf;have lH:=HA.out.blk.lt;have hX:=d.blk HA.out.blk Taf;have hc:w5.cell? ⟨b,21,none⟩=_:=hX.cell 21;have hf:w5.frozen? ⟨b,21,none⟩=_:=hX.frozen 21;have fH:=hid (HA.out.set (m':= { kind:=7,name:=nm,aS:=⟨A,n,c⟩}) (d':= { kind:=7,name:=nm,aS:=aS }) br d 21 (.slice A n c) rfl Tav Tai (λ hat=> { hat with aS:=El.lies.more ki Taa}));clear hX d HA;have HA:=fH;clear fH;unfold cd kL fN fZ at hc;try unfold fN
 go_upto_region 4 with fail;clear hc hf;generalize w5.setCell _ _=W7 at*;obtain⟨ahp,hs9⟩:∃s:Sl,s=⟨A,n,c⟩:=⟨_,rfl⟩;rw[<- hs9] at HA;clear hs9 lH ki;have HX:=hid (show td l=.ok ({ kind:=7,name:=nm,aS:=aS },l6)from HE.out);obtain⟨cs,hcs⟩:∃cs,cs=(cd { kind:=7,name:=nm,aS:=ahp }).toArray:=⟨_,rfl⟩;open zbe in exact Zal):p:=h
theorem zeo.Ka9(h:p:=by
 have hb:=aa W0 (.cells (aR [gK,cD]) 9);have HB:=hid (HS.out.later hb);have lH:=HS.out.res.lt;have hm:=aY ρ _ l _ _ HB.out.did.at_ [gK,cD] W0.heap.size 2 rfl (av.new W0 _ _) Taa Taa;clear hb HS;unfold aR strOf at hm HB;simp only[map_cons,map_nil] at hm HB;rw[show gK.toArray= #[100,101,108,101,116,101] from rfl,show cD.toArray= #[102,114,111,109] from rfl] at hm HB;go_wp2_with fail;refine hm.mono ?_;clear hm;intro e w1 hp;rcases hp.cases with ⟨_,l2,v9,aC,rfl,rfl,d⟩|⟨m,au,rfl,hg⟩;case inr=>have HF:=hid (show td l=.error m from HE.out.trans (ak (show gW [gK,cD] l=.error m from au)));have HG:=hid HB.out.did.grown;clear hp au;go_wp2_with fail;exact aj rfl (GP.err HF.out ⟨rfl,ai HG.out hg⟩)
 have cf:=hid (show td l=J7 l2 from HE.out.trans (ag (show gW [gK,cD] l=.ok (_,l2)from aC)));have HS:=hid (HB.out.go br d);clear hp aC d HB HE lH;have HE:=cf;clear cf;go_wp2_with fail;refine(ep ρ w1 l2 _ _ HS.out.did.at_).mono ?_;intro e w3 hp;rcases hp.cases with ⟨nm,l4,v9,aC,rfl,rfl,d⟩|⟨m,au,rfl,hg⟩;case inr=>have HF:=hid (show td l=.error m from HE.out.trans (ak au));have HG:=hid HS.out.did.grown;clear hp au;go_wp2_with fail;exact aj rfl (GP.err HF.out ⟨rfl,ai HG.out hg⟩)
 have cf:=hid (show td l=aeD nm l4 from HE.out.trans (ag aC));clear hp aC HE;have HE:=cf;clear cf;have xh:=d.size;have ru:=hid (HS.out.go br d);have hbq:=ru.out.res.lt;obtain⟨cs,hcs⟩:∃cs,cs=(cd { kind:=7,name:=nm }).toArray:=⟨_,rfl⟩;have dS:=hid (show(Tryz.prog.info? 34).map (·.size)=some cs.size by rw[hcs];exact cz);have mF:=hid (show cK.size=cs.size by rw[hcs,bB];exact bB _);have jN:=hid (show cs.all (·.oneCell')=true by rw[hcs];exact cW _);have Cm:=hid (show Tryz.prog.built 34 [(0,.int .u8 7),(1,.string nm)]=some cs by rw[hcs];exact mS _ _);have HA:=hid (show wu ρ w (w.heap.size) [] lg dp w3.heap.size (w3.alloc (.cells cs 34)) l4 { kind:=7,name:=nm } { kind:=7,name:=nm } by
  rw[hcs]
  exact ru.out.start (lg2:=lg) (dp2:=dp) { kind:=7,name:=nm } { kind:=7,name:=nm } (λ p hp=>by simp at hp) Tal Tas Tal (λ W S=> { St.kV W S with kind:=rfl,name:=rfl }))
 open zdA in exact Zbo):p:=h
theorem zeG.Kbe(h:p:=by have HE:=hid (show td l=(gW [gK,cD] >>= λ _=>J7) l from rfl);clear h b1;go_enter Tryz.func71,Tryz.ntmps71;open zeo in exact Zb3):p:=h
theorem MF (ρ:bw)(w:World)(l:aK)(lg dp:Bool)(h:ρ.gh w l lg dp):
  Calls Tryz.prog 71 #[ρ.ptr] w (cQ ρ w lg dp td l):=by
 open zeG in exact Zce
def Ec:Ps St:=dc >>= λ query=>(pure { kind:=8,query }:Ps St)
theorem zep.Ka9(h:p:=by
 go_wp2_with fail;refine(DX ρ W0 l _ _ HS.out.did.at_).mono ?_;intro e w1 hp;rcases GP.cases hp with ⟨qd,l2,v9,aC,rfl,qy,rfl,hat,d⟩|⟨m,au,rfl,hg⟩;case inr=>have HF:=hid (show Ec l=.error m from HE.out.trans (ak au));have HG:=hid HS.out.did.grown;clear hp au;go_wp2_with fail;exact aj rfl (GP.err HF.out ⟨rfl,ai HG.out hg⟩)
 have cf:=hid (show Ec l=.ok ({ kind:=8,query:=qd },l2)from HE.out.trans ((ag aC).trans rfl));clear hp aC HE;obtain⟨cs,hcs⟩:∃cs,cs=(cd { kind:=8,query:=qy }).toArray:=⟨_,rfl⟩;have dS:=hid (show(Tryz.prog.info? 34).map (·.size)=some cs.size by rw[hcs];exact cz);have mF:=hid (show cK.size=cs.size by rw[hcs,bB];exact bB _);have jN:=hid (show cs.all (·.oneCell')=true by rw[hcs];exact cW _);have Cm:=hid (show Tryz.prog.built 34 [(0,.int .u8 8),(7,IU qy)]=some cs by rw[hcs];exact Qj _);have mC:=hid (d.blk HS.out.res Taa);have tX:=hid (show cQ ρ w lg dp Ec l (.returned (.agg cs)) (w1.setRow w.heap.size cs) by
  rw[hcs]
  refine GP.ok cf.out ⟨_,rfl,{ St.kV _ _ with kind:=rfl,query:=Qu.at_.keep (ir Taa) (Qu.at_.keep (iZ w1 (show w.heap.size < W0.heap.size by omega) _) hat)},?_⟩
  have hD:=(HS.out.did.trans d).own br (cP w1 w.heap.size (cd { kind:=8,query:=qy }).toArray) (λ G e=>by injection e with e;omega)
  simpa [St.long,St.exprs,Qu.long,Qu.exprs,di,any_append,any_map] using hD)
 clear d hat HS cf hcs;generalize IU qy=qv at*;go_wp2_with (first
  |(refine iF rfl 34 _ rfl (cs:=cs) ?hv ?_;rotate_left)
  |(refine wpList_store_row rfl 34 (.tmp 2) (.tmp 5) rfl w.heap.size cs rfl rfl 34 cK mC.out dS.out mF.out jN.out ?_
    have tu:=hid (mC.out.row cs)))
 case hv=>exact Cm.out
 exact bodyPost_ret (v:=.agg cs) (results_cell_row Tryz.results72 _ _ w.heap.size 34 cs (0,0) _ rfl tu.out Tryz.underlying34 rfl dS.out) rfl tX.out):p:=h
theorem zeH.Kbe(h:p:=by have HE:=hid (show Ec l=(dc >>= λ query=>(pure { kind:=8,query }:Ps St)) l from rfl);clear h b1;go_enter Tryz.func72,Tryz.ntmps72;open zep in exact Zb3):p:=h
theorem MI (ρ:bw)(w:World)(l:aK)(lg dp:Bool)(h:ρ.gh w l lg dp):
  Calls Tryz.prog 72 #[ρ.ptr] w (cQ ρ w lg dp Ec l):=by
 open zeH in exact Zce
variable{s:List UInt8}{P:Ps St}{t:Wd}{r:aK}
theorem mU(hk:t.k=1)(ht:t.s=s):(must s >>= λ _=>P) (t::r)=P r:=by
 rw[ag (x:=()) (r:=r)];have:gV s t=true:=by simp[gV,hk,ht]
 simp[must,ar,this]
theorem abP:td=(must gK >>= λ _=>pZ):=by show(gW [gK,cD] >>= λ _=>J7)=_;rw[<- zX];rfl
theorem abQ:pG=(must iw >>= λ _=>pX):=by unfold pG;rw[<- zX];rfl
theorem abR:og=(must gJ >>= λ _=>pY):=rfl
theorem K1:pD=(must gu >>= λ _=>AL):=rfl
theorem abS:MA=tU:=by
 have e3:RY=λ name bg=>must aM >>= λ _=>must lY >>= λ _=>I7 name bg:=by funext name bg;exact(zX _ _ _).symm
 show(cC >>= λ name=>must bG >>= λ _=>dN gL >>= λ bg=>RY name bg)=tU;rw[e3];rfl
theorem abT:dm=(must fA >>= λ _=>kK):=by show(must fA >>= λ _=>jS [cG,dH,iM] >>= λ s=>if s=cG then MA else if s=dH then abN else Fk)=_;rw[abS];rfl
theorem abU:Ec=qa:=rfl
theorem Ed (ρ:bw)(w:World)(l:aK)(lg dp:Bool)(h:ρ.gh w l lg dp):Calls Tryz.prog 27 #[ρ.ptr] w (cQ ρ w lg dp bK l):=by
 obtain⟨tk,r,pl,_,hl,_⟩:=h.mN;generalize tk.w=t at hl;subst hl;by_cases hk:t.k=1
 ·by_cases h1:t.s=dw
  ·exact pF ρ w t r lg dp h 72 Ec (enters_of Tryz.func72 Tac rfl) (λ w2 lg dp h2=>MI ρ w2 _ lg dp h2) hk (by rw[h1];rfl) (by rw[abU];simp[bK,hk,h1])
  by_cases kG:t.s=fA
  ·exact pF ρ w t r lg dp h 67 dm (enters_of Tryz.func67 Tac rfl) (λ w2 lg dp h2=>MC ρ w2 _ lg dp h2) hk (by rw[kG];rfl) (by
    rw[abT,mU hk kG]
    unfold bK
    simp only[hk,not_true_eq_false,if_false]
    rw[if_neg h1,if_pos kG])
  by_cases sD:t.s=gu
  ·exact pF ρ w t r lg dp h 68 pD (enters_of Tryz.func68 Tac rfl) (λ w2 lg dp h2=>VC ρ w2 _ lg dp h2) hk (by rw[sD];rfl) (by
    rw[K1,mU hk sD]
    unfold bK
    simp only[hk,not_true_eq_false,if_false]
    rw[if_neg h1,if_neg kG,if_pos sD])
  by_cases nP:t.s=iw
  ·exact pF ρ w t r lg dp h 69 pG (enters_of Tryz.func69 Tac rfl) (λ w2 lg dp h2=>MG ρ w2 _ lg dp h2) hk (by rw[nP];rfl) (by
    rw[abQ,mU hk nP]
    unfold bK
    simp only[hk,not_true_eq_false,if_false]
    rw[if_neg h1,if_neg kG,if_neg sD,if_pos nP])
  by_cases pH:t.s=gJ
  ·exact pF ρ w t r lg dp h 70 og (enters_of Tryz.func70 Tac rfl) (λ w2 lg dp h2=>MH ρ w2 _ lg dp h2) hk (by rw[pH];rfl) (by
    rw[abR,mU hk pH]
    unfold bK
    simp only[hk,not_true_eq_false,if_false]
    rw[if_neg h1,if_neg kG,if_neg sD,if_neg nP,if_pos pH])
  by_cases rz:t.s=gK
  ·exact pF ρ w t r lg dp h 71 td (enters_of Tryz.func71 Tac rfl) (λ w2 lg dp h2=>MF ρ w2 _ lg dp h2) hk (by rw[rz];rfl) (by
    rw[abP,mU hk rz]
    unfold bK
    simp only[hk,not_true_eq_false,if_false]
    rw[if_neg h1,if_neg kG,if_neg sD,if_neg nP,if_neg pH,if_pos rz])
  by_cases Ee:t.s=lX
  ·exact pF ρ w t r lg dp h 73 fJ (enters_of Tryz.func73 Tac rfl) (λ w2 lg dp h2=>VH ρ w2 _ lg dp h2) hk (by rw[Ee];rfl) (by
    rw[J6,mU hk Ee]
    unfold bK
    simp only[hk,not_true_eq_false,if_false]
    rw[if_neg h1,if_neg kG,if_neg sD,if_neg nP,if_neg pH,if_neg rz,if_pos Ee])
  refine G6 ρ w t r lg dp h hk ?_ ?_
  ·have q:∀s:List UInt8,t.s≠s->(t.s==s)=false:=λ s hs=>by simpa using hs
   simp only[DZ,List.lookup,q _ (show t.s≠ [99,114,101,97,116,101] from kG),q _ (show t.s≠ [100,114,111,112] from sD),q _ (show t.s≠ [105,110,115,101,114,116] from nP),q _ (show t.s≠ [117,112,100,97,116,101] from pH),q _ (show t.s≠ [100,101,108,101,116,101] from rz),q _ (show t.s≠ [115,101,108,101,99,116] from h1),q _ (show t.s≠ [99,97,108,108] from Ee),Option.getD_none]
  ·unfold bK;simp only[hk,not_true_eq_false,if_false];rw[if_neg h1,if_neg kG,if_neg sD,if_neg nP,if_neg pH,if_neg rz,if_neg Ee]
 ·exact G5 ρ w t r lg dp h hk
variable{x:Nat}
theorem zeB.Kbd(h:p:=by
 have Kv:=hid hz0;rw[<- hz0] at kh;clear hz0;refine iX [] [_,_,_,_,_,_] rfl (λ i=>if i=0 then .agg z0 else if i=1 then .int .i64 p else .int .i64 x) [3,4,5] (λ vs w'=>oD w' q z0 (.int .i64 p) (.int .i64 x)/\Below q w w') (λ vs w' ⟨a,b⟩=>⟨⟨a.st.drew,a.at_.drew,a.er.drew⟩,b.drew⟩) ⟨kh,kg⟩ Tac Tac Tac Tac Tab rfl ?_ ?_
 ·refine⟨ZdW,?_,?_,?_,?_,?_,trivial⟩
  ·intro ρ w' vs hcs hG hr;have r0:ρ (.tmp 3)=.pointer (some ⟨q+1,0,none⟩):=hr.1;have hc:=hG.1.at_.cell 0;simp only[getElem?_toArray,getElem?_cons_zero] at hc;refine⟨rfl,?_⟩;show(execOp ρ _).run Tryz.prog w'=.ok (.value (.int .i64 p)) w';simp[execOp,r0,go_sem,hc]
  ·intro ρ w' vs hcs hG hr;have r0:ρ (.tmp 4)=.pointer (some ⟨q+2,0,none⟩):=hr.1;have hc:=hG.1.er.cell 0;simp only[getElem?_toArray,getElem?_cons_zero] at hc;refine⟨rfl,?_⟩;show(execOp ρ _).run Tryz.prog w'=.ok (.value (.int .i64 x)) w';simp[execOp,r0,go_sem,hc]
  ·intro ρ w' vs hcs hG hr;have r0:ρ (.tmp 2)=.pointer (some ⟨q,0,none⟩):=hr.1;have r1:ρ (.tmp 15)=.agg z0:=hr.2.1;refine⟨rfl,?_⟩;show vs.length=0->_;intro hl;obtain⟨a,b⟩:=hG;refine tL (w':=w'.setRow q z0) ?_ ?_
   ·unfold execOp;simp only[r0,r1,Instr.storeAt,Instr.sureAddr,Sem.run_bind,Sem.run_pure,Result.andThen_ok,run_storeVar_row w' q 34 34 z0 z0 a.st Ta1 rfl HZ1.out]
   ·rw[LO a.st];exact⟨a,b⟩
  ·intro ρ w' vs hcs hG hr;have r0:ρ (.tmp 3)=.pointer (some ⟨q+1,0,none⟩):=hr.1;have r1:ρ (.tmp 16)=.int .i64 p:=hr.2.1;refine⟨rfl,?_⟩;show vs.length=1->_;intro hl;obtain⟨a,b⟩:=hG;have hf:=a.at_.frozen 0;have hc:=a.at_.cell 0;simp only[getElem?_toArray,getElem?_cons_zero] at hc;have hlt:=a.lt;refine tL (w':=w'.setCell ⟨q+1,0,none⟩ (.int .i64 p)) (by simp[execOp,r0,r1,go_sem,hc,hf]) ?_;exact⟨⟨a.st.far (p:=⟨q+1,0,none⟩) Tad _,a.at_.cJ 0 _,a.er.far (p:=⟨q+1,0,none⟩) Tad _⟩,b.trans (aQ (p:=q+1) (bE (aD (Below.refl _ _)) 0 _) Taa Taa)⟩
  ·intro ρ w' vs hcs hG hr;have r0:ρ (.tmp 4)=.pointer (some ⟨q+2,0,none⟩):=hr.1;have r1:ρ (.tmp 17)=.int .i64 x:=hr.2.1;refine⟨rfl,?_⟩;show vs.length=2->_;intro hl;obtain⟨a,b⟩:=hG;have hf:=a.er.frozen 0;have hc:=a.er.cell 0;simp only[getElem?_toArray,getElem?_cons_zero] at hc;have hlt:=a.lt;refine tL (w':=w'.setCell ⟨q+2,0,none⟩ (.int .i64 x)) (by simp[execOp,r0,r1,go_sem,hc,hf]) ?_;exact⟨⟨a.st.far (p:=⟨q+2,0,none⟩) Tad _,a.at_.far (p:=⟨q+2,0,none⟩) Tad _,a.er.cJ 0 _⟩,b.trans (aQ (p:=q+2) (bE (aD (Below.refl _ _)) 0 _) Taa Taa)⟩
 ·intro vs w' hl hG;intro a0 z0' a1 z1 a2 z2;have z0':a0=.agg z0:=z0';have z1:a1=.int .i64 p:=z1;have z2:a2=.int .i64 x:=z2;subst z0' z1 z2;change wpList _ _ _ _ _ _;clear z0' z1 z2;go_wp2_with fail;refine Qo hG.1 Ku.out rfl rfl rfl ?_;unfold mn;rw[HP.out,Kv.out];exact⟨rfl,hq▸hG.2⟩):p:=h
theorem zgN.Kb6(h:p:=by
 have EY:=hid Qp;clear Qp b1 HL hC' K6;generalize hq:w.heap.size=q at*;go_upto_region 3 with fail
 have kh:oD ((w1.setCell ⟨q+1,0,none⟩ (.int .i64 p)).setCell ⟨q+2,0,none⟩ (.int .i64 x)) q cK (.int .i64 p) (.int .i64 x):=
  ⟨(EY.out.st.far (p:=⟨q+1,0,none⟩) Tad _).far (p:=⟨q+2,0,none⟩) Tad _,(EY.out.at_.cJ 0 _).far (p:=⟨q+2,0,none⟩) Tad _,(EY.out.er.far (p:=⟨q+1,0,none⟩) Tad _).cJ 0 _⟩
 have g1:w1.grownBy (w1.setCell ⟨q+1,0,none⟩ (.int .i64 p)) (some (q+1)):=bE (aD (Below.refl _ _)) 0 _;have g2:(w1.setCell ⟨q+1,0,none⟩ (.int .i64 p)).grownBy ((w1.setCell ⟨q+1,0,none⟩ (.int .i64 p)).setCell ⟨q+2,0,none⟩ (.int .i64 x)) (some (q+2)):=bE (aD (Below.refl _ _)) 0 _;have kg:Below q w ((w1.setCell ⟨q+1,0,none⟩ (.int .i64 p)).setCell ⟨q+2,0,none⟩ (.int .i64 x)):=(pQ.out.trans (aQ g1 Taa Taa)).trans (aQ g2 TaI Taa);clear g1 g2 e1 e2 f1 f2;change Code.wp _ _ _ _ ((w1.setCell ⟨q+1,0,none⟩ (.int .i64 p)).setCell ⟨q+2,0,none⟩ (.int .i64 x));generalize (w1.setCell _ _).setCell _ _=W at*;open zeB in exact Zcc):p:=h
theorem zde.KaL(h:p:=by have HL:=K4 h (hE.later hb3) hs;have K6:=hid hb3;have hC':=hid hC;clear hb3 hC h;go_wp2_with fail;refine HL.mono ?_;rintro e w1 ⟨rfl,b1⟩;open zgN in exact Zet):p:=h
theorem zb4.Kar(h:p:=by open zde in exact Zbc):p:=h
theorem K5(s:ByteArray)(w:World)(hE:lU w)(hs:s.size<=4294967280) {p:Nat}(h:kO s.data.toList=.error (p,x)):Calls Tryz.prog 14 #[.string s] w (mn s w):=by
 have hx:=GN h;have hx0:((x:Int) != 0)=true:=by rcases hx with rfl | rfl <;> rfl
 clear hx;have HP:=hid (UO h);open zb4 in exact ZaG
variable{l:List na}
theorem zhK.Kcx(h:p:=by rw[HPG.out,if_neg (by rw[Dn];simp),if_pos PU,Kv.out];exact⟨rfl,hq▸OB.trans (hb.mono (Nat.le_of_lt (Nat.lt_of_le_of_lt (Nat.le_add_right q 2) Xe.lt)))⟩):p:=h
theorem zdr.KaR(h:p:=by
 have g2:(W8.setCell ⟨q+1,0,none⟩ (.int .i64 0)).grownBy ((W8.setCell ⟨q+1,0,none⟩ (.int .i64 0)).setCell ⟨q+2,0,none⟩ (.int .i64 32)) (some (q+2)):=bE (aD (Below.refl _ _)) 0 _
 have Xe:oD ((W8.setCell ⟨q+1,0,none⟩ (.int .i64 0)).setCell ⟨q+2,0,none⟩ (.int .i64 32)) q z0 (.int .i64 0) (.int .i64 32):=
  ⟨(Bn.out.st.far (p:=⟨q+1,0,none⟩) Tad _).far (p:=⟨q+2,0,none⟩) Tad _,(Bn.out.at_.cJ 0 _).far (p:=⟨q+2,0,none⟩) Tad _,(Bn.out.er.far (p:=⟨q+1,0,none⟩) Tad _).cJ 0 _⟩
 open zhK in exact Zgj):p:=h
theorem zhL.Kcx(h:p:=by rw[HPG.out,if_pos Dn,Kv.out];exact⟨rfl,hq▸OB.trans (hb.mono (Nat.le_of_lt (Nat.lt_of_le_of_lt (Nat.le_add_right q 2) Xe.lt)))⟩):p:=h
theorem zds.KaR(h:p:=by
 have g2:(W8.setCell ⟨q+1,0,none⟩ (.int .i64 0)).grownBy ((W8.setCell ⟨q+1,0,none⟩ (.int .i64 0)).setCell ⟨q+2,0,none⟩ (.int .i64 2)) (some (q+2)):=bE (aD (Below.refl _ _)) 0 _
 have Xe:oD ((W8.setCell ⟨q+1,0,none⟩ (.int .i64 0)).setCell ⟨q+2,0,none⟩ (.int .i64 2)) q z0 (.int .i64 0) (.int .i64 2):=
  ⟨(Bn.out.st.far (p:=⟨q+1,0,none⟩) Tad _).far (p:=⟨q+2,0,none⟩) Tad _,(Bn.out.at_.cJ 0 _).far (p:=⟨q+2,0,none⟩) Tad _,(Bn.out.er.far (p:=⟨q+1,0,none⟩) Tad _).cJ 0 _⟩
 open zhL in exact Zgj):p:=h
theorem zh6.KcI(h:p:=by refine wpList_store_row rfl 34 (.tmp 2) (.tmp 44) rfl q z0 rfl rfl 34 cs NJ.out.st Ta1 (by rw[pg.out,Ku.out]) HZ1.out ?_;open zdr in exact Zbj):p:=h
theorem zh7.KcI(h:p:=by refine wpList_store_row rfl 34 (.tmp 2) (.tmp 38) rfl q z0 rfl rfl 34 cs NJ.out.st Ta1 (by rw[pg.out,Ku.out]) HZ1.out ?_;open zds in exact Zbj):p:=h
theorem zeC.Kbd(h:p:=by
 have Kv:=hid hz0;clear hz0;cases Dn:d.long
 ·cases PU:di d.exprs
  ·rw[Dn] at c2;rw[PU] at c3;go_upto_region 14 with fail;refine wp_region_lit ?_;refine wpList_load_row rfl 34 (.tmp 2) rfl q rfl 34 cs (0,0) _ NJ.out.st Tryz.underlying34 rfl Tbd ?_;simp only[Act.put,Uac];refine wpList_store_row rfl 34 (.tmp 2) (.tmp 45) rfl q cs rfl rfl 34 cs NJ.out.st Tbd rfl vp.out ?_;have Bn:=hid (show oD (w7.setRow q cs) q cs (.int .i64 0) (.int .i64 0)from⟨NJ.out.st.row cs,NJ.out.at_.ig Taa cs,NJ.out.er.ig Taa cs⟩);have HB8:=hid (UX.out.trans (aQ (cP w7 q cs) Taa (Nat.le_refl _)));have HS8:=hid (show w7.heap.size=(w7.setRow q cs).heap.size by rw[size_setRow]);have Fb:=hid (St.at_.keep (iZ w7 (show q < W3.heap.size by omega) cs) HA7.out);generalize w7.setRow q cs=W8 at*;have e1:=Bn.out.at_.cell 0;have e2:=Bn.out.er.cell 0;simp only[getElem?_toArray,getElem?_cons_zero] at e1 e2;have f1:=Bn.out.at_.frozen 0;have f2:=Bn.out.er.frozen 0;simp only[Act.put];go_wp2_with fail;have g1:W8.grownBy (W8.setCell ⟨q+1,0,none⟩ (.int .i64 0)) (some (q+1)):=bE (aD (Below.refl _ _)) 0 _;have g2:(W8.setCell ⟨q+1,0,none⟩ (.int .i64 0)).grownBy ((W8.setCell ⟨q+1,0,none⟩ (.int .i64 0)).setCell ⟨q+2,0,none⟩ (.int .i64 0)) (some (q+2)):=bE (aD (Below.refl _ _)) 0 _
   have Xe:oD ((W8.setCell ⟨q+1,0,none⟩ (.int .i64 0)).setCell ⟨q+2,0,none⟩ (.int .i64 0)) q cs (.int .i64 0) (.int .i64 0):=
    ⟨(Bn.out.st.far (p:=⟨q+1,0,none⟩) Tad _).far (p:=⟨q+2,0,none⟩) Tad _,(Bn.out.at_.cJ 0 _).far (p:=⟨q+2,0,none⟩) Tad _,(Bn.out.er.far (p:=⟨q+1,0,none⟩) Tad _).cJ 0 _⟩
   have anc:=Bn.out.lt;have OB:=(HB8.out.trans (aQ g1 Taa Taa)).trans (aQ g2 TaI Taa);refine Af Xe pg.out rfl rfl rfl λ w' hb=>?_
   unfold mn;rw[HPG.out,if_neg (by rw[Dn];simp),if_neg (by rw[PU];simp)];have k1:=St.at_.keep (fe g1 (show q+1 < W3.heap.size by omega)) Fb.out;have k2:=St.at_.keep (fe g2 (show q+2 < W3.heap.size by omega)) k1;have k3:=St.at_.keep (eJ hb) k2;have k4:=St.at_.keep (ir (show w.heap.size<=W3.heap.size by omega)) k3;exact⟨m,by rw[HCS.out];rfl,k4,hq▸OB.trans (hb.mono (Nat.le_of_lt (Nat.lt_of_le_of_lt (Nat.le_add_right q 2) Xe.lt)))⟩
  ·rw[Dn] at c2;rw[PU] at c3;go_upto_region 13 with fail;open zh6 in exact ZgJ
 ·rw[Dn] at c2;go_upto_region 11 with fail;open zh7 in exact ZgJ):p:=h
theorem zgO.Kb6(h:p:=by
 have ayO:w.heap.size+2 < gl:=by have:=hC'.out.lt;omega
 have EY:=hid Qp;have HTK:=hid hc;clear Qp b1 hC' K6 ht hc hgb;generalize hq:w.heap.size=q at*;have hx0:((0:Int) != 0)=false:=rfl;go_upto_region 4 with fail
 have kh:oD ((w1.setCell ⟨q+1,0,none⟩ (.int .i64 0)).setCell ⟨q+2,0,none⟩ (.int .i64 0)) q cK (.int .i64 0) (.int .i64 0):=
  ⟨(EY.out.st.far (p:=⟨q+1,0,none⟩) Tad _).far (p:=⟨q+2,0,none⟩) Tad _,(EY.out.at_.cJ 0 _).far (p:=⟨q+2,0,none⟩) Tad _,(EY.out.er.far (p:=⟨q+1,0,none⟩) Tad _).cJ 0 _⟩
 have g1:w1.grownBy (w1.setCell ⟨q+1,0,none⟩ (.int .i64 0)) (some (q+1)):=bE (aD (Below.refl _ _)) 0 _;have g2:(w1.setCell ⟨q+1,0,none⟩ (.int .i64 0)).grownBy ((w1.setCell ⟨q+1,0,none⟩ (.int .i64 0)).setCell ⟨q+2,0,none⟩ (.int .i64 0)) (some (q+2)):=bE (aD (Below.refl _ _)) 0 _;have kg:Below q w ((w1.setCell ⟨q+1,0,none⟩ (.int .i64 0)).setCell ⟨q+2,0,none⟩ (.int .i64 0)):=(pQ.out.trans (aQ g1 Taa Taa)).trans (aQ g2 TaI Taa)
 have amZ:∀k t,l[k]?=some t->((w1.setCell ⟨q+1,0,none⟩ (.int .i64 0)).setCell ⟨q+2,0,none⟩ (.int .i64 0)).cell? ⟨gl,k*4,none⟩=some (.int .u8 t.w.k)/\((w1.setCell ⟨q+1,0,none⟩ (.int .i64 0)).setCell ⟨q+2,0,none⟩ (.int .i64 0)).cell? ⟨gl,k*4+1,none⟩=some (.string ⟨t.w.s.toArray⟩)/\((w1.setCell ⟨q+1,0,none⟩ (.int .i64 0)).setCell ⟨q+2,0,none⟩ (.int .i64 0)).cell? ⟨gl,k*4+2,none⟩=some (.int .i64 t.w.n)/\((w1.setCell ⟨q+1,0,none⟩ (.int .i64 0)).setCell ⟨q+2,0,none⟩ (.int .i64 0)).cell? ⟨gl,k*4+3,none⟩=some (.int .i64 t.p):=by
  intro k t hk;have c:=λ o=>(cell_of_heap ((g2.block gl TaI (λ e=>by injection e with e;omega)).trans (g1.block gl xk (λ e=>by injection e with e;omega))) o:_)
  obtain⟨h1,h2,h3,h4⟩:=HTK.out k t hk;exact Zda
 have asm:gl <((w1.setCell ⟨q+1,0,none⟩ (.int .i64 0)).setCell ⟨q+2,0,none⟩ (.int .i64 0)).heap.size:=by have h1:=g1.size;have h2:=g2.size;omega
 clear g1 g2 e1 e2 f1 f2 HTK xk EY pQ hlt;change Code.wp _ _ _ _ ((w1.setCell ⟨q+1,0,none⟩ (.int .i64 0)).setCell ⟨q+2,0,none⟩ (.int .i64 0));generalize (w1.setCell _ _).setCell _ _=W at*;have hR:=bw.ahq (c:=c) asm amZ HEN.out hlen Yf.out (HE0.out.below kg);have hb4:=aa W (.cells #[.slice (some ⟨gl,0,none⟩) l.length c,.int .i64 0,.bool false,.bool false] 79);have HR:=hid hR;have HC3:=hid (kh.later hb4);have hqW:=kh.lt;have IW:=hid (kg.trans (hb4.mono (show q<=W.heap.size by omega)));clear amZ hR kh kg hb4;go_upto_region 6 with fail;change Code.wp _ _ _ _ (W.alloc (.cells #[.slice (some ⟨gl,0,none⟩) l.length c,.int .i64 0,.bool false,.bool false] 79));generalize hρ:(⟨W.heap.size,gl,c,l⟩:bw)=ρ at*;have aso:ρ.g=W.heap.size:=by rw[<- hρ]
 have ayP:ρ.gl=gl:=by rw[<- hρ]
 have Dj:ρ.ptr=.pointer (some ⟨W.heap.size,0,none⟩):=by rw[<- hρ];rfl
 have HPL:=hid (show∀n,ρ.placeOf n=((l[l.length - n]?).map (·.p)).getD 0 from λ n=>by rw[<- hρ];rfl);rw[<- Dj];clear hρ hx0;generalize hWA:(W.alloc _)=W3 at*;have hs3:W3.heap.size=W.heap.size+1:=by rw[<- hWA];simp
 clear hWA;generalize W.heap.size=g at*;have HPT:=hid Dj;clear Dj;have HS:=hid (Ed ρ W3 _ false false HR.out);go_wp2_with fail;refine HS.out.mono ?_;clear HS;intro e w4 hp;rcases GP.cases hp with ⟨d,r,v,aC,rfl,m,rfl,hat,dd⟩|⟨n,au,rfl,hgr⟩
 ·clear hp;simp only[Bool.false_or] at dd;have Xd:=HC3.out.grown dd.grown Taa;have hb4:=IW.out.trans (aQ dd.grown Taa Taa);obtain⟨cs,hcs⟩:∃cs,cs=(cd m).toArray:=⟨_,rfl⟩;have pg:=hid (show cs.size=28 by rw[hcs];rfl);have vp:=hid (show cs.all (·.oneCell')=true by rw[hcs];exact cW _);have HCS:=hid hcs;have hcr:oD (w4.setRow q cs) q cs (.int .i64 0) (.int .i64 0):=⟨Xd.st.row cs,Xd.at_.ig Taa cs,Xd.er.ig Taa cs⟩;have hbr:=hb4.trans (aQ (cP w4 q cs) (by have:=Xd.lt;omega) (Nat.le_refl _));have V0:=dd.at_.ahr (b:=q) cs Taa Taa ⟨q,by omega,HE0.out.below hbr⟩;have har:=St.at_.keep (iZ w4 (show q < W3.heap.size by omega) cs) hat;have HC4:=hid Xd;unfold mK;rw[<- hcs];clear hcs hat dd Xd hb4 HC3 IW HR;go_upto_region 7 with (first
   |(refine wpList_store_row rfl 34 (.tmp 2) (.tmp 23) rfl q cs rfl rfl 34 cK HC4.out.st Tbd (by rw[pg.out];rfl) vp.out ?_))
  clear HC4;generalize w4.setRow q cs=W5 at*;have HV:=hid (bz ρ W5 r d.long (di d.exprs) V0 ⟨#[59]⟩);have HC5:=hid hcr;have Va:=hid hbr;have FD:=hid har;clear hcr hbr har V0;go_wp2_with fail;refine HV.out.mono ?_;clear HV;rintro e w6 ⟨rfl,dd⟩;replace dd:bh ρ W5 w6 (ja zF r) d.long (di d.exprs):=dd;have FJ:=uo zF r;have hc6:=HC5.out.grown dd.grown Taa;have Yh:=Va.out.trans (aQ dd.grown (by have:=HC5.out.lt;omega) Taa);have ha6:=St.at_.keep (fe dd.grown (show ρ.g < W3.heap.size by omega)) FD.out;obtain⟨tk,r6,pl,rv,hl6,tI⟩:=dd.at_.mN;clear tI;have eX:=iD ρ w6 _ _ _ dd.at_;have DG:=jX ρ w6 _ _ _ dd.at_;rw[<- rv] at eX;rw[hl6] at FJ DG dd;have HD:=hid dd;have HN:=hid eX;have HFL:=hid DG;have HC6:=hid hc6;have Sa:=hid Yh;have Ck:=hid ha6;have jy:=hid aC;have HME:=hid FJ;clear dd eX DG hc6 Yh ha6 FJ rv hl6 HC5 Va FD aC;obtain⟨⟨k9,s9,n9⟩,p9⟩:=tk;simp only at HD HFL HME;unfold cA at HN;have Xa:=Aa (.int .u8 k9) (.string ⟨s9.toArray⟩) (.int .i64 n9) (.int .i64 p9);by_cases hk:k9=0
  ·have anb:zG (l.map (·.w))=.ok (d,⟨k9,s9,n9⟩::r6):=by refine(ag (f:=λ s=>may zF >>= λ _=>CS >>= λ _=>(pure s:Ps St)) jy.out).trans ?_;refine(ag (f:=λ _=>CS >>= λ _=>(pure d:Ps St)) HME.out).trans ?_;exact(ag (x:=()) (f:=λ _=>(pure d:Ps St)) (by simp only[CS,hk,if_true])).trans rfl
   have HPG:=hid (PC HLL.out anb);clear anb HFL;have BR:((k9:Int) != 0)=false:=by simp[hk]
   clear hk;go_wp2_with fail;refine HN.out.mono ?_;clear HN;rintro e w7 ⟨rfl,b7⟩;have Dj:=HPT.out;obtain⟨h70,h71,c2,c3,h72⟩:=(HD.out.at_.later b7).facts;clear h70 h71 h72;rw[aso] at c2 c3;have V9:=HC6.out.later b7;have hb7:=Sa.out.trans (b7.mono (show q<=w6.heap.size by have:=HC6.out.lt;omega));have ha7:=St.at_.keep (eJ b7) Ck.out;have ayU:=V9.lt;have NJ:=hid V9;have UX:=hid hb7;have HA7:=hid ha7;clear b7 V9 hb7 ha7 HC6 Sa Ck HD;open zeC in exact Zcc
  ·have BR:((k9:Int) != 0)=true:=by simp;omega
   have hpe:gw s.data.toList=.error (ρ.placeOf (⟨k9,s9,n9⟩::r6:aK).length,31):=by rw[GK (n:=(⟨k9,s9,n9⟩::r6:aK).length) HLL.out,<- HPL.out];refine(ag (f:=λ s=>may zF >>= λ _=>CS >>= λ _=>(pure s:Ps St)) jy.out).trans ?_;refine(ag (f:=λ _=>CS >>= λ _=>(pure d:Ps St)) HME.out).trans ?_;exact ak (by simp only[CS,hk,if_false])
   go_wp2_with fail;refine HN.out.mono ?_;clear HN HFL;rintro e w7 ⟨rfl,b7⟩;have V9:=HC6.out.later b7;have hb7:=Sa.out.trans (b7.mono (show q<=w6.heap.size by have:=HC6.out.lt;omega));have HFL:=hid (jX ρ w7 _ _ _ (HD.out.at_.later b7));have NJ:=hid V9;have UX:=hid hb7;clear b7 V9 hb7 HC6 Sa HD;go_wp2_with fail;refine HFL.out.mono ?_;rintro e w8 ⟨rfl,hgr⟩;have hc8:=NJ.out.grown hgr Taa;have hb8:=UX.out.trans (aQ hgr (by have:=NJ.out.lt;omega) Taa);refine Ef (N:=q) hc8 pg.out (Nat.le_refl _) (ρ.placeOf (⟨k9,s9,n9⟩::r6:aK).length) rfl rfl rfl λ w' hb=>?_
   unfold mn;rw[hpe];exact⟨rfl,hq▸hb8.trans hb⟩
 ·have Xd:=HC3.out.grown hgr Taa;have hpe:gw s.data.toList=.error (ρ.placeOf n,31):=by rw[GK HLL.out (ak au),<- HPL.out]
  have hb4:=IW.out.trans (aQ hgr Taa Taa);refine Ef (N:=q) Xd rfl (Nat.le_refl _) (ρ.placeOf n) rfl rfl rfl λ w' hb=>?_
  unfold mn;rw[hpe];exact⟨rfl,hq▸hb4.trans hb⟩):p:=h
theorem zdf.KaL(h:p:=by have HL:=abV hl (hE.later hb3) hs;have K6:=hid hb3;have hC':=hid hC;clear hb3 hC hl hE;go_wp2_with fail;refine HL.mono ?_;clear HL;rintro e w1 ⟨A,c,rfl,ht,b1⟩;obtain⟨gl,rfl,hgb,xk,hc⟩:=ht.cells hne;open zgO in exact Zet):p:=h
theorem zb5.Kar(h:p:=by open zdf in exact Zbc):p:=h
theorem K7(s:ByteArray)(w:World)(hE:lU w)(hs:s.size<=4294967280) (hl:kO s.data.toList=.ok l):Calls Tryz.prog 14 #[.string s] w (mn s w):=by
 obtain⟨t0,r0,hl0⟩:=UN hl;obtain⟨_,hlen,hwd⟩:=yC hl;have hne:l≠ []:=by rw[hl0];simp
 have HEN:=hid (GJ hl);have Yf:=hid hwd;have HLL:=hid hl;have HE0:=hid (Env.mk0 hE);clear hl0 hwd;open zb5 in exact ZaG
theorem Eg (s:ByteArray)(w:World)(hE:lU w)(hs:s.size<=4294967280):Calls Tryz.prog 14 #[.string s] w (mn s w):=by
 cases hl:kO s.data.toList with
 | error x=>obtain⟨p,x⟩:=x;exact K5 s w hE hs hl
 | ok l=>exact K7 s w hE hs hl
theorem Bo:∀l:List Tr,l.length<=Tr.aG l
 | []=>by simp
 | t::l=>by have:=Bo l;cases t;simp only[Tr.aG,Tr.nodes,length_cons];omega
variable{m:Nat}
theorem St.lens{s:St} (h:s.mB m)(hm:m<=1048576):s.exprs.length<=1000000/\s.rows.length<=1048576/\s.bg.length<=1048576/\s.bF.length<=1048576/\s.query.items.length<=1048576/\s.query.order.length<=1048576/\s.query.aN.length<=1048576:=by
 have h1:=h.nodes;have h2:=Bo s.exprs;have h3:s.exprs.length=s.rows.flatten.length+s.bF.length+s.aS.length+(s.query.items.length+s.query.aS.length+s.query.group.length+s.query.having.length+s.query.order.length):=by simp only[St.exprs,Qu.exprs,length_append,length_map]
 omega
end Go.Proofs.YtehhdlgjfdnafaaGreatDoor
