/- Parts of the proof. -/
import Derived.Test.YtehhdlgjfdnafaaGreatDoorXE30
namespace Go.Proofs.YtehhdlgjfdnafaaGreatDoor
variable{p:Prop}
set_option maxHeartbeats 90000000
set_option maxRecDepth 100000
open Go.Lib (hid)
open Go.ChangeShapes Go.WideShapes Go.ChangeAt Go.RowKit List
set_option linter.unusedVariables false
set_option linter.unusedSimpArgs false
def J6 (name:ByteArray)(rows:List (List Tr)):Ps St:=return { kind:=5,name,rows }
def J7 (name:ByteArray):Ps St:=do
 let rows <- dC rO
 J6 name rows
def J8 (name:ByteArray):Ps St:=do
 must iQ
 J7 name
def VD:Ps St:=do
 let name <- ct
 J8 name
def nT:Ps St:=fY [gD,eP] >>= λ _=>VD
theorem zcL.KaA(h:p:=by generalize w7.setRow (w.heap.size+1) cs=WF at*;go_wp2_with fail;exact bodyPost_ret (v:=.agg cs) (results_cell_row Tryz.results69 _ _ (w.heap.size+1) 34 cs (0,0) _ rfl qU.out Tryz.underlying34 rfl dy.out) rfl rT.out):p:=h
theorem zdG.KaU(h:p:=by refine wpList_store_row rfl 34 (.tmp 2) (.tmp 16) rfl (w.heap.size+1) cs rfl rfl 34 cF kI.out dy.out lD.out jq.out ?_;open zcL in exact ZaS):p:=h
theorem zbf.Kai(h:p:=by have tU:=hid (show av w7 b 34 cs by rw[hcs];exact HA.out.blk);have kI:=hid HA.out.sa.res;have rT:=hid (show cy ρ w lg dp nT l (.returned (.agg cs)) (w7.setRow (w.heap.size+1) cs) by rw[hcs];exact HA.out.post aZ HX.out);open zdG in exact Zbu):p:=h
theorem zdy.KaS(h:p:=by
 have hb:=aa WB (.cells (aK [iQ]) 9);have HB:=hid (HA.out.later hb);have jR:=HA.out.blk.lt;have p0:=HA.out.sa.ptr;have hm:=aR ρ _ l4 _ _ HB.out.sa.did.at_ [iQ] WB.heap.size 1 rfl (av.new WB _ _) Taa Taa;clear hb HA;unfold aK strOf at hm HB;simp only[map_cons,map_nil] at hm HB;rw[show iQ.toArray= #[118,97,108,117,101,115] from rfl] at hm HB;go_wp2_with fail;refine hm.mono ?_;clear hm p0;intro e w5 hp;rcases hp.cases with ⟨_,l6,v9,ay,rfl,rfl,d⟩|⟨m,au,rfl,hg⟩;case inr=>have HF:=hid (show nT l=.error m from HE.out.trans (ak (show must iQ l4=.error m by rw[<- ax];exact au)));have HG:=hid HB.out.sa.did.grown;clear hp au;go_wp2_with fail;exact aj rfl (GP.err HF.out ⟨rfl,ai HG.out hg⟩)
 have bH:=hid (show nT l=J7 nm l6 from HE.out.trans (ag (show must iQ l4=.ok ((),l6) by rw[<- ax];exact ay)));have HA:=hid (HB.out.go aZ d);clear hp ay d HB HE jR;have HE:=bH;clear bH;have p0:=HA.out.sa.ptr;have F:=HA.out.fit aZ 19 Tac
 have L:aad ρ w (λ r=>decide (64 < r.length)) (λ r=>cR r) rO 118 #[.pointer (some ⟨w.heap.size,0,none⟩),.pointer (some ⟨b,0,none⟩)] ((YM ρ w (w.heap.size+1) w.heap.size b { kind:=5,name:=nm } { kind:=5,name:=nm } 19).acc vh 24):=
  ⟨wZ,enters_of Tryz.func118 Tab rfl,λ acc a b hs hg _=>by obtain⟨v,h⟩:=hs;exact⟨v,h.grown F hg⟩,λ acc W l lg dp hn hs hd=>Qw _ F rfl rfl acc W l lg dp hn hs hd⟩
 have hm:=Bt ρ w (λ r=>decide (64 < r.length)) (λ r=>cR r) rO 118 #[.pointer (some ⟨w.heap.size,0,none⟩),.pointer (some ⟨b,0,none⟩)] _ L w5 l6 _ _ HA.out.sa.did (HA.out.start vh 24 19 rfl) aZ;clear L F;go_wp2_with fail;refine hm.mono ?_;clear hm p0;intro e w7 hp;unfold fp at hp
 cases hx:dC rO l6 with
 | error m=>rw[hx] at hp;obtain⟨rfl,hg⟩:=hp;have HF:=hid (show nT l=.error m from HE.out.trans (ak hx));exact Zcb
 | ok z=>obtain⟨rows,l8⟩:=z;rw[hx] at hp;obtain⟨rfl,hs,hd⟩:=hp;obtain⟨so,hA⟩:=HA.out.list (m':=λ so=> { kind:=5,name:=nm,rows:=so }) (d':= { kind:=5,name:=nm,rows:=rows }) hs hd (λ _=>rfl) (by simp[St.long,Qu.long,Bool.or_assoc,Bool.or_comm,Bool.or_left_comm]) Tai (λ so ja hat=> { hat with rows:=ja });have bH:=hid (show nT l=J6 nm rows l8 from HE.out.trans (ag hx));have eZ:=hid hA;clear hx hA hs hd HA HE;have HA:=eZ;have HE:=bH;clear eZ bH;go_upto_region 5 with fail;have HX:=hid (show nT l=.ok ({ kind:=5,name:=nm,rows:=rows },l8)from HE.out);obtain⟨cs,hcs⟩:∃cs,cs=(bI { kind:=5,name:=nm,rows:=so }).toArray:=⟨_,rfl⟩;open zbf in exact Zam):p:=h
theorem zhz.Kct(h:p:=by
 rcases hp.cases with ⟨nm,l4,v9,ay,rfl,rfl,d⟩|⟨m,au,rfl,hg⟩;case inr=>have HF:=hid (show nT l=.error m from HE.out.trans (ak au));have HG:=hid HS.out.did.grown;clear hp au;go_wp2_with fail;exact aj rfl (GP.err HF.out ⟨rfl,ai HG.out hg⟩)
 have bH:=hid (show nT l=J8 nm l4 from HE.out.trans (ag ay));clear hp ay HE;have HE:=bH;clear bH;have uG:=d.size;have pQ:=hid (HS.out.go aZ d);have hbq:=pQ.out.res.lt;obtain⟨cs,hcs⟩:∃cs,cs=(bI { kind:=5,name:=nm }).toArray:=⟨_,rfl⟩;have dy:=hid (show(Tryz.prog.info? 34).map (·.size)=some cs.size by rw[hcs];exact bT);have lD:=hid (show cF.size=cs.size by rw[hcs,br];exact br _);have jq:=hid (show cs.all (·.oneCell')=true by rw[hcs];exact cL _);have zy:=hid (show Tryz.prog.built 34 [(0,.int .u8 5),(1,.string nm)]=some cs by rw[hcs];exact lB _ _);have HA:=hid (show tT ρ w (w.heap.size+1) [w.heap.size] lg dp w3.heap.size (w3.alloc (.cells cs 34)) l4 { kind:=5,name:=nm } { kind:=5,name:=nm } by
  rw[hcs]
  exact pQ.out.start (lg2:=lg) (dp2:=dp) { kind:=5,name:=nm } { kind:=5,name:=nm } (λ p hp=>by simp at hp;subst hp;omega) Tal Tar Tal (λ W S=> { St.iR W S with kind:=rfl,name:=rfl }))
 open zdy in exact Zbm):p:=h
theorem zfX.KbM(h:p:=by
 have hb:=aa W0 (.cells (aK [gD,eP]) 9);have HB:=hid (HS.out.later hb);have jR:=HS.out.res.lt;have p0:=HS.out.ptr;have hm:=aR ρ _ l _ _ HB.out.did.at_ [gD,eP] W0.heap.size 2 rfl (av.new W0 _ _) Taa Taa;clear hb HS;unfold aK strOf at hm HB;simp only[map_cons,map_nil] at hm HB;rw[show gD.toArray= #[105,110,115,101,114,116] from rfl,show eP.toArray= #[105,110,116,111] from rfl] at hm HB;go_wp2_with fail;refine hm.mono ?_;clear hm p0;intro e w1 hp;rcases hp.cases with ⟨_,l2,v9,ay,rfl,rfl,d⟩|⟨m,au,rfl,hg⟩;case inr=>have HF:=hid (show nT l=.error m from HE.out.trans (ak (show fY [gD,eP] l=.error m from au)));have HG:=hid HB.out.did.grown;clear hp au;go_wp2_with fail;exact aj rfl (GP.err HF.out ⟨rfl,ai HG.out hg⟩)
 have bH:=hid (show nT l=VD l2 from HE.out.trans (ag (show fY [gD,eP] l=.ok (_,l2)from ay)));open zhz in exact Zgb):p:=h
theorem zcB.Kaz(h:p:=by have HE:=hid (show nT l=(fY [gD,eP] >>= λ _=>VD) l from rfl);clear h b2 hP hR;go_enter Tryz.func69,Tryz.ntmps69;open zfX in exact ZdU):p:=h
theorem Jo (ρ:bj)(w:World)(l:aF)(lg dp:Bool)(h:ρ.fy w l lg dp):
  Calls Tryz.prog 69 #[ρ.ptr] w (cy ρ w lg dp nT l):=by
 open zcB in exact ZaR
def qR:Ps St:=do
 let _ <- fY [fL,bZ]
 let name <- ct
 let aP <- gj cV
 return { kind:=7,name,aP }
def J4 (name:ByteArray)(aP:List Tr):Ps St:=return { kind:=7,name,aP }
def J5 (name:ByteArray):Ps St:=do
 let aP <- gj cV
 J4 name aP
def VC:Ps St:=do
 let name <- ct
 J5 name
theorem zcM.KaA(h:p:=by generalize W7.setRow (w.heap.size) cs=WF at*;go_wp2_with fail;exact bodyPost_ret (v:=.agg cs) (results_cell_row Tryz.results71 _ _ (w.heap.size) 34 cs (0,0) _ rfl qU.out Tryz.underlying34 rfl dy.out) rfl rT.out):p:=h
theorem zdH.KaU(h:p:=by refine wpList_store_row rfl 34 (.tmp 2) (.tmp 13) rfl (w.heap.size) cs rfl rfl 34 cF kI.out dy.out lD.out jq.out ?_;open zcM in exact ZaS):p:=h
theorem zbg.Kai(h:p:=by have tU:=hid (show av W7 b 34 cs by rw[hcs];exact HA.out.blk);have kI:=hid HA.out.sa.res;have rT:=hid (show cy ρ w lg dp qR l (.returned (.agg cs)) (W7.setRow (w.heap.size) cs) by rw[hcs];exact HA.out.post aZ HX.out);open zdH in exact Zbu):p:=h
theorem zdw.KaS(h:p:=by
 go_wp2_with fail;refine(yo ρ WB l4 _ _ HA.out.sa.did.at_ cV ⟨#[119,104,101,114,101]⟩ rfl).mono ?_;intro e w5 hp;rcases GP.cases hp with ⟨aP,l6,v9,ay,rfl,⟨A,n,c⟩,rfl,ja,d⟩|⟨m,au,rfl,hg⟩;case inr=>have HF:=hid (show qR l=.error m from HE.out.trans (ak au));have HG:=hid HA.out.sa.did.grown;clear hp au;go_wp2_with fail;exact aj rfl (GP.err HF.out ⟨rfl,ai HG.out hg⟩)
 have bH:=hid (show qR l=J4 nm aP l6 from HE.out.trans (ag ay));clear hp ay HE;have HE:=bH;clear bH;have jR:=HA.out.blk.lt;have hX:=d.blk HA.out.blk Taf;have hc:w5.cell? ⟨b,21,none⟩=_:=hX.cell 21;have hf:w5.frozen? ⟨b,21,none⟩=_:=hX.frozen 21;have eZ:=hid (HA.out.set (m':= { kind:=7,name:=nm,aP:=⟨A,n,c⟩}) (d':= { kind:=7,name:=nm,aP:=aP }) aZ d 21 (.slice A n c) rfl Tau Tai (λ hat=> { hat with aP:=El.lies.more ja Taa}));clear hX d HA;have HA:=eZ;clear eZ;unfold bI jE eU fg at hc;try unfold eU
 go_upto_region 4 with fail;clear hc hf;generalize w5.setCell _ _=W7 at*;obtain⟨aaB,D8⟩:∃s:Sl,s=⟨A,n,c⟩:=⟨_,rfl⟩;rw[<- D8] at HA;clear D8 jR ja;have HX:=hid (show qR l=.ok ({ kind:=7,name:=nm,aP:=aP },l6)from HE.out);obtain⟨cs,hcs⟩:∃cs,cs=(bI { kind:=7,name:=nm,aP:=aaB }).toArray:=⟨_,rfl⟩;open zbg in exact Zam):p:=h
theorem zek.Ka7(h:p:=by
 have hb:=aa W0 (.cells (aK [fL,bZ]) 9);have HB:=hid (HS.out.later hb);have jR:=HS.out.res.lt;have hm:=aR ρ _ l _ _ HB.out.did.at_ [fL,bZ] W0.heap.size 2 rfl (av.new W0 _ _) Taa Taa;clear hb HS;unfold aK strOf at hm HB;simp only[map_cons,map_nil] at hm HB;rw[show fL.toArray= #[100,101,108,101,116,101] from rfl,show bZ.toArray= #[102,114,111,109] from rfl] at hm HB;go_wp2_with fail;refine hm.mono ?_;clear hm;intro e w1 hp;rcases hp.cases with ⟨_,l2,v9,ay,rfl,rfl,d⟩|⟨m,au,rfl,hg⟩;case inr=>have HF:=hid (show qR l=.error m from HE.out.trans (ak (show fY [fL,bZ] l=.error m from au)));have HG:=hid HB.out.did.grown;clear hp au;go_wp2_with fail;exact aj rfl (GP.err HF.out ⟨rfl,ai HG.out hg⟩)
 have bH:=hid (show qR l=VC l2 from HE.out.trans (ag (show fY [fL,bZ] l=.ok (_,l2)from ay)));have HS:=hid (HB.out.go aZ d);clear hp ay d HB HE jR;have HE:=bH;clear bH;go_wp2_with fail;refine(dN ρ w1 l2 _ _ HS.out.did.at_).mono ?_;intro e w3 hp;rcases hp.cases with ⟨nm,l4,v9,ay,rfl,rfl,d⟩|⟨m,au,rfl,hg⟩;case inr=>have HF:=hid (show qR l=.error m from HE.out.trans (ak au));have HG:=hid HS.out.did.grown;clear hp au;go_wp2_with fail;exact aj rfl (GP.err HF.out ⟨rfl,ai HG.out hg⟩)
 have bH:=hid (show qR l=J5 nm l4 from HE.out.trans (ag ay));clear hp ay HE;have HE:=bH;clear bH;have uG:=d.size;have pQ:=hid (HS.out.go aZ d);have hbq:=pQ.out.res.lt;obtain⟨cs,hcs⟩:∃cs,cs=(bI { kind:=7,name:=nm }).toArray:=⟨_,rfl⟩;have dy:=hid (show(Tryz.prog.info? 34).map (·.size)=some cs.size by rw[hcs];exact bT);have lD:=hid (show cF.size=cs.size by rw[hcs,br];exact br _);have jq:=hid (show cs.all (·.oneCell')=true by rw[hcs];exact cL _);have zy:=hid (show Tryz.prog.built 34 [(0,.int .u8 7),(1,.string nm)]=some cs by rw[hcs];exact lB _ _);have HA:=hid (show tT ρ w (w.heap.size) [] lg dp w3.heap.size (w3.alloc (.cells cs 34)) l4 { kind:=7,name:=nm } { kind:=7,name:=nm } by
  rw[hcs]
  exact pQ.out.start (lg2:=lg) (dp2:=dp) { kind:=7,name:=nm } { kind:=7,name:=nm } (λ p hp=>by simp at hp) Tal Tar Tal (λ W S=> { St.iR W S with kind:=rfl,name:=rfl }))
 open zdw in exact Zbm):p:=h
theorem zeE.Kbd(h:p:=by have HE:=hid (show qR l=(fY [fL,bZ] >>= λ _=>VC) l from rfl);clear h b1;go_enter Tryz.func71,Tryz.ntmps71;open zek in exact Zb0):p:=h
theorem Jn (ρ:bj)(w:World)(l:aF)(lg dp:Bool)(h:ρ.fy w l lg dp):
  Calls Tryz.prog 71 #[ρ.ptr] w (cy ρ w lg dp qR l):=by
 open zeE in exact Zcc
def BC:Ps St:=cQ >>= λ query=>(pure { kind:=8,query }:Ps St)
theorem zel.Ka7(h:p:=by
 go_wp2_with fail;refine(Bv ρ W0 l _ _ HS.out.did.at_).mono ?_;intro e w1 hp;rcases GP.cases hp with ⟨qd,l2,v9,ay,rfl,qy,rfl,hat,d⟩|⟨m,au,rfl,hg⟩;case inr=>have HF:=hid (show BC l=.error m from HE.out.trans (ak au));have HG:=hid HS.out.did.grown;clear hp au;go_wp2_with fail;exact aj rfl (GP.err HF.out ⟨rfl,ai HG.out hg⟩)
 have bH:=hid (show BC l=.ok ({ kind:=8,query:=qd },l2)from HE.out.trans ((ag ay).trans rfl));clear hp ay HE;obtain⟨cs,hcs⟩:∃cs,cs=(bI { kind:=8,query:=qy }).toArray:=⟨_,rfl⟩;have dy:=hid (show(Tryz.prog.info? 34).map (·.size)=some cs.size by rw[hcs];exact bT);have lD:=hid (show cF.size=cs.size by rw[hcs,br];exact br _);have jq:=hid (show cs.all (·.oneCell')=true by rw[hcs];exact cL _);have zy:=hid (show Tryz.prog.built 34 [(0,.int .u8 8),(7,GJ qy)]=some cs by rw[hcs];exact Mb _);have kI:=hid (d.blk HS.out.res Taa);have rT:=hid (show cy ρ w lg dp BC l (.returned (.agg cs)) (w1.setRow w.heap.size cs) by
  rw[hcs]
  refine GP.ok bH.out ⟨_,rfl,{ St.iR _ _ with kind:=rfl,query:=Qu.at_.keep (gy Taa) (Qu.at_.keep (ie w1 (show w.heap.size < W0.heap.size by omega) _) hat)},?_⟩
  have hD:=(HS.out.did.trans d).own aZ (cx w1 w.heap.size (bI { kind:=8,query:=qy }).toArray) (λ G e=>by injection e with e;omega)
  simpa [St.long,St.exprs,Qu.long,Qu.exprs,cR,any_append,any_map] using hD)
 clear d hat HS bH hcs;generalize GJ qy=qv at*;go_wp2_with (first
  |(refine gO rfl 34 _ rfl (cs:=cs) ?hv ?_;rotate_left)
  |(refine wpList_store_row rfl 34 (.tmp 2) (.tmp 5) rfl w.heap.size cs rfl rfl 34 cF kI.out dy.out lD.out jq.out ?_
    have qU:=hid (kI.out.row cs)))
 case hv=>exact zy.out
 exact bodyPost_ret (v:=.agg cs) (results_cell_row Tryz.results72 _ _ w.heap.size 34 cs (0,0) _ rfl qU.out Tryz.underlying34 rfl dy.out) rfl rT.out):p:=h
theorem zeF.Kbd(h:p:=by have HE:=hid (show BC l=(cQ >>= λ query=>(pure { kind:=8,query }:Ps St)) l from rfl);clear h b1;go_enter Tryz.func72,Tryz.ntmps72;open zel in exact Zb0):p:=h
theorem Jq (ρ:bj)(w:World)(l:aF)(lg dp:Bool)(h:ρ.fy w l lg dp):
  Calls Tryz.prog 72 #[ρ.ptr] w (cy ρ w lg dp BC l):=by
 open zeF in exact Zcc
variable{s:List UInt8}{P:Ps St}{t:Wd}{r:aF}
theorem lF(hk:t.k=1)(ht:t.s=s):(must s >>= λ _=>P) (t::r)=P r:=by
 rw[ag (x:=()) (r:=r)];have:fW s t=true:=by simp[fW,hk,ht]
 simp[must,ar,this]
theorem YS:qR=(must fL >>= λ _=>yT):=by show(fY [fL,bZ] >>= λ _=>VC)=_;rw[<- xu];rfl
theorem YT:nT=(must gD >>= λ _=>yR):=by unfold nT;rw[<- xu];rfl
theorem YU:mF=(must gF >>= λ _=>yS):=rfl
theorem VF:nR=(must fT >>= λ _=>Mq):=rfl
theorem YV:Ji=EC:=by
 have e3:NB=λ name aY=>must aG >>= λ _=>must kR >>= λ _=>Vr name aY:=by funext name aY;exact(xu _ _ _).symm
 show(ct >>= λ name=>must bp >>= λ _=>dC gW >>= λ aY=>NB name aY)=EC;rw[e3];rfl
theorem YW:cK=(must eN >>= λ _=>lG):=by show(must eN >>= λ _=>jU [cm,dc,gR] >>= λ s=>if s=cm then Ji else if s=dc then YQ else Oh)=_;rw[YV];rfl
theorem YX:BC=yU:=rfl
theorem BD (ρ:bj)(w:World)(l:aF)(lg dp:Bool)(h:ρ.fy w l lg dp):Calls Tryz.prog 27 #[ρ.ptr] w (cy ρ w lg dp bQ l):=by
 obtain⟨tk,r,pl,_,hl,_⟩:=h.lp;generalize tk.w=t at hl;subst hl;by_cases hk:t.k=1
 ·by_cases h1:t.s=cA
  ·exact nS ρ w t r lg dp h 72 BC (enters_of Tryz.func72 Tab rfl) (λ w2 lg dp h2=>Jq ρ w2 _ lg dp h2) hk (by rw[h1];rfl) (by rw[YX];simp[bQ,hk,h1])
  by_cases jB:t.s=eN
  ·exact nS ρ w t r lg dp h 67 cK (enters_of Tryz.func67 Tab rfl) (λ w2 lg dp h2=>Jk ρ w2 _ lg dp h2) hk (by rw[jB];rfl) (by
    rw[YW,lF hk jB]
    unfold bQ
    simp only[hk,not_true_eq_false,if_false]
    rw[if_neg h1,if_pos jB])
  by_cases qJ:t.s=fT
  ·exact nS ρ w t r lg dp h 68 nR (enters_of Tryz.func68 Tab rfl) (λ w2 lg dp h2=>QA ρ w2 _ lg dp h2) hk (by rw[qJ];rfl) (by
    rw[VF,lF hk qJ]
    unfold bQ
    simp only[hk,not_true_eq_false,if_false]
    rw[if_neg h1,if_neg jB,if_pos qJ])
  by_cases ml:t.s=gD
  ·exact nS ρ w t r lg dp h 69 nT (enters_of Tryz.func69 Tab rfl) (λ w2 lg dp h2=>Jo ρ w2 _ lg dp h2) hk (by rw[ml];rfl) (by
    rw[YT,lF hk ml]
    unfold bQ
    simp only[hk,not_true_eq_false,if_false]
    rw[if_neg h1,if_neg jB,if_neg qJ,if_pos ml])
  by_cases nU:t.s=gF
  ·exact nS ρ w t r lg dp h 70 mF (enters_of Tryz.func70 Tab rfl) (λ w2 lg dp h2=>Jp ρ w2 _ lg dp h2) hk (by rw[nU];rfl) (by
    rw[YU,lF hk nU]
    unfold bQ
    simp only[hk,not_true_eq_false,if_false]
    rw[if_neg h1,if_neg jB,if_neg qJ,if_neg ml,if_pos nU])
  by_cases pS:t.s=fL
  ·exact nS ρ w t r lg dp h 71 qR (enters_of Tryz.func71 Tab rfl) (λ w2 lg dp h2=>Jn ρ w2 _ lg dp h2) hk (by rw[pS];rfl) (by
    rw[YS,lF hk pS]
    unfold bQ
    simp only[hk,not_true_eq_false,if_false]
    rw[if_neg h1,if_neg jB,if_neg qJ,if_neg ml,if_neg nU,if_pos pS])
  by_cases BF:t.s=kQ
  ·exact nS ρ w t r lg dp h 73 fe (enters_of Tryz.func73 Tab rfl) (λ w2 lg dp h2=>QF ρ w2 _ lg dp h2) hk (by rw[BF];rfl) (by
    rw[VA,lF hk BF]
    unfold bQ
    simp only[hk,not_true_eq_false,if_false]
    rw[if_neg h1,if_neg jB,if_neg qJ,if_neg ml,if_neg nU,if_neg pS,if_pos BF])
  refine Vj ρ w t r lg dp h hk ?_ ?_
  ·have q:∀s:List UInt8,t.s≠s->(t.s==s)=false:=λ s hs=>by simpa using hs
   simp only[Bz,List.lookup,q _ (show t.s≠ [99,114,101,97,116,101] from jB),q _ (show t.s≠ [100,114,111,112] from qJ),q _ (show t.s≠ [105,110,115,101,114,116] from ml),q _ (show t.s≠ [117,112,100,97,116,101] from nU),q _ (show t.s≠ [100,101,108,101,116,101] from pS),q _ (show t.s≠ [115,101,108,101,99,116] from h1),q _ (show t.s≠ [99,97,108,108] from BF),Option.getD_none]
  ·unfold bQ;simp only[hk,not_true_eq_false,if_false];rw[if_neg h1,if_neg jB,if_neg qJ,if_neg ml,if_neg nU,if_neg pS,if_neg BF]
 ·exact Vi ρ w t r lg dp h hk
variable{x:Nat}
theorem zez.Kbc(h:p:=by
 have BM:=hid hz0;rw[<- hz0] at jo;clear hz0;refine gZ [] [_,_,_,_,_,_] rfl (λ i=>if i=0 then .agg z0 else if i=1 then .int .i64 p else .int .i64 x) [3,4,5] (λ vs w'=>mS w' q z0 (.int .i64 p) (.int .i64 x)/\Below q w w') (λ vs w' ⟨a,b⟩=>⟨⟨a.st.drew,a.at_.drew,a.er.drew⟩,b.drew⟩) ⟨jo,jn⟩ Tab Tab Tab Tab Tac rfl ?_ ?_
 ·refine⟨ZdQ,?_,?_,?_,?_,?_,trivial⟩
  ·intro ρ w' vs hcs hG hr;have r0:ρ (.tmp 3)=.pointer (some ⟨q+1,0,none⟩):=hr.1;have hc:=hG.1.at_.cell 0;simp only[getElem?_toArray,getElem?_cons_zero] at hc;refine⟨rfl,?_⟩;show(execOp ρ _).run Tryz.prog w'=.ok (.value (.int .i64 p)) w';simp[execOp,r0,go_sem,hc]
  ·intro ρ w' vs hcs hG hr;have r0:ρ (.tmp 4)=.pointer (some ⟨q+2,0,none⟩):=hr.1;have hc:=hG.1.er.cell 0;simp only[getElem?_toArray,getElem?_cons_zero] at hc;refine⟨rfl,?_⟩;show(execOp ρ _).run Tryz.prog w'=.ok (.value (.int .i64 x)) w';simp[execOp,r0,go_sem,hc]
  ·intro ρ w' vs hcs hG hr;have r0:ρ (.tmp 2)=.pointer (some ⟨q,0,none⟩):=hr.1;have r1:ρ (.tmp 15)=.agg z0:=hr.2.1;refine⟨rfl,?_⟩;show vs.length=0->_;intro hl;obtain⟨a,b⟩:=hG;refine rE (w':=w'.setRow q z0) ?_ ?_
   ·unfold execOp;simp only[r0,r1,Instr.storeAt,Instr.sureAddr,Sem.run_bind,Sem.run_pure,Result.andThen_ok,run_storeVar_row w' q 34 34 z0 z0 a.st TaY rfl HZ1.out]
   ·rw[Ir a.st];exact⟨a,b⟩
  ·intro ρ w' vs hcs hG hr;have r0:ρ (.tmp 3)=.pointer (some ⟨q+1,0,none⟩):=hr.1;have r1:ρ (.tmp 16)=.int .i64 p:=hr.2.1;refine⟨rfl,?_⟩;show vs.length=1->_;intro hl;obtain⟨a,b⟩:=hG;have hf:=a.at_.frozen 0;have hc:=a.at_.cell 0;simp only[getElem?_toArray,getElem?_cons_zero] at hc;have hlt:=a.lt;refine rE (w':=w'.setCell ⟨q+1,0,none⟩ (.int .i64 p)) (by simp[execOp,r0,r1,go_sem,hc,hf]) ?_;exact⟨⟨a.st.far (p:=⟨q+1,0,none⟩) Tae _,a.at_.cr 0 _,a.er.far (p:=⟨q+1,0,none⟩) Tae _⟩,b.trans (aJ (p:=q+1) (bn (az (Below.refl _ _)) 0 _) Taa Taa)⟩
  ·intro ρ w' vs hcs hG hr;have r0:ρ (.tmp 4)=.pointer (some ⟨q+2,0,none⟩):=hr.1;have r1:ρ (.tmp 17)=.int .i64 x:=hr.2.1;refine⟨rfl,?_⟩;show vs.length=2->_;intro hl;obtain⟨a,b⟩:=hG;have hf:=a.er.frozen 0;have hc:=a.er.cell 0;simp only[getElem?_toArray,getElem?_cons_zero] at hc;have hlt:=a.lt;refine rE (w':=w'.setCell ⟨q+2,0,none⟩ (.int .i64 x)) (by simp[execOp,r0,r1,go_sem,hc,hf]) ?_;exact⟨⟨a.st.far (p:=⟨q+2,0,none⟩) Tae _,a.at_.far (p:=⟨q+2,0,none⟩) Tae _,a.er.cr 0 _⟩,b.trans (aJ (p:=q+2) (bn (az (Below.refl _ _)) 0 _) Taa Taa)⟩
 ·intro vs w' hl hG;intro a0 YO a1 z1 a2 z2;have YO:a0=.agg z0:=YO;have z1:a1=.int .i64 p:=z1;have z2:a2=.int .i64 x:=z2;subst YO z1 z2;change wpList _ _ _ _ _ _;clear YO z1 z2;go_wp2_with fail;refine Mg hG.1 BV.out rfl rfl rfl ?_;unfold lM;rw[HP.out,BM.out];exact⟨rfl,hq▸hG.2⟩):p:=h
theorem zgB.Kb2(h:p:=by
 have BN:=hid Mh;clear Mh b1 HL hC' VJ;generalize hq:w.heap.size=q at*;go_upto_region 3 with fail
 have jo:mS ((w1.setCell ⟨q+1,0,none⟩ (.int .i64 p)).setCell ⟨q+2,0,none⟩ (.int .i64 x)) q cF (.int .i64 p) (.int .i64 x):=
  ⟨(BN.out.st.far (p:=⟨q+1,0,none⟩) Tae _).far (p:=⟨q+2,0,none⟩) Tae _,(BN.out.at_.cr 0 _).far (p:=⟨q+2,0,none⟩) Tae _,(BN.out.er.far (p:=⟨q+1,0,none⟩) Tae _).cr 0 _⟩
 have g1:w1.grownBy (w1.setCell ⟨q+1,0,none⟩ (.int .i64 p)) (some (q+1)):=bn (az (Below.refl _ _)) 0 _;have g2:(w1.setCell ⟨q+1,0,none⟩ (.int .i64 p)).grownBy ((w1.setCell ⟨q+1,0,none⟩ (.int .i64 p)).setCell ⟨q+2,0,none⟩ (.int .i64 x)) (some (q+2)):=bn (az (Below.refl _ _)) 0 _;have jn:Below q w ((w1.setCell ⟨q+1,0,none⟩ (.int .i64 p)).setCell ⟨q+2,0,none⟩ (.int .i64 x)):=(mn.out.trans (aJ g1 Taa Taa)).trans (aJ g2 TaI Taa);clear g1 g2 e1 e2 f1 f2;change Code.wp _ _ _ _ ((w1.setCell ⟨q+1,0,none⟩ (.int .i64 p)).setCell ⟨q+2,0,none⟩ (.int .i64 x));generalize (w1.setCell _ _).setCell _ _=W at*;open zez in exact Zca):p:=h
theorem zde.KaL(h:p:=by have HL:=VH h (hE.later hb3) hs;have VJ:=hid hb3;have hC':=hid hC;clear hb3 hC h;go_wp2_with fail;refine HL.mono ?_;rintro e w1 ⟨rfl,b1⟩;open zgB in exact Zen):p:=h
theorem zb6.Kas(h:p:=by open zde in exact Zbb):p:=h
theorem VI(s:ByteArray)(w:World)(hE:kg w)(hs:s.size<=4294967280) {p:Nat}(h:kP s.data.toList=.error (p,x)):Calls Tryz.prog 14 #[.string s] w (lM s w):=by
 have hx:=PX h;have hx0:((x:Int) != 0)=true:=by rcases hx with rfl | rfl <;> rfl
 clear hx;have HP:=hid (PO h);open zb6 in exact ZaH
variable{l:List mA}
theorem zhA.Kcu(h:p:=by rw[HPG.out,if_neg (by rw[Co];simp),if_pos UL,BM.out];exact⟨rfl,hq▸KR.trans (hb.mono (Nat.le_of_lt (Nat.lt_of_le_of_lt (Nat.le_add_right q 2) QV.lt)))⟩):p:=h
theorem zdn.KaP(h:p:=by
 have g2:(W8.setCell ⟨q+1,0,none⟩ (.int .i64 0)).grownBy ((W8.setCell ⟨q+1,0,none⟩ (.int .i64 0)).setCell ⟨q+2,0,none⟩ (.int .i64 32)) (some (q+2)):=bn (az (Below.refl _ _)) 0 _
 have QV:mS ((W8.setCell ⟨q+1,0,none⟩ (.int .i64 0)).setCell ⟨q+2,0,none⟩ (.int .i64 32)) q z0 (.int .i64 0) (.int .i64 32):=
  ⟨(yr.out.st.far (p:=⟨q+1,0,none⟩) Tae _).far (p:=⟨q+2,0,none⟩) Tae _,(yr.out.at_.cr 0 _).far (p:=⟨q+2,0,none⟩) Tae _,(yr.out.er.far (p:=⟨q+1,0,none⟩) Tae _).cr 0 _⟩
 open zhA in exact Zgc):p:=h
theorem zhB.Kcu(h:p:=by rw[HPG.out,if_pos Co,BM.out];exact⟨rfl,hq▸KR.trans (hb.mono (Nat.le_of_lt (Nat.lt_of_le_of_lt (Nat.le_add_right q 2) QV.lt)))⟩):p:=h
theorem zdo.KaP(h:p:=by
 have g2:(W8.setCell ⟨q+1,0,none⟩ (.int .i64 0)).grownBy ((W8.setCell ⟨q+1,0,none⟩ (.int .i64 0)).setCell ⟨q+2,0,none⟩ (.int .i64 2)) (some (q+2)):=bn (az (Below.refl _ _)) 0 _
 have QV:mS ((W8.setCell ⟨q+1,0,none⟩ (.int .i64 0)).setCell ⟨q+2,0,none⟩ (.int .i64 2)) q z0 (.int .i64 0) (.int .i64 2):=
  ⟨(yr.out.st.far (p:=⟨q+1,0,none⟩) Tae _).far (p:=⟨q+2,0,none⟩) Tae _,(yr.out.at_.cr 0 _).far (p:=⟨q+2,0,none⟩) Tae _,(yr.out.er.far (p:=⟨q+1,0,none⟩) Tae _).cr 0 _⟩
 open zhB in exact Zgc):p:=h
theorem zhS.KcD(h:p:=by refine wpList_store_row rfl 34 (.tmp 2) (.tmp 44) rfl q z0 rfl rfl 34 cs JB.out.st TaY (by rw[nE.out,BV.out]) HZ1.out ?_;open zdn in exact Zbg):p:=h
theorem zhT.KcD(h:p:=by refine wpList_store_row rfl 34 (.tmp 2) (.tmp 38) rfl q z0 rfl rfl 34 cs JB.out.st TaY (by rw[nE.out,BV.out]) HZ1.out ?_;open zdo in exact Zbg):p:=h
theorem zeA.Kbc(h:p:=by
 have BM:=hid hz0;clear hz0;cases Co:d.long
 ·cases UL:cR d.exprs
  ·rw[Co] at c2;rw[UL] at c3;go_upto_region 14 with fail;refine wp_region_lit ?_;refine wpList_load_row rfl 34 (.tmp 2) rfl q rfl 34 cs (0,0) _ JB.out.st Tryz.underlying34 rfl Tbb ?_;simp only[Act.put,Uac];refine wpList_store_row rfl 34 (.tmp 2) (.tmp 45) rfl q cs rfl rfl 34 cs JB.out.st Tbb rfl rk.out ?_;have yr:=hid (show mS (w7.setRow q cs) q cs (.int .i64 0) (.int .i64 0)from⟨JB.out.st.row cs,JB.out.at_.gu Taa cs,JB.out.er.gu Taa cs⟩);have K5:=hid (Wy.out.trans (aJ (cx w7 q cs) Taa (Nat.le_refl _)));have HS8:=hid (show w7.heap.size=(w7.setRow q cs).heap.size by rw[size_setRow]);have zu:=hid (St.at_.keep (ie w7 (show q < W3.heap.size by omega) cs) YH.out);generalize w7.setRow q cs=W8 at*;have e1:=yr.out.at_.cell 0;have e2:=yr.out.er.cell 0;simp only[getElem?_toArray,getElem?_cons_zero] at e1 e2;have f1:=yr.out.at_.frozen 0;have f2:=yr.out.er.frozen 0;simp only[Act.put];go_wp2_with fail;have g1:W8.grownBy (W8.setCell ⟨q+1,0,none⟩ (.int .i64 0)) (some (q+1)):=bn (az (Below.refl _ _)) 0 _;have g2:(W8.setCell ⟨q+1,0,none⟩ (.int .i64 0)).grownBy ((W8.setCell ⟨q+1,0,none⟩ (.int .i64 0)).setCell ⟨q+2,0,none⟩ (.int .i64 0)) (some (q+2)):=bn (az (Below.refl _ _)) 0 _
   have QV:mS ((W8.setCell ⟨q+1,0,none⟩ (.int .i64 0)).setCell ⟨q+2,0,none⟩ (.int .i64 0)) q cs (.int .i64 0) (.int .i64 0):=
    ⟨(yr.out.st.far (p:=⟨q+1,0,none⟩) Tae _).far (p:=⟨q+2,0,none⟩) Tae _,(yr.out.at_.cr 0 _).far (p:=⟨q+2,0,none⟩) Tae _,(yr.out.er.far (p:=⟨q+1,0,none⟩) Tae _).cr 0 _⟩
   have afP:=yr.out.lt;have KR:=(K5.out.trans (aJ g1 Taa Taa)).trans (aJ g2 TaI Taa);refine xD QV nE.out rfl rfl rfl λ w' hb=>?_
   unfold lM;rw[HPG.out,if_neg (by rw[Co];simp),if_neg (by rw[UL];simp)];have k1:=St.at_.keep (eF g1 (show q+1 < W3.heap.size by omega)) zu.out;have k2:=St.at_.keep (eF g2 (show q+2 < W3.heap.size by omega)) k1;have k3:=St.at_.keep (fE hb) k2;have k4:=St.at_.keep (gy (show w.heap.size<=W3.heap.size by omega)) k3;exact⟨m,by rw[U5.out];rfl,k4,hq▸KR.trans (hb.mono (Nat.le_of_lt (Nat.lt_of_le_of_lt (Nat.le_add_right q 2) QV.lt)))⟩
  ·rw[Co] at c2;rw[UL] at c3;go_upto_region 13 with fail;open zhS in exact ZgB
 ·rw[Co] at c2;go_upto_region 11 with fail;open zhT in exact ZgB):p:=h
theorem zgC.Kb2(h:p:=by
 have aqG:w.heap.size+2 < gl:=by have:=hC'.out.lt;omega
 have BN:=hid Mh;have L5:=hid hc;clear Mh b1 hC' VJ ht hc hgb;generalize hq:w.heap.size=q at*;have hx0:((0:Int) != 0)=false:=rfl;go_upto_region 4 with fail
 have jo:mS ((w1.setCell ⟨q+1,0,none⟩ (.int .i64 0)).setCell ⟨q+2,0,none⟩ (.int .i64 0)) q cF (.int .i64 0) (.int .i64 0):=
  ⟨(BN.out.st.far (p:=⟨q+1,0,none⟩) Tae _).far (p:=⟨q+2,0,none⟩) Tae _,(BN.out.at_.cr 0 _).far (p:=⟨q+2,0,none⟩) Tae _,(BN.out.er.far (p:=⟨q+1,0,none⟩) Tae _).cr 0 _⟩
 have g1:w1.grownBy (w1.setCell ⟨q+1,0,none⟩ (.int .i64 0)) (some (q+1)):=bn (az (Below.refl _ _)) 0 _;have g2:(w1.setCell ⟨q+1,0,none⟩ (.int .i64 0)).grownBy ((w1.setCell ⟨q+1,0,none⟩ (.int .i64 0)).setCell ⟨q+2,0,none⟩ (.int .i64 0)) (some (q+2)):=bn (az (Below.refl _ _)) 0 _;have jn:Below q w ((w1.setCell ⟨q+1,0,none⟩ (.int .i64 0)).setCell ⟨q+2,0,none⟩ (.int .i64 0)):=(mn.out.trans (aJ g1 Taa Taa)).trans (aJ g2 TaI Taa)
 have afM:∀k t,l[k]?=some t->((w1.setCell ⟨q+1,0,none⟩ (.int .i64 0)).setCell ⟨q+2,0,none⟩ (.int .i64 0)).cell? ⟨gl,k*4,none⟩=some (.int .u8 t.w.k)/\((w1.setCell ⟨q+1,0,none⟩ (.int .i64 0)).setCell ⟨q+2,0,none⟩ (.int .i64 0)).cell? ⟨gl,k*4+1,none⟩=some (.string ⟨t.w.s.toArray⟩)/\((w1.setCell ⟨q+1,0,none⟩ (.int .i64 0)).setCell ⟨q+2,0,none⟩ (.int .i64 0)).cell? ⟨gl,k*4+2,none⟩=some (.int .i64 t.w.n)/\((w1.setCell ⟨q+1,0,none⟩ (.int .i64 0)).setCell ⟨q+2,0,none⟩ (.int .i64 0)).cell? ⟨gl,k*4+3,none⟩=some (.int .i64 t.p):=by
  intro k t hk;have c:=λ o=>(cell_of_heap ((g2.block gl TaI (λ e=>by injection e with e;omega)).trans (g1.block gl uK (λ e=>by injection e with e;omega))) o:_)
  obtain⟨h1,h2,h3,h4⟩:=L5.out k t hk;exact Zc6
 have akm:gl <((w1.setCell ⟨q+1,0,none⟩ (.int .i64 0)).setCell ⟨q+2,0,none⟩ (.int .i64 0)).heap.size:=by have h1:=g1.size;have h2:=g2.size;omega
 clear g1 g2 e1 e2 f1 f2 L5 uK BN mn hlt;change Code.wp _ _ _ _ ((w1.setCell ⟨q+1,0,none⟩ (.int .i64 0)).setCell ⟨q+2,0,none⟩ (.int .i64 0));generalize (w1.setCell _ _).setCell _ _=W at*;have hR:=bj.aaC (c:=c) akm afM HEN.out hlen Tt.out (HE0.out.below jn);have hb4:=aa W (.cells #[.slice (some ⟨gl,0,none⟩) l.length c,.int .i64 0,.bool false,.bool false] 79);have HR:=hid hR;have HC3:=hid (jo.later hb4);have hqW:=jo.lt;have yX:=hid (jn.trans (hb4.mono (show q<=W.heap.size by omega)));clear afM hR jo jn hb4;go_upto_region 6 with fail;change Code.wp _ _ _ _ (W.alloc (.cells #[.slice (some ⟨gl,0,none⟩) l.length c,.int .i64 0,.bool false,.bool false] 79));generalize hρ:(⟨W.heap.size,gl,c,l⟩:bj)=ρ at*;have ako:ρ.g=W.heap.size:=by rw[<- hρ]
 have aqH:ρ.gl=gl:=by rw[<- hρ]
 have AD:ρ.ptr=.pointer (some ⟨W.heap.size,0,none⟩):=by rw[<- hρ];rfl
 have Q1:=hid (show∀n,ρ.placeOf n=((l[l.length - n]?).map (·.p)).getD 0 from λ n=>by rw[<- hρ];rfl);rw[<- AD];clear hρ hx0;generalize hWA:(W.alloc _)=W3 at*;have hs3:W3.heap.size=W.heap.size+1:=by rw[<- hWA];simp
 clear hWA;generalize W.heap.size=g at*;have HPT:=hid AD;clear AD;have HS:=hid (BD ρ W3 _ false false HR.out);go_wp2_with fail;refine HS.out.mono ?_;clear HS;intro e w4 hp;rcases GP.cases hp with ⟨d,r,v,ay,rfl,m,rfl,hat,dd⟩|⟨n,au,rfl,hgr⟩
 ·clear hp;simp only[Bool.false_or] at dd;have QU:=HC3.out.grown dd.grown Taa;have hb4:=yX.out.trans (aJ dd.grown Taa Taa);obtain⟨cs,hcs⟩:∃cs,cs=(bI m).toArray:=⟨_,rfl⟩;have nE:=hid (show cs.size=28 by rw[hcs];rfl);have rk:=hid (show cs.all (·.oneCell')=true by rw[hcs];exact cL _);have U5:=hid hcs;have hcr:mS (w4.setRow q cs) q cs (.int .i64 0) (.int .i64 0):=⟨QU.st.row cs,QU.at_.gu Taa cs,QU.er.gu Taa cs⟩;have hbr:=hb4.trans (aJ (cx w4 q cs) (by have:=QU.lt;omega) (Nat.le_refl _));have VZ:=dd.at_.aaD (b:=q) cs Taa Taa ⟨q,by omega,HE0.out.below hbr⟩;have ZA:=St.at_.keep (ie w4 (show q < W3.heap.size by omega) cs) hat;have HC4:=hid QU;unfold mC;rw[<- hcs];clear hcs hat dd QU hb4 HC3 yX HR;go_upto_region 7 with (first
   |(refine wpList_store_row rfl 34 (.tmp 2) (.tmp 23) rfl q cs rfl rfl 34 cF HC4.out.st Tbb (by rw[nE.out];rfl) rk.out ?_))
  clear HC4;generalize w4.setRow q cs=W5 at*;have HV:=hid (bk ρ W5 r d.long (cR d.exprs) VZ ⟨#[59]⟩);have HC5:=hid hcr;have E7:=hid hbr;have Cx:=hid ZA;clear hcr hbr ZA VZ;go_wp2_with fail;refine HV.out.mono ?_;clear HV;rintro e w6 ⟨rfl,dd⟩;replace dd:aU ρ W5 w6 (ig wL r) d.long (cR d.exprs):=dd;have CC:=sB wL r;have hc6:=HC5.out.grown dd.grown Taa;have Tv:=E7.out.trans (aJ dd.grown (by have:=HC5.out.lt;omega) Taa);have ha6:=St.at_.keep (eF dd.grown (show ρ.g < W3.heap.size by omega)) Cx.out;obtain⟨tk,r6,pl,oa,hl6,rB⟩:=dd.at_.lp;clear rB;have eB:=gL ρ w6 _ _ _ dd.at_;have Bh:=jk ρ w6 _ _ _ dd.at_;rw[<- oa] at eB;rw[hl6] at CC Bh dd;have HD:=hid dd;have HN:=hid eB;have Zh:=hid Bh;have HC6:=hid hc6;have VL:=hid Tv;have zt:=hid ha6;have iI:=hid ay;have HME:=hid CC;clear dd eB Bh hc6 Tv ha6 CC oa hl6 HC5 E7 Cx ay;obtain⟨⟨k9,s9,n9⟩,p9⟩:=tk;simp only at HD Zh HME;unfold bV at HN;have QO:=xy (.int .u8 k9) (.string ⟨s9.toArray⟩) (.int .i64 n9) (.int .i64 p9);by_cases hk:k9=0
  ·have afO:wQ (l.map (·.w))=.ok (d,⟨k9,s9,n9⟩::r6):=by refine(ag (f:=λ s=>may wL >>= λ _=>zU >>= λ _=>(pure s:Ps St)) iI.out).trans ?_;refine(ag (f:=λ _=>zU >>= λ _=>(pure d:Ps St)) HME.out).trans ?_;exact(ag (x:=()) (f:=λ _=>(pure d:Ps St)) (by simp only[zU,hk,if_true])).trans rfl
   have HPG:=hid (Ls HLL.out afO);clear afO Zh;have yu:((k9:Int) != 0)=false:=by simp[hk]
   clear hk;go_wp2_with fail;refine HN.out.mono ?_;clear HN;rintro e w7 ⟨rfl,b7⟩;have AD:=HPT.out;obtain⟨h70,h71,c2,c3,h72⟩:=(HD.out.at_.later b7).facts;clear h70 h71 h72;rw[ako] at c2 c3;have Wh:=HC6.out.later b7;have Xz:=VL.out.trans (b7.mono (show q<=w6.heap.size by have:=HC6.out.lt;omega));have ha7:=St.at_.keep (fE b7) zt.out;have aqM:=Wh.lt;have JB:=hid Wh;have Wy:=hid Xz;have YH:=hid ha7;clear b7 Wh Xz ha7 HC6 VL zt HD;open zeA in exact Zca
  ·have yu:((k9:Int) != 0)=true:=by simp;omega
   have hpe:kU s.data.toList=.error (ρ.placeOf (⟨k9,s9,n9⟩::r6:aF).length,31):=by rw[DF (n:=(⟨k9,s9,n9⟩::r6:aF).length) HLL.out,<- Q1.out];refine(ag (f:=λ s=>may wL >>= λ _=>zU >>= λ _=>(pure s:Ps St)) iI.out).trans ?_;refine(ag (f:=λ _=>zU >>= λ _=>(pure d:Ps St)) HME.out).trans ?_;exact ak (by simp only[zU,hk,if_false])
   go_wp2_with fail;refine HN.out.mono ?_;clear HN Zh;rintro e w7 ⟨rfl,b7⟩;have Wh:=HC6.out.later b7;have Xz:=VL.out.trans (b7.mono (show q<=w6.heap.size by have:=HC6.out.lt;omega));have Zh:=hid (jk ρ w7 _ _ _ (HD.out.at_.later b7));have JB:=hid Wh;have Wy:=hid Xz;clear b7 Wh Xz HC6 VL HD;go_wp2_with fail;refine Zh.out.mono ?_;rintro e w8 ⟨rfl,hgr⟩;have hc8:=JB.out.grown hgr Taa;have hb8:=Wy.out.trans (aJ hgr (by have:=JB.out.lt;omega) Taa);refine BG (N:=q) hc8 nE.out (Nat.le_refl _) (ρ.placeOf (⟨k9,s9,n9⟩::r6:aF).length) rfl rfl rfl λ w' hb=>?_
   unfold lM;rw[hpe];exact⟨rfl,hq▸hb8.trans hb⟩
 ·have QU:=HC3.out.grown hgr Taa;have hpe:kU s.data.toList=.error (ρ.placeOf n,31):=by rw[DF HLL.out (ak au),<- Q1.out]
  have hb4:=yX.out.trans (aJ hgr Taa Taa);refine BG (N:=q) QU rfl (Nat.le_refl _) (ρ.placeOf n) rfl rfl rfl λ w' hb=>?_
  unfold lM;rw[hpe];exact⟨rfl,hq▸hb4.trans hb⟩):p:=h
theorem zdf.KaL(h:p:=by have HL:=YY hl (hE.later hb3) hs;have VJ:=hid hb3;have hC':=hid hC;clear hb3 hC hl hE;go_wp2_with fail;refine HL.mono ?_;clear HL;rintro e w1 ⟨A,c,rfl,ht,b1⟩;obtain⟨gl,rfl,hgb,uK,hc⟩:=ht.cells hne;open zgC in exact Zen):p:=h
theorem zb7.Kas(h:p:=by open zdf in exact Zbb):p:=h
theorem VK(s:ByteArray)(w:World)(hE:kg w)(hs:s.size<=4294967280) (hl:kP s.data.toList=.ok l):Calls Tryz.prog 14 #[.string s] w (lM s w):=by
 obtain⟨t0,r0,hl0⟩:=PN hl;obtain⟨_,hlen,hwd⟩:=zm hl;have hne:l≠ []:=by rw[hl0];simp
 have HEN:=hid (DD hl);have Tt:=hid hwd;have HLL:=hid hl;have HE0:=hid (Env.mk0 hE);clear hl0 hwd;open zb7 in exact ZaH
theorem Mi (s:ByteArray)(w:World)(hE:kg w)(hs:s.size<=4294967280):Calls Tryz.prog 14 #[.string s] w (lM s w):=by
 cases hl:kP s.data.toList with
 | error x=>obtain⟨p,x⟩:=x;exact VI s w hE hs hl
 | ok l=>exact VK s w hE hs hl
end Go.Proofs.YtehhdlgjfdnafaaGreatDoor
