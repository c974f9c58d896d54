/- Parts of the proof. -/
import Derived.Test.YtehhdlgjfdnafaaGreatDoorXF26
namespace Go.Proofs.YtehhdlgjfdnafaaGreatDoor
variable{p:Prop}
set_option maxHeartbeats 90000000
set_option maxRecDepth 100000
open Go.Lib (hid)
open Go.ChangeShapes Go.WideShapes Go.ChangeAt Go.RowKit List
set_option linter.unusedVariables false
set_option linter.unusedSimpArgs false
theorem bB (m:gT):(cd m).toArray.size=28:=by simp[cd,kL,fZ]
theorem Bk (ρ:bw)(w:World)(l:aK)(lg dp:Bool)(h:ρ.gh w l lg dp)(s:List UInt8)(t:ByteArray)(ht:t=⟨s.toArray⟩):
 Calls Tryz.prog 122 #[ρ.ptr,.string t] w (E1 ρ w lg dp s l):=by subst ht;exact xp ρ w l lg dp h s
variable{P:Program}{ops:Array Oper}{rest:List Oper}{o:Oper}{a:Act}{w:World}{Q:Exit->Act->World->Prop}{cs:Array Value}
theorem iF(hg:o.guard=none)(t:TypeId)(parts:Array (Nat×Operand))(ho:o.op=.build t parts) 
  (hv:P.built t (parts.map λ(i,x)=>(i,a.eval x)).toList=some cs) (h:wpList P ops Q rest (a.put o.dst (.agg cs)) w):wpList P ops Q (o::rest) a w:=
 wpList_build hg t parts ho (by rw[hv];rfl) (by rw[hv];exact h)
theorem mS (k:Int)(nm:ByteArray):Tryz.prog.built 34 [(0,.int .u8 k),(1,.string nm)]=some (cd { kind:=k,name:=nm }).toArray:=by kernel_rfl
theorem Qj (qy:mv):Tryz.prog.built 34 [(0,.int .u8 8),(7,IU qy)]=some (cd { kind:=8,query:=qy }).toArray:=by kernel_rfl
theorem Qk (k:Int)(nm:ByteArray):Tryz.prog.built 34 [(0,.int .u8 4),(8,.int .u8 k),(1,.string nm)]=some (cd { kind:=4,what:=k,name:=nm }).toArray:=by kernel_rfl
theorem iG (w:World)(c0 cs:Array Value)(T:TypeId):(w.alloc (.cells c0 T)).setRow w.heap.size cs=w.alloc (.cells cs T):=by
 have hh:((w.alloc (.cells c0 T)).setRow w.heap.size cs).heap=(w.alloc (.cells cs T)).heap:=by
  apply Array.ext_getElem?;intro i;by_cases hi:i=w.heap.size
  ·subst hi;exact(setRow_heap _ _ c0 cs T (0,0) (av.new w T c0)).trans (av.new w T cs).symm
  ·rw[setRow_other _ _ _ cs hi];by_cases h2:i < w.heap.size
   ·exact((aa w (.cells c0 T)).block i h2).trans ((aa w (.cells cs T)).block i h2).symm
   ·rw[Array.getElem?_eq_none (by rw[World.size_alloc];omega),Array.getElem?_eq_none (by rw[World.size_alloc];omega)]
 have hw:∀a b:World,a.heap=b.heap->a.tape=b.tape->a.drawn=b.drawn->a.os=b.os->a.output=b.output->a=b:=by intro a b h1 h2 h3 h4 h5;cases a;cases b;simp only at h1 h2 h3 h4 h5;subst h1 h2 h3 h4 h5;rfl
 exact hw _ _ hh rfl rfl rfl rfl
def VD:List (List UInt8×Value):=[([99,111,109,112,114,101,115,115],.int .u8 10),([100,114,111,112],.int .u8 12)]
def RV (name:ByteArray)(what:Int)(cM:ByteArray)(ab:Int×Int)(every:Int):Ps St:=return { kind:=3,name,what,cM,a:=ab.1,b:=ab.2,every }
def RX (name:ByteArray)(what:Int)(cM:ByteArray)(ab:Int×Int):Ps St:=do
 let every <- lZ
 RV name what cM ab every
variable{ρ:bw}{wr w2:World}{q b G:Nat}{lg dp:Bool}{l:aK}{m:gT}{d:St}
theorem wu.VA(A:wu ρ w q [] lg dp b wr l m d)(hg:ρ.g < w.heap.size)(h:wr.grownBy w2 (some G))(hG:wr.heap.size<=G):wu ρ w q [] lg dp b w2 l m d:=by have hq:=A.qb;have hw:=A.sa.qw;have hl:=A.blk.lt;refine⟨⟨A.sa.did.own hg h (λ G' e=>by injection e with e;omega),A.sa.res.grown h Tae,hw,λ p hp=>by simp at hp⟩,A.blk.grown h Tae,St.at_.keep (λ x hx=>?_) A.at_,A.qb,A.pb⟩;have h1:=hx.2;exact⟨cell_of_heap (h.block x h1 (λ e=>by injection e with e;omega)),hx.1,Nat.lt_of_lt_of_le h1 h.size⟩
def Hb (name:ByteArray)(what:Int)(cM:ByteArray)(ab:Int×Int):Ps St:=do
 must cx
 RX name what cM ab
def aen (name cM:ByteArray)(a:Int):Ps St:=lZ >>= λ b=>Hb name 9 cM (a,b)
def aeo (name cM:ByteArray)(a:Int):Ps St:=must CR >>= λ _=>aen name cM a
def G8 (name cM:ByteArray):Ps St:=lZ >>= λ a=>aeo name cM a
def Hc (name:ByteArray)(what:Int)(cM:ByteArray):Ps St:=lZ >>= λ a=>Hb name what cM (a,0)
def Bl (name:ByteArray)(s:List UInt8)(cM:ByteArray):Ps St:=do
 let ab <- tV s
 Hb name (if s=bV then 9 else if s=bQ then 10 else 12) cM ab
def aep (name:ByteArray)(s:List UInt8):Ps St:=do
 let cM <- cC
 Bl name s cM
def G9 (name:ByteArray):Ps St:=do
 let s <- jS [bV,bQ,gu]
 aep name s
def dF:Ps St:=cC >>= λ name=>G9 name
theorem amQ (name cM:ByteArray):Bl name bV cM=(must cD >>= λ _=>G8 name cM):=by unfold Bl tV;rw[if_pos rfl,if_pos rfl];simp only[ji];rfl
theorem ahd (name cM:ByteArray):Bl name bQ cM=(must fg >>= λ _=>Hc name 10 cM):=by unfold Bl tV;rw[if_neg Tab,if_neg Tab,if_pos rfl];simp only[ji];rfl
theorem ahe (name cM:ByteArray):Bl name gu cM=(must fg >>= λ _=>Hc name 12 cM):=by unfold Bl tV;rw[if_neg Tab,if_neg Tab,if_neg Tab];simp only[ji];rfl
theorem zcA.Kaz(h:p:=by generalize W23.setRow (w.heap.size) cs=WF at*;exact ZbY):p:=h
theorem zdF.KaW(h:p:=by refine wpList_store_row rfl 34 (.tmp 2) (.tmp 47) rfl (w.heap.size) cs rfl rfl 34 cK mC.out dS.out mF.out jN.out ?_;open zcA in exact ZaS):p:=h
theorem za4.Kah(h:p:=by have wy:=hid (show av W23 b 34 cs by rw[hcs];exact HA.out.blk);have mC:=hid HA.out.sa.res;have tX:=hid (show cQ ρ w lg dp dF l (.returned (.agg cs)) (W23.setRow (w.heap.size) cs) by rw[hcs];exact HA.out.post br HX.out);open zdF in exact Zbw):p:=h
theorem zcB.Kaz(h:p:=by generalize W17.setRow (w.heap.size) cs=WF at*;exact ZbY):p:=h
theorem zdG.KaW(h:p:=by refine wpList_store_row rfl 34 (.tmp 2) (.tmp 47) rfl (w.heap.size) cs rfl rfl 34 cK mC.out dS.out mF.out jN.out ?_;open zcB in exact ZaS):p:=h
theorem za5.Kah(h:p:=by have wy:=hid (show av W17 b 34 cs by rw[hcs];exact HA.out.blk);have mC:=hid HA.out.sa.res;have tX:=hid (show cQ ρ w lg dp dF l (.returned (.agg cs)) (W17.setRow (w.heap.size) cs) by rw[hcs];exact HA.out.post br HX.out);open zdG in exact Zbw):p:=h
theorem zcC.Kaz(h:p:=by generalize W17.setRow (w.heap.size) cs=WF at*;exact ZbY):p:=h
theorem zdH.KaW(h:p:=by refine wpList_store_row rfl 34 (.tmp 2) (.tmp 47) rfl (w.heap.size) cs rfl rfl 34 cK mC.out dS.out mF.out jN.out ?_;open zcC in exact ZaS):p:=h
theorem za6.Kah(h:p:=by have wy:=hid (show av W17 b 34 cs by rw[hcs];exact HA.out.blk);have mC:=hid HA.out.sa.res;have tX:=hid (show cQ ρ w lg dp dF l (.returned (.agg cs)) (W17.setRow (w.heap.size) cs) by rw[hcs];exact HA.out.post br HX.out);open zdH in exact Zbw):p:=h
theorem ziC.KcW(h:p:=by generalize w15.setCell _ _=W17 at*;have HX:=hid (show dF l=.ok ({ kind:=3,name:=nm,cM:=cM,what:=10,a:=a,every:=every },l16)from HE.out);obtain⟨cs,hcs⟩:∃cs,cs=(cd { kind:=3,name:=nm,cM:=cM,what:=10,a:=a,every:=every }).toArray:=⟨_,rfl⟩;open za5 in exact Zal):p:=h
theorem zg8.Kcg(h:p:=by have fH:=hid (HA.out.set (m':= { kind:=3,name:=nm,cM:=cM,what:=10,a:=a,every:=every }) (d':= { kind:=3,name:=nm,cM:=cM,what:=10,a:=a,every:=every }) br d 4 (.int .i64 every) rfl (rfl) (rfl) (λ hat=> { hat with every:=rfl }));open ziC in exact Zhn):p:=h
theorem zed.Ka6(h:p:=by have cf:=hid (show dF l=RV nm 10 cM (a,0) every l16 from HE.out.trans (ag aC));open zg8 in exact Ze1):p:=h
theorem zcU.KaD(h:p:=by have cf:=hid (show dF l=RX nm 10 cM (a,0) RT from HE.out.trans (ag (show must cx l11=.ok ((),RT) by rw[<- aB];exact aC)));open zed in exact ZbV):p:=h
theorem ziD.KcW(h:p:=by generalize w15.setCell _ _=W17 at*;have HX:=hid (show dF l=.ok ({ kind:=3,name:=nm,cM:=cM,what:=12,a:=a,every:=every },l16)from HE.out);obtain⟨cs,hcs⟩:∃cs,cs=(cd { kind:=3,name:=nm,cM:=cM,what:=12,a:=a,every:=every }).toArray:=⟨_,rfl⟩;open za6 in exact Zal):p:=h
theorem zg9.Kcg(h:p:=by have fH:=hid (HA.out.set (m':= { kind:=3,name:=nm,cM:=cM,what:=12,a:=a,every:=every }) (d':= { kind:=3,name:=nm,cM:=cM,what:=12,a:=a,every:=every }) br d 4 (.int .i64 every) rfl (rfl) (rfl) (λ hat=> { hat with every:=rfl }));open ziD in exact Zhn):p:=h
theorem zee.Ka6(h:p:=by have cf:=hid (show dF l=RV nm 12 cM (a,0) every l16 from HE.out.trans (ag aC));open zg9 in exact Ze1):p:=h
theorem zcV.KaD(h:p:=by have cf:=hid (show dF l=RX nm 12 cM (a,0) RT from HE.out.trans (ag (show must cx l11=.ok ((),RT) by rw[<- aB];exact aC)));open zee in exact ZbV):p:=h
theorem zg2.Kcd(h:p:=by have fH:=hid (HA.out.set (m':= { kind:=3,name:=nm,cM:=cM,what:=10,a:=a }) (d':= { kind:=3,name:=nm,cM:=cM,what:=10,a:=a }) br d 17 (.int .i64 a) rfl (rfl) (rfl) (λ hat=> { hat with a:=rfl }));open zcU in exact Za0):p:=h
theorem zey.Kbc(h:p:=by have cf:=hid (show dF l=Hb nm 10 cM (a,0) l11 from HE.out.trans (ag aC));open zg2 in exact ZeT):p:=h
theorem zdp.KaQ(h:p:=by have cf:=hid (show dF l=Hc nm 10 cM l9 from HE.out.trans (ag (show must fg l6=.ok ((),l9) by rw[<- aB];exact aC)));open zey in exact Zb9):p:=h
theorem zg3.Kcd(h:p:=by have fH:=hid (HA.out.set (m':= { kind:=3,name:=nm,cM:=cM,what:=12,a:=a }) (d':= { kind:=3,name:=nm,cM:=cM,what:=12,a:=a }) br d 17 (.int .i64 a) rfl (rfl) (rfl) (λ hat=> { hat with a:=rfl }));open zcV in exact Za0):p:=h
theorem zez.Kbc(h:p:=by have cf:=hid (show dF l=Hb nm 12 cM (a,0) l11 from HE.out.trans (ag aC));open zg3 in exact ZeT):p:=h
theorem zdq.KaQ(h:p:=by have cf:=hid (show dF l=Hc nm 12 cM l9 from HE.out.trans (ag (show must fg l6=.ok ((),l9) by rw[<- aB];exact aC)));open zez in exact Zb9):p:=h
theorem ziE.KcW(h:p:=by generalize w21.setCell _ _=W23 at*;have HX:=hid (show dF l=.ok ({ kind:=3,name:=nm,cM:=cM,what:=9,a:=a,b:=b9,every:=every },l22)from HE.out);obtain⟨cs,hcs⟩:∃cs,cs=(cd { kind:=3,name:=nm,cM:=cM,what:=9,a:=a,b:=b9,every:=every }).toArray:=⟨_,rfl⟩;open za4 in exact Zal):p:=h
theorem ziB.KcV(h:p:=by
 clear hm;intro e w19 hp;rcases hp.cases with ⟨_,l20,v9,aC,rfl,rfl,d⟩|⟨m,au,rfl,hg⟩;case inr=>have HF:=hid (show dF l=.error m from HE.out.trans (ak (show must cx l17=.error m by rw[<- aB];exact au)));have HG:=hid HB.out.sa.did.grown;clear hp au;go_wp2_with fail;exact aj rfl (GP.err HF.out ⟨rfl,ai HG.out hg⟩)
 have cf:=hid (show dF l=RX nm 9 cM (a,b9) l20 from HE.out.trans (ag (show must cx l17=.ok ((),l20) by rw[<- aB];exact aC)));have HA:=hid (HB.out.go br d);clear hp aC d HB HE lH;have HE:=cf;clear cf;go_upto_region 15 with fail;go_wp2_with fail;refine(ey ρ w19 l20 _ _ HA.out.sa.did.at_).mono ?_;intro e w21 hp;rcases hp.cases with ⟨every,l22,v9,aC,rfl,rfl,_,d⟩|⟨m,au,rfl,hg⟩;case inr=>have HF:=hid (show dF l=.error m from HE.out.trans (ak au));have HG:=hid HA.out.sa.did.grown;clear hp au;go_wp2_with fail;exact aj rfl (GP.err HF.out ⟨rfl,ai HG.out hg⟩)
 have cf:=hid (show dF l=RV nm 9 cM (a,b9) every l22 from HE.out.trans (ag aC));clear hp aC HE;have HE:=cf;clear cf;have hX:=d.blk HA.out.blk Taf;have hc:w21.cell? ⟨b,4,none⟩=_:=hX.cell 4;have hf:w21.frozen? ⟨b,4,none⟩=_:=hX.frozen 4;have fH:=hid (HA.out.set (m':= { kind:=3,name:=nm,cM:=cM,what:=9,a:=a,b:=b9,every:=every }) (d':= { kind:=3,name:=nm,cM:=cM,what:=9,a:=a,b:=b9,every:=every }) br d 4 (.int .i64 every) rfl (rfl) (rfl) (λ hat=> { hat with every:=rfl }));open ziE in exact Zhn):p:=h
theorem zix.KcU(h:p:=by
 clear hm;intro e w9 hp;rcases hp.cases with ⟨_,l10,v9,aC,rfl,rfl,d⟩|⟨m,au,rfl,hg⟩;case inr=>have HF:=hid (show dF l=.error m from HE.out.trans (ak (show must cD l6=.error m by rw[<- aB];exact au)));have HG:=hid HB.out.sa.did.grown;clear hp au;go_wp2_with fail;exact aj rfl (GP.err HF.out ⟨rfl,ai HG.out hg⟩)
 have cf:=hid (show dF l=G8 nm cM l10 from HE.out.trans (ag (show must cD l6=.ok ((),l10) by rw[<- aB];exact aC)));have HA:=hid (HB.out.go br d);clear hp aC d HB HE lH;have HE:=cf;clear cf;go_upto_region 11 with fail;go_wp2_with fail;refine(ey ρ w9 l10 _ _ HA.out.sa.did.at_).mono ?_;intro e GA hp;rcases hp.cases with ⟨a,Xq,v9,aC,rfl,rfl,_,d⟩|⟨m,au,rfl,hg⟩;case inr=>have HF:=hid (show dF l=.error m from HE.out.trans (ak au));have HG:=hid HA.out.sa.did.grown;clear hp au;go_wp2_with fail;exact aj rfl (GP.err HF.out ⟨rfl,ai HG.out hg⟩)
 have cf:=hid (show dF l=aeo nm cM a Xq from HE.out.trans (ag aC));clear hp aC HE;have HE:=cf;clear cf;have hX:=d.blk HA.out.blk Taf;have hc:GA.cell? ⟨b,17,none⟩=_:=hX.cell 17;have hf:GA.frozen? ⟨b,17,none⟩=_:=hX.frozen 17;have fH:=hid (HA.out.set (m':= { kind:=3,name:=nm,cM:=cM,what:=9,a:=a }) (d':= { kind:=3,name:=nm,cM:=cM,what:=9,a:=a }) br d 17 (.int .i64 a) rfl (rfl) (rfl) (λ hat=> { hat with a:=rfl }));clear hX d HA;have HA:=fH;clear fH;unfold cd kL fN fZ at hc;try unfold fN
 go_upto_region 12 with fail;clear hc hf;generalize GA.setCell _ _=W13 at*;have hb:=aa W13 (.cells (aR [CR]) 9);have HB:=hid (HA.out.later hb);have lH:=HA.out.blk.lt;have hm:=aY ρ _ Xq _ _ HB.out.sa.did.at_ [CR] W13.heap.size 1 rfl (av.new W13 _ _) Taa Taa;clear hb HA;unfold aR strOf at hm HB;simp only[map_cons,map_nil] at hm HB;rw[show CR.toArray= #[116,111] from rfl] at hm HB;go_wp2_with fail;refine hm.mono ?_;clear hm;intro e Jr hp;rcases hp.cases with ⟨_,l15,v9,aC,rfl,rfl,d⟩|⟨m,au,rfl,hg⟩;case inr=>have HF:=hid (show dF l=.error m from HE.out.trans (ak (show must CR Xq=.error m by rw[<- aB];exact au)));have HG:=hid HB.out.sa.did.grown;clear hp au;go_wp2_with fail;exact aj rfl (GP.err HF.out ⟨rfl,ai HG.out hg⟩)
 have cf:=hid (show dF l=aen nm cM a l15 from HE.out.trans (ag (show must CR Xq=.ok ((),l15) by rw[<- aB];exact aC)));have HA:=hid (HB.out.go br d);clear hp aC d HB HE lH;have HE:=cf;clear cf;go_upto_region 13 with fail;go_wp2_with fail;refine(ey ρ Jr l15 _ _ HA.out.sa.did.at_).mono ?_;intro e w16 hp;rcases hp.cases with ⟨b9,l17,v9,aC,rfl,rfl,_,d⟩|⟨m,au,rfl,hg⟩;case inr=>have HF:=hid (show dF l=.error m from HE.out.trans (ak au));have HG:=hid HA.out.sa.did.grown;clear hp au;go_wp2_with fail;exact aj rfl (GP.err HF.out ⟨rfl,ai HG.out hg⟩)
 have cf:=hid (show dF l=Hb nm 9 cM (a,b9) l17 from HE.out.trans (ag aC));clear hp aC HE;have HE:=cf;clear cf;have hX:=d.blk HA.out.blk Taf;have hc:w16.cell? ⟨b,18,none⟩=_:=hX.cell 18;have hf:w16.frozen? ⟨b,18,none⟩=_:=hX.frozen 18;have fH:=hid (HA.out.set (m':= { kind:=3,name:=nm,cM:=cM,what:=9,a:=a,b:=b9 }) (d':= { kind:=3,name:=nm,cM:=cM,what:=9,a:=a,b:=b9 }) br d 18 (.int .i64 b9) rfl (rfl) (rfl) (λ hat=> { hat with b:=rfl }));clear hX d HA;have HA:=fH;clear fH;unfold cd kL fN fZ at hc;try unfold fN
 go_upto_region 14 with fail;clear hc hf;generalize w16.setCell _ _=W18 at*;have hb:=aa W18 (.cells (aR [cx]) 9);have HB:=hid (HA.out.later hb);have lH:=HA.out.blk.lt;have hm:=aY ρ _ l17 _ _ HB.out.sa.did.at_ [cx] W18.heap.size 1 rfl (av.new W18 _ _) Taa Taa;open ziB in exact Zhm):p:=h
theorem zek.Ka9(h:p:=by
 go_wp2_with fail;refine(ep ρ W0 l _ _ HS.out.did.at_).mono ?_;intro e w1 hp;rcases hp.cases with ⟨nm,l2,v9,aC,rfl,rfl,d⟩|⟨m,au,rfl,hg⟩;case inr=>have HF:=hid (show dF l=.error m from HE.out.trans (ak au));have HG:=hid HS.out.did.grown;clear hp au;go_wp2_with fail;exact aj rfl (GP.err HF.out ⟨rfl,ai HG.out hg⟩)
 have cf:=hid (show dF l=G9 nm l2 from HE.out.trans (ag aC));clear hp aC HE;have HE:=cf;clear cf;have xh:=d.size;have ru:=hid (HS.out.go br d);have hbq:=ru.out.res.lt;obtain⟨cs,hcs⟩:∃cs,cs=(cd { kind:=3,name:=nm }).toArray:=⟨_,rfl⟩;have dS:=hid (show(Tryz.prog.info? 34).map (·.size)=some cs.size by rw[hcs];exact cz);have mF:=hid (show cK.size=cs.size by rw[hcs,bB];exact bB _);have jN:=hid (show cs.all (·.oneCell')=true by rw[hcs];exact cW _);have Cm:=hid (show Tryz.prog.built 34 [(0,.int .u8 3),(1,.string nm)]=some cs by rw[hcs];exact mS _ _);have HA:=hid (show wu ρ w (w.heap.size) [] lg dp w1.heap.size (w1.alloc (.cells cs 34)) l2 { kind:=3,name:=nm } { kind:=3,name:=nm } by
  rw[hcs]
  exact ru.out.start (lg2:=lg) (dp2:=dp) { kind:=3,name:=nm } { kind:=3,name:=nm } (λ p hp=>by simp at hp) Tal Tas Tal (λ W S=> { St.kV W S with kind:=rfl,name:=rfl }))
 clear d HS ru hcs;go_upto_region 2 with (first
  |(refine iF rfl 34 _ rfl (cs:=cs) ?hv ?_;rotate_left)
  |(refine wpList_store_row rfl 34 (.tmp 3) (.tmp 7) rfl w1.heap.size cs rfl rfl 34 cK (av.new w1 34 cK) dS.out mF.out jN.out ?_
    rw[iG]))
 case hv=>exact Cm.out
 generalize hb:w1.heap.size=b at*;generalize hW:(World.alloc _ _)=WB at*;clear hW hb xh Cm jN mF dS;have hb:=aa WB (.cells (aR [bV,bQ,gu]) 9);have HB:=hid (HA.out.later hb);have lH:=HA.out.blk.lt;have hm:=ry ρ _ l2 _ _ HB.out.sa.did.at_ [bV,bQ,gu] WB.heap.size 3 rfl (av.new WB _ _) Taa Taa;clear hb HA;unfold aR strOf at hm HB;simp only[map_cons,map_nil] at hm HB;rw[show bV.toArray= #[114,101,102,114,101,115,104] from rfl,show bQ.toArray= #[99,111,109,112,114,101,115,115] from rfl,show gu.toArray= #[100,114,111,112] from rfl] at hm HB;go_wp2_with fail;refine hm.mono ?_;clear hm;intro e w3 hp;rcases hp.cases with ⟨sx,l4,v9,aC,rfl,rfl,d⟩|⟨m,au,rfl,hg⟩;case inr=>have HF:=hid (show dF l=.error m from HE.out.trans (ak au));have HG:=hid HB.out.sa.did.grown;clear hp au;go_wp2_with fail;exact aj rfl (GP.err HF.out ⟨rfl,ai HG.out hg⟩)
 have I4:=hid (vH aC);have cf:=hid (show dF l=aep nm sx l4 from HE.out.trans (ag aC));have HA:=hid (HB.out.go br d);clear hp aC d HB HE lH;have HE:=cf;clear cf;try unfold strOf
 go_upto_region 3 with fail;go_wp2_with fail;refine(ep ρ w3 l4 _ _ HA.out.sa.did.at_).mono ?_;intro e w5 hp;rcases hp.cases with ⟨cM,l6,v9,aC,rfl,rfl,d⟩|⟨m,au,rfl,hg⟩;case inr=>have HF:=hid (show dF l=.error m from HE.out.trans (ak au));have HG:=hid HA.out.sa.did.grown;clear hp au;go_wp2_with fail;exact aj rfl (GP.err HF.out ⟨rfl,ai HG.out hg⟩)
 have cf:=hid (show dF l=Bl nm sx cM l6 from HE.out.trans (ag aC));clear hp aC HE;have HE:=cf;clear cf;have hX:=d.blk HA.out.blk Taf;have hc:w5.cell? ⟨b,16,none⟩=_:=hX.cell 16;have hf:w5.frozen? ⟨b,16,none⟩=_:=hX.frozen 16;have fH:=hid (HA.out.set (m':= { kind:=3,name:=nm,cM:=cM }) (d':= { kind:=3,name:=nm,cM:=cM }) br d 16 (.string cM) rfl (rfl) (rfl) (λ hat=> { hat with cM:=rfl }));clear hX d HA;have HA:=fH;clear fH;unfold cd kL fN fZ at hc;try unfold fN
 go_upto_region 4 with fail;clear hc hf;generalize w5.setCell _ _=W7 at*;have yJ:=I4.out;clear I4;simp only[mem_cons,not_mem_nil,or_false] at yJ;rcases yJ with rfl | rfl | rfl
 ·rw[show bV.toArray= #[114,101,102,114,101,115,104] from rfl];have cf:=hid (show dF l=(must cD >>= λ _=>G8 nm cM) l6 from HE.out.trans (congrFun (amQ nm cM) _));clear HE;have HE:=cf;clear cf;go_upto_region 9 with fail;have d:=bh.refl HA.out.sa.did.at_;have hX:=d.blk HA.out.blk Taf;have hc:W7.cell? ⟨b,15,none⟩=_:=hX.cell 15;have hf:W7.frozen? ⟨b,15,none⟩=_:=hX.frozen 15;have fH:=hid (HA.out.set (m':= { kind:=3,name:=nm,cM:=cM,what:=9 }) (d':= { kind:=3,name:=nm,cM:=cM,what:=9 }) br d 15 (.int .u8 9) rfl (rfl) (rfl) (λ hat=> { hat with what:=rfl }));clear hX d HA;have HA:=fH;clear fH;unfold cd kL fN fZ at hc;try unfold fN
  go_upto_region 10 with fail;clear hc hf;generalize W7.setCell _ _=W8 at*;have hb:=aa W8 (.cells (aR [cD]) 9);have HB:=hid (HA.out.later hb);have lH:=HA.out.blk.lt;have hm:=aY ρ _ l6 _ _ HB.out.sa.did.at_ [cD] W8.heap.size 1 rfl (av.new W8 _ _) Taa Taa;clear hb HA;open zix in exact Zhl
 ·rw[show bQ.toArray= #[99,111,109,112,114,101,115,115] from rfl];have cf:=hid (show dF l=(must fg >>= λ _=>Hc nm 10 cM) l6 from HE.out.trans (congrFun (ahd nm cM) _));clear HE;have HE:=cf;clear cf;go_upto_region 5 with fail
  have HM:=mD.new W7;have HG:=aD (p:=W7.heap.size) (aa W7 (.map #[] 0));have CJ:=HA.out.blk.lt;refine wp_region_lit ?_;refine gG rfl 158 rfl ?_;refine bu Tryz.underlying158 Tryz.underlying9 rfl _ _ _ rfl W7.heap.size rfl [99,111,109,112,114,101,115,115] rfl (.int .u8 10) rfl HM Tab ?_;clear HM;intro wm HM jk;replace HG:=ai HG jk;clear jk;refine bu Tryz.underlying158 Tryz.underlying9 rfl _ _ _ rfl W7.heap.size rfl [100,114,111,112] rfl (.int .u8 12) rfl HM Tab ?_;clear HM;intro wm HM jk;replace HG:=ai HG jk;clear jk;have FK:=hid (show mD wm W7.heap.size VD from HM);have fH:=hid (HA.out.VA br HG Taa);have HX:=hid (fH.out.blk);clear HM HG HA;have HA:=fH;clear fH;have hX:=HA.out.blk;have hc:wm.cell? ⟨b,15,none⟩=_:=hX.cell 15;have hf:wm.frozen? ⟨b,15,none⟩=_:=hX.frozen 15;have fH:=hid (HA.out.set (m':= { kind:=3,name:=nm,cM:=cM,what:=10 }) (d':= { kind:=3,name:=nm,cM:=cM,what:=10 }) br (bh.refl HA.out.sa.did.at_) 15 (.int .u8 10) rfl rfl rfl (λ hat=> { hat with what:=rfl }));clear hX HA HX;have HA:=fH;clear fH;unfold cd kL fN fZ at hc;simp only[Act.put,Uac];go_upto_region 6 with (first
   |(refine fI Tryz.underlying158 Tryz.underlying9 rfl _ _ rfl W7.heap.size rfl (⟨#[99,111,109,112,114,101,115,115]⟩:ByteArray) rfl (l:=VD) FK.out (z:=.int .u8 0) Tryz.zeroValue5 ?_
     rw[show(VD.lookup (⟨#[99,111,109,112,114,101,115,115]⟩:ByteArray).data.toList).getD (.int .u8 0)=.int .u8 10 from rfl]))
  open zdp in exact Zbh
 ·rw[show gu.toArray= #[100,114,111,112] from rfl];have cf:=hid (show dF l=(must fg >>= λ _=>Hc nm 12 cM) l6 from HE.out.trans (congrFun (ahe nm cM) _));clear HE;have HE:=cf;clear cf;go_upto_region 5 with fail
  have HM:=mD.new W7;have HG:=aD (p:=W7.heap.size) (aa W7 (.map #[] 0));have CJ:=HA.out.blk.lt;refine wp_region_lit ?_;refine gG rfl 158 rfl ?_;refine bu Tryz.underlying158 Tryz.underlying9 rfl _ _ _ rfl W7.heap.size rfl [99,111,109,112,114,101,115,115] rfl (.int .u8 10) rfl HM Tab ?_;clear HM;intro wm HM jk;replace HG:=ai HG jk;clear jk;refine bu Tryz.underlying158 Tryz.underlying9 rfl _ _ _ rfl W7.heap.size rfl [100,114,111,112] rfl (.int .u8 12) rfl HM Tab ?_;clear HM;intro wm HM jk;replace HG:=ai HG jk;clear jk;have FK:=hid (show mD wm W7.heap.size VD from HM);have fH:=hid (HA.out.VA br HG Taa);have HX:=hid (fH.out.blk);clear HM HG HA;have HA:=fH;clear fH;have hX:=HA.out.blk;have hc:wm.cell? ⟨b,15,none⟩=_:=hX.cell 15;have hf:wm.frozen? ⟨b,15,none⟩=_:=hX.frozen 15;have fH:=hid (HA.out.set (m':= { kind:=3,name:=nm,cM:=cM,what:=12 }) (d':= { kind:=3,name:=nm,cM:=cM,what:=12 }) br (bh.refl HA.out.sa.did.at_) 15 (.int .u8 12) rfl rfl rfl (λ hat=> { hat with what:=rfl }));clear hX HA HX;have HA:=fH;clear fH;unfold cd kL fN fZ at hc;simp only[Act.put,Uac];go_upto_region 6 with (first
   |(refine fI Tryz.underlying158 Tryz.underlying9 rfl _ _ rfl W7.heap.size rfl (⟨#[100,114,111,112]⟩:ByteArray) rfl (l:=VD) FK.out (z:=.int .u8 0) Tryz.zeroValue5 ?_
     rw[show(VD.lookup (⟨#[100,114,111,112]⟩:ByteArray).data.toList).getD (.int .u8 0)=.int .u8 12 from rfl]))
  open zdq in exact Zbh):p:=h
theorem zeD.Kbe(h:p:=by have HE:=hid (show dF l=(cC >>= λ name=>G9 name) l from rfl);clear h b1;go_enter Tryz.func114,Tryz.ntmps114;open zek in exact Zb3):p:=h
theorem I3 (ρ:bw)(w:World)(l:aK)(lg dp:Bool)(h:ρ.gh w l lg dp):
  Calls Tryz.prog 114 #[ρ.ptr] w (cQ ρ w lg dp dF l):=by
 open zeD in exact Zce
def RU (s:List UInt8):Int:=if s=cG then 1 else if s=dH then 2 else 3
def My:List (List UInt8×Value):=[([116,97,98,108,101],.int .u8 1),([118,105,101,119],.int .u8 2),([106,111,98],.int .u8 3)]
variable{s:List UInt8}
theorem Vz(h:s∈ [cG,dH,iM]):(My.lookup (⟨s.toArray⟩:ByteArray).data.toList).getD (.int .u8 0)=.int .u8 (RU s):=by
 simp only[mem_cons,not_mem_nil,or_false] at h;rcases h with rfl | rfl | rfl <;> rfl
def G0 (k:Int):Ps St:=do
 let name <- cC
 return { kind:=4,what:=k,name }
def Ql:Ps St:=jS [cG,dH,iM] >>= λ s=>G0 (RU s)
def pD:Ps St:=must gu >>= λ _=>Ql
variable{zu:List Nat}
theorem BM.VA(A:BM ρ w q zu lg dp wr l)(hg:ρ.g < w.heap.size)(h:wr.grownBy w2 (some G))(hG:w.heap.size<=G)(hq:q≠G)(hp:∀p∈zu,p≠G):BM ρ w q zu lg dp w2 l:=
 ⟨A.did.own hg h (λ G' e=>by injection e with e;omega),A.res.grown h Tae,A.qw,λ p h'=>by obtain⟨a,c,k⟩:=A.vF p h';have:=hp p h';exact⟨a,c,k.grown h Tae⟩⟩
theorem zgt.KbX(h:p:=by
 refine hm.mono ?_;clear hm;intro e w8 hp;rcases hp.cases with ⟨sx,l8,v9,aC,rfl,rfl,d⟩|⟨m,au,rfl,hg⟩;case inr=>have HF:=hid (show pD l=.error m from HE.out.trans (ak au));have HG:=hid HB.out.did.grown;clear hp au;go_wp2_with fail;exact aj rfl (GP.err HF.out ⟨rfl,ai HG.out hg⟩)
 have yJ:=vH aC;have cf:=hid (show pD l=G0 (RU sx) l8 from HE.out.trans (ag aC));have HS:=hid (HB.out.go br d);have FK:=hid (show mD w8 w1.heap.size My from(d.grown.block _ Tae (by intro e;injection e with e;omega)).trans G1.out);have HLK:=hid (Vz yJ);clear hp aC d HB HE G1 yJ;have HE:=cf;clear cf;try unfold strOf
 go_upto_region 3 with (first
  |(refine fI Tryz.underlying158 Tryz.underlying9 rfl _ _ rfl w1.heap.size rfl (⟨sx.toArray⟩:ByteArray) rfl (l:=My) FK.out (z:=.int .u8 0) Tryz.zeroValue5 ?_
    rw[HLK.out]))
 clear HLK FK;generalize RU sx=kx at*;go_wp2_with fail;refine(ep ρ w8 l8 _ _ HS.out.did.at_).mono ?_;intro e w3 hp;rcases hp.cases with ⟨nm,l4,v9,aC,rfl,rfl,d⟩|⟨m,au,rfl,hg⟩;case inr=>have HF:=hid (show pD l=.error m from HE.out.trans (ak au));have HG:=hid HS.out.did.grown;clear hp au;go_wp2_with fail;exact aj rfl (GP.err HF.out ⟨rfl,ai HG.out hg⟩)
 have cf:=hid (show pD l=.ok ({ kind:=4,what:=kx,name:=nm },l4)from HE.out.trans ((ag aC).trans rfl));clear hp aC HE;obtain⟨cs,hcs⟩:∃cs,cs=(cd { kind:=4,what:=kx,name:=nm }).toArray:=⟨_,rfl⟩;have dS:=hid (show(Tryz.prog.info? 34).map (·.size)=some cs.size by rw[hcs];exact cz);have mF:=hid (show cK.size=cs.size by rw[hcs,bB];exact bB _);have jN:=hid (show cs.all (·.oneCell')=true by rw[hcs];exact cW _);have Cm:=hid (show Tryz.prog.built 34 [(0,.int .u8 4),(8,.int .u8 kx),(1,.string nm)]=some cs by rw[hcs];exact Qk _ _);have lH:=HS.out.res.lt;have mC:=hid (d.blk HS.out.res Taa);have tX:=hid (show cQ ρ w lg dp pD l (.returned (.agg cs)) (w3.setRow w.heap.size cs) by
  rw[hcs]
  refine GP.ok cf.out ⟨_,rfl,{ St.kV _ _ with kind:=rfl,what:=rfl,name:=rfl },?_⟩
  have hD:=(HS.out.did.trans d).own br (cP w3 w.heap.size (cd { kind:=4,what:=kx,name:=nm }).toArray) (λ G e=>by injection e with e;omega)
  simpa [St.long,St.exprs,Qu.long,Qu.exprs,di] using hD)
 clear d HS cf hcs;go_wp2_with (first
  |(refine iF rfl 34 _ rfl (cs:=cs) ?hv ?_;rotate_left)
  |(refine wpList_store_row rfl 34 (.tmp 2) (.tmp 16) rfl w.heap.size cs rfl rfl 34 cK mC.out dS.out mF.out jN.out ?_
    have tu:=hid (mC.out.row cs)))
 case hv=>exact Cm.out
 exact bodyPost_ret (v:=.agg cs) (results_cell_row Tryz.results68 _ _ w.heap.size 34 cs (0,0) _ rfl tu.out Tryz.underlying34 rfl dS.out) rfl tX.out):p:=h
theorem zgW.Kca(h:p:=by have hb:=aa wm (.cells (aR [cG,dH,iM]) 9);have HB:=hid (ru.out.later hb);have G1:=hid (show mD (wm.alloc (.cells (aR [cG,dH,iM]) 9)) w1.heap.size My from(hb.block _ qg).trans RO.out);have lH:=ru.out.res.lt;have hm:=ry ρ _ l2 _ _ HB.out.did.at_ [cG,dH,iM] wm.heap.size 3 rfl (av.new wm _ _) Taa Taa;clear hb RO ru;unfold aR strOf at hm HB G1;simp only[map_cons,map_nil] at hm HB G1;rw[show cG.toArray= #[116,97,98,108,101] from rfl,show dH.toArray= #[118,105,101,119] from rfl,show iM.toArray= #[106,111,98] from rfl] at hm HB G1;open zgt in exact Zef):p:=h
theorem zf0.KbN(h:p:=by refine bu Tryz.underlying158 Tryz.underlying9 rfl _ _ _ rfl w1.heap.size rfl [116,97,98,108,101] rfl (.int .u8 1) rfl HM Tab ?_;clear HM;intro wm HM jk;replace HG:=ai HG jk;clear jk;refine bu Tryz.underlying158 Tryz.underlying9 rfl _ _ _ rfl w1.heap.size rfl [118,105,101,119] rfl (.int .u8 2) rfl HM Tab ?_;clear HM;intro wm HM jk;replace HG:=ai HG jk;clear jk;refine bu Tryz.underlying158 Tryz.underlying9 rfl _ _ _ rfl w1.heap.size rfl [106,111,98] rfl (.int .u8 3) rfl HM Tab ?_;clear HM;intro wm HM jk;replace HG:=ai HG jk;clear jk;have RO:=hid (show mD wm w1.heap.size My from HM);open zgW in exact ZeE):p:=h
theorem zel.Ka9(h:p:=by
 have hb:=aa W0 (.cells (aR [gu]) 9);have HB:=hid (HS.out.later hb);have lH:=HS.out.res.lt;have hm:=aY ρ _ l _ _ HB.out.did.at_ [gu] W0.heap.size 1 rfl (av.new W0 _ _) Taa Taa;clear hb HS;unfold aR strOf at hm HB;simp only[map_cons,map_nil] at hm HB;rw[show gu.toArray= #[100,114,111,112] from rfl] at hm HB;go_wp2_with fail;refine hm.mono ?_;clear hm;intro e w1 hp;rcases hp.cases with ⟨_,l2,v9,aC,rfl,rfl,d⟩|⟨m,au,rfl,hg⟩;case inr=>have HF:=hid (show pD l=.error m from HE.out.trans (ak (show must gu l=.error m by rw[<- aB];exact au)));have HG:=hid HB.out.did.grown;clear hp au;go_wp2_with fail;exact aj rfl (GP.err HF.out ⟨rfl,ai HG.out hg⟩)
 have cf:=hid (show pD l=Ql l2 from HE.out.trans (ag (show must gu l=.ok ((),l2) by rw[<- aB];exact aC)));open zf0 in exact ZdX):p:=h
theorem zeE.Kbe(h:p:=by have HE:=hid (show pD l=(must gu >>= λ _=>Ql) l from rfl);clear h b1;go_enter Tryz.func68,Tryz.ntmps68;open zel in exact Zb3):p:=h
theorem VC (ρ:bw)(w:World)(l:aK)(lg dp:Bool)(h:ρ.gh w l lg dp):
  Calls Tryz.prog 68 #[ρ.ptr] w (cQ ρ w lg dp pD l):=by
 open zeE in exact Zce
def aeH (name:ByteArray)(bF:List (ByteArray×Tr))(aS:List Tr):Ps St:=return { kind:=6,name,bF,aS }
def aeI (name:ByteArray)(bF:List (ByteArray×Tr)):Ps St:=do
 let aS <- fU dB
 aeH name bF aS
def aeJ (name:ByteArray):Ps St:=do
 let bF <- dN vR
 aeI name bF
def aeK (name:ByteArray):Ps St:=do
 must sT
 aeJ name
def J9:Ps St:=do
 let name <- cC
 aeK name
def og:Ps St:=must gJ >>= λ _=>J9
theorem zcD.Kaz(h:p:=by generalize W11.setRow (w.heap.size+1) cs=WF at*;go_wp2_with fail;exact bodyPost_ret (v:=.agg cs) (results_cell_row Tryz.results70 _ _ (w.heap.size+1) 34 cs (0,0) _ rfl tu.out Tryz.underlying34 rfl dS.out) rfl tX.out):p:=h
theorem zdI.KaW(h:p:=by refine wpList_store_row rfl 34 (.tmp 2) (.tmp 19) rfl (w.heap.size+1) cs rfl rfl 34 cK mC.out dS.out mF.out jN.out ?_;open zcD in exact ZaS):p:=h
theorem za7.Kah(h:p:=by have wy:=hid (show av W11 b 34 cs by rw[hcs];exact HA.out.blk);have mC:=hid HA.out.sa.res;have tX:=hid (show cQ ρ w lg dp og l (.returned (.agg cs)) (W11.setRow (w.heap.size+1) cs) by rw[hcs];exact HA.out.post br HX.out);open zdI in exact Zbw):p:=h
theorem zdB.KaU(h:p:=by
 have hb:=aa WB (.cells (aR [sT]) 9);have HB:=hid (HA.out.later hb);have lH:=HA.out.blk.lt;have p0:=HA.out.sa.ptr;have hm:=aY ρ _ l4 _ _ HB.out.sa.did.at_ [sT] WB.heap.size 1 rfl (av.new WB _ _) Taa Taa;clear hb HA;unfold aR strOf at hm HB;simp only[map_cons,map_nil] at hm HB;rw[show sT.toArray= #[115,101,116] from rfl] at hm HB;go_wp2_with fail;refine hm.mono ?_;clear hm p0;intro e w5 hp;rcases hp.cases with ⟨_,l6,v9,aC,rfl,rfl,d⟩|⟨m,au,rfl,hg⟩;case inr=>have HF:=hid (show og l=.error m from HE.out.trans (ak (show must sT l4=.error m by rw[<- aB];exact au)));have HG:=hid HB.out.sa.did.grown;clear hp au;go_wp2_with fail;exact aj rfl (GP.err HF.out ⟨rfl,ai HG.out hg⟩)
 have cf:=hid (show og l=aeJ nm l6 from HE.out.trans (ag (show must sT l4=.ok ((),l6) by rw[<- aB];exact aC)));have HA:=hid (HB.out.go br d);clear hp aC d HB HE lH;have HE:=cf;clear cf;have p0:=HA.out.sa.ptr;have F:=HA.out.fit br 20 Tab
 have L:Lst ρ w (λ x=>decide (32 < x.2.depth)) vR 121 #[.pointer (some ⟨w.heap.size,0,none⟩),.pointer (some ⟨b,0,none⟩)] ((stG ρ w (w.heap.size+1) w.heap.size b { kind:=6,name:=nm } { kind:=6,name:=nm } 20).acc AK 55):=
  ⟨Gq,enters_of Tryz.func121 Tac rfl,λ acc a b hs hg _=>by obtain⟨v,h⟩:=hs;exact⟨v,h.grown F hg⟩,λ acc W l lg dp hn hs hd=>Vs _ F rfl rfl acc W l lg dp hn hs hd⟩
 have hm:=oT ρ w (λ x=>decide (32 < x.2.depth)) vR 121 #[.pointer (some ⟨w.heap.size,0,none⟩),.pointer (some ⟨b,0,none⟩)] _ L w5 l6 _ _ HA.out.sa.did (HA.out.start AK 55 20 rfl) br;clear L F;go_wp2_with fail;refine hm.mono ?_;clear hm p0;intro e w7 hp;unfold jb at hp
 cases hx:dN vR l6 with
 | error m=>rw[hx] at hp;obtain⟨rfl,hg⟩:=hp;have HF:=hid (show og l=.error m from HE.out.trans (ak hx));exact Zcd
 | ok z=>
   obtain⟨bF,l8⟩:=z;rw[hx] at hp;obtain⟨rfl,hs,hd⟩:=hp;obtain⟨so,hA⟩:=HA.out.list (m':=λ so=> { kind:=6,name:=nm,bF:=so }) (d':= { kind:=6,name:=nm,bF:=bF }) hs hd (λ _=>rfl) Tav Tai (λ so ki hat=> { hat with bF:=ki });have cf:=hid (show og l=aeI nm bF l8 from HE.out.trans (ag hx));have fH:=hid hA;clear hx hA hs hd HA HE;have HA:=fH;have HE:=cf;clear fH cf;go_upto_region 5 with fail;have p0:=HA.out.sa.ptr;go_wp2_with fail;refine(Bk ρ w7 l8 _ _ HA.out.sa.did.at_ dB ⟨#[119,104,101,114,101]⟩ rfl).mono ?_;clear p0;intro e w9 hp;rcases GP.cases hp with ⟨aS,l10,v9,aC,rfl,⟨A,n,c⟩,rfl,ki,d⟩|⟨m,au,rfl,hg⟩;case inr=>have HF:=hid (show og l=.error m from HE.out.trans (ak au));have HG:=hid HA.out.sa.did.grown;clear hp au;go_wp2_with fail;exact aj rfl (GP.err HF.out ⟨rfl,ai HG.out hg⟩)
   have cf:=hid (show og l=aeH nm bF aS l10 from HE.out.trans (ag aC));clear hp aC HE;have HE:=cf;clear cf;have lH:=HA.out.blk.lt;have hX:=d.blk HA.out.blk Taf;have hc:w9.cell? ⟨b,21,none⟩=_:=hX.cell 21;have hf:w9.frozen? ⟨b,21,none⟩=_:=hX.frozen 21;have fH:=hid (HA.out.set (m':= { kind:=6,name:=nm,bF:=so,aS:=⟨A,n,c⟩}) (d':= { kind:=6,name:=nm,bF:=bF,aS:=aS }) br d 21 (.slice A n c) rfl Tav Tai (λ hat=> { hat with aS:=El.lies.more ki Taa}));clear hX d HA;have HA:=fH;clear fH;unfold cd kL fN fZ at hc;try unfold fN
   go_upto_region 6 with fail;clear hc hf;generalize w9.setCell _ _=W11 at*;obtain⟨ahp,hs9⟩:∃s:Sl,s=⟨A,n,c⟩:=⟨_,rfl⟩;rw[<- hs9] at HA;clear hs9 lH ki;have HX:=hid (show og l=.ok ({ kind:=6,name:=nm,bF:=bF,aS:=aS },l10)from HE.out);obtain⟨cs,hcs⟩:∃cs,cs=(cd { kind:=6,name:=nm,bF:=so,aS:=ahp }).toArray:=⟨_,rfl⟩;open za7 in exact Zal):p:=h
theorem zhM.Kcy(h:p:=by
 rcases hp.cases with ⟨nm,l4,v9,aC,rfl,rfl,d⟩|⟨m,au,rfl,hg⟩;case inr=>have HF:=hid (show og l=.error m from HE.out.trans (ak au));have HG:=hid HS.out.did.grown;clear hp au;go_wp2_with fail;exact aj rfl (GP.err HF.out ⟨rfl,ai HG.out hg⟩)
 have cf:=hid (show og l=aeK nm l4 from HE.out.trans (ag aC));clear hp aC HE;have HE:=cf;clear cf;have xh:=d.size;have ru:=hid (HS.out.go br d);have hbq:=ru.out.res.lt;obtain⟨cs,hcs⟩:∃cs,cs=(cd { kind:=6,name:=nm }).toArray:=⟨_,rfl⟩;have dS:=hid (show(Tryz.prog.info? 34).map (·.size)=some cs.size by rw[hcs];exact cz);have mF:=hid (show cK.size=cs.size by rw[hcs,bB];exact bB _);have jN:=hid (show cs.all (·.oneCell')=true by rw[hcs];exact cW _);have Cm:=hid (show Tryz.prog.built 34 [(0,.int .u8 6),(1,.string nm)]=some cs by rw[hcs];exact mS _ _);have HA:=hid (show wu ρ w (w.heap.size+1) [w.heap.size] lg dp w3.heap.size (w3.alloc (.cells cs 34)) l4 { kind:=6,name:=nm } { kind:=6,name:=nm } by
  rw[hcs]
  exact ru.out.start (lg2:=lg) (dp2:=dp) { kind:=6,name:=nm } { kind:=6,name:=nm } (λ p hp=>by simp at hp;subst hp;omega) Tal Tas Tal (λ W S=> { St.kV W S with kind:=rfl,name:=rfl }))
 open zdB in exact Zbo):p:=h
theorem zgb.KbR(h:p:=by
 have hb:=aa W0 (.cells (aR [gJ]) 9);have HB:=hid (HS.out.later hb);have lH:=HS.out.res.lt;have p0:=HS.out.ptr;have hm:=aY ρ _ l _ _ HB.out.did.at_ [gJ] W0.heap.size 1 rfl (av.new W0 _ _) Taa Taa;clear hb HS;unfold aR strOf at hm HB;simp only[map_cons,map_nil] at hm HB;rw[show gJ.toArray= #[117,112,100,97,116,101] from rfl] at hm HB;go_wp2_with fail;refine hm.mono ?_;clear hm p0;intro e w1 hp;rcases hp.cases with ⟨_,l2,v9,aC,rfl,rfl,d⟩|⟨m,au,rfl,hg⟩;case inr=>have HF:=hid (show og l=.error m from HE.out.trans (ak (show must gJ l=.error m by rw[<- aB];exact au)));have HG:=hid HB.out.did.grown;clear hp au;go_wp2_with fail;exact aj rfl (GP.err HF.out ⟨rfl,ai HG.out hg⟩)
 have cf:=hid (show og l=J9 l2 from HE.out.trans (ag (show must gJ l=.ok ((),l2) by rw[<- aB];exact aC)));open zhM in exact Zgk):p:=h
theorem zcx.Kay(h:p:=by have HE:=hid (show og l=(must gJ >>= λ _=>J9) l from rfl);clear h b2 hP hR;go_enter Tryz.func70,Tryz.ntmps70;open zgb in exact Zd1):p:=h
theorem MH (ρ:bw)(w:World)(l:aK)(lg dp:Bool)(h:ρ.gh w l lg dp):
  Calls Tryz.prog 70 #[ρ.ptr] w (cQ ρ w lg dp og l):=by
 open zcx in exact ZaR
end Go.Proofs.YtehhdlgjfdnafaaGreatDoor
