/- Parts of the proof. -/
import Derived.Test.YtehhdlgjfdnafaaGreatDoorXB25
import Derived.Test.YtehhdlgjfdnafaaGreatDoorXB30
namespace Go.Proofs.YtehhdlgjfdnafaaGreatDoor
variable{p:Prop}
set_option maxHeartbeats 90000000
set_option maxRecDepth 100000
open Go.Lib (hid)
open Go.ChangeShapes Go.WideShapes Go.ChangeAt Go.RowKit List
set_option linter.unusedVariables false
set_option linter.unusedSimpArgs false
def adw (name:ByteArray)(rows:List (List Tr)):Ps St:=return { kind:=5,name,rows }
def adx (name:ByteArray):Ps St:=do
 let rows <- dI td
 adw name rows
def ady (name:ByteArray):Ps St:=do
 must iO
 adx name
def ZW:Ps St:=do
 let name <- cD
 ady name
def oH:Ps St:=gK [gY,fc] >>= λ _=>ZW
theorem zcY.KaC(h:p:=by generalize w7.setRow (w.heap.size+1) cs=WF at*;go_wp2_with fail;exact bodyPost_ret (v:=.agg cs) (results_cell_row Tryz.results69 _ _ (w.heap.size+1) 34 cs (0,0) _ rfl sf.out Tryz.underlying34 rfl dK.out) rfl tz.out):p:=h
theorem zd3.Ka0(h:p:=by refine wpList_store_row rfl 34 (.tmp 2) (.tmp 16) rfl (w.heap.size+1) cs rfl rfl 34 cN lS.out dK.out mo.out jM.out ?_;open zcY in exact ZaV):p:=h
theorem zbj.Kai(h:p:=by have vz:=hid (show av w7 b 34 cs by rw[hcs];exact HA.out.blk);have lS:=hid HA.out.sa.res;have tz:=hid (show cI ρ w lg dp oH l (.returned (.agg cs)) (w7.setRow (w.heap.size+1) cs) by rw[hcs];exact HA.out.post bj HX.out);open zd3 in exact ZbB):p:=h
theorem zdV.KaY(h:p:=by
 have hb:=aa WB (.cells (aP [iO]) 9);have HB:=hid (HA.out.later hb);have kJ:=HA.out.blk.lt;have p0:=HA.out.sa.ptr;have hm:=aW ρ _ l4 _ _ HB.out.sa.did.at_ [iO] WB.heap.size 1 rfl (av.new WB _ _) Taa Taa;clear hb HA;unfold aP strOf at hm HB;simp only[map_cons,map_nil] at hm HB;rw[show iO.toArray= #[118,97,108,117,101,115] from rfl] at hm HB;go_wp2_with fail;refine hm.mono ?_;clear hm p0;intro e w5 hp;rcases hp.cases with ⟨_,l6,v9,az,rfl,rfl,d⟩|⟨m,au,rfl,hg⟩;case inr=>have HF:=hid (show oH l=.error m from HE.out.trans (ak (show must iO l4=.error m by rw[<- ay];exact au)));have HG:=hid HB.out.sa.did.grown;clear hp au;go_wp2_with fail;exact aj rfl (GP.err HF.out ⟨rfl,ai HG.out hg⟩)
 have bN:=hid (show oH l=adx nm l6 from HE.out.trans (ag (show must iO l4=.ok ((),l6) by rw[<- ay];exact az)));have HA:=hid (HB.out.go bj d);clear hp az d HB HE kJ;have HE:=bN;clear bN;have p0:=HA.out.sa.ptr;have F:=HA.out.fit bj 19 Tab
 have L:afx ρ w (λ r=>decide (64 < r.length)) (λ r=>cZ r) td 118 #[.pointer (some ⟨w.heap.size,0,none⟩),.pointer (some ⟨b,0,none⟩)] ((stG ρ w (w.heap.size+1) w.heap.size b { kind:=5,name:=nm } { kind:=5,name:=nm } 19).acc rR 24):=
  ⟨zf,enters_of Tryz.func118 Tac rfl,λ acc a b hs hg _=>by obtain⟨v,h⟩:=hs;exact⟨v,h.grown F hg⟩,λ acc W l lg dp hn hs hd=>UD _ F rfl rfl acc W l lg dp hn hs hd⟩
 have hm:=Dj ρ w (λ r=>decide (64 < r.length)) (λ r=>cZ r) td 118 #[.pointer (some ⟨w.heap.size,0,none⟩),.pointer (some ⟨b,0,none⟩)] _ L w5 l6 _ _ HA.out.sa.did (HA.out.start rR 24 19 rfl) bj;clear L F;go_wp2_with fail;refine hm.mono ?_;clear hm p0;intro e w7 hp;unfold fM at hp
 cases hx:dI td l6 with
 | error m=>rw[hx] at hp;obtain⟨rfl,hg⟩:=hp;have HF:=hid (show oH l=.error m from HE.out.trans (ak hx));exact Zcl
 | ok z=>obtain⟨rows,l8⟩:=z;rw[hx] at hp;obtain⟨rfl,hs,hd⟩:=hp;obtain⟨so,hA⟩:=HA.out.list (m':=λ so=> { kind:=5,name:=nm,rows:=so }) (d':= { kind:=5,name:=nm,rows:=rows }) hs hd (λ _=>rfl) (by simp[St.long,Qu.long,Bool.or_assoc,Bool.or_comm,Bool.or_left_comm]) Tai (λ so jk hat=> { hat with rows:=jk });have bN:=hid (show oH l=adw nm rows l8 from HE.out.trans (ag hx));have fB:=hid hA;clear hx hA hs hd HA HE;have HA:=fB;have HE:=bN;clear fB bN;go_upto_region 5 with fail;have HX:=hid (show oH l=.ok ({ kind:=5,name:=nm,rows:=rows },l8)from HE.out);obtain⟨cs,hcs⟩:∃cs,cs=(bD { kind:=5,name:=nm,rows:=so }).toArray:=⟨_,rfl⟩;open zbj in exact Zam):p:=h
theorem zig.KcF(h:p:=by
 rcases hp.cases with ⟨nm,l4,v9,az,rfl,rfl,d⟩|⟨m,au,rfl,hg⟩;case inr=>have HF:=hid (show oH l=.error m from HE.out.trans (ak au));have HG:=hid HS.out.did.grown;clear hp au;go_wp2_with fail;exact aj rfl (GP.err HF.out ⟨rfl,ai HG.out hg⟩)
 have bN:=hid (show oH l=ady nm l4 from HE.out.trans (ag az));clear hp az HE;have HE:=bN;clear bN;have wb:=d.size;have qC:=hid (HS.out.go bj d);have hbq:=qC.out.res.lt;obtain⟨cs,hcs⟩:∃cs,cs=(bD { kind:=5,name:=nm }).toArray:=⟨_,rfl⟩;have dK:=hid (show(Tryz.prog.info? 34).map (·.size)=some cs.size by rw[hcs];exact cm);have mo:=hid (show cN.size=cs.size by rw[hcs,bB];exact bB _);have jM:=hid (show cs.all (·.oneCell')=true by rw[hcs];exact cS _);have BD:=hid (show Tryz.prog.built 34 [(0,.int .u8 5),(1,.string nm)]=some cs by rw[hcs];exact mn _ _);have HA:=hid (show vy ρ w (w.heap.size+1) [w.heap.size] lg dp w3.heap.size (w3.alloc (.cells cs 34)) l4 { kind:=5,name:=nm } { kind:=5,name:=nm } by
  rw[hcs]
  exact qC.out.start (lg2:=lg) (dp2:=dp) { kind:=5,name:=nm } { kind:=5,name:=nm } (λ p hp=>by simp at hp;subst hp;omega) Tal Tar Tal (λ W S=> { St.kv W S with kind:=rfl,name:=rfl }))
 open zdV in exact Zbt):p:=h
theorem zgG.KbY(h:p:=by
 have hb:=aa W0 (.cells (aP [gY,fc]) 9);have HB:=hid (HS.out.later hb);have kJ:=HS.out.res.lt;have p0:=HS.out.ptr;have hm:=aW ρ _ l _ _ HB.out.did.at_ [gY,fc] W0.heap.size 2 rfl (av.new W0 _ _) Taa Taa;clear hb HS;unfold aP strOf at hm HB;simp only[map_cons,map_nil] at hm HB;rw[show gY.toArray= #[105,110,115,101,114,116] from rfl,show fc.toArray= #[105,110,116,111] from rfl] at hm HB;go_wp2_with fail;refine hm.mono ?_;clear hm p0;intro e w1 hp;rcases hp.cases with ⟨_,l2,v9,az,rfl,rfl,d⟩|⟨m,au,rfl,hg⟩;case inr=>have HF:=hid (show oH l=.error m from HE.out.trans (ak (show gK [gY,fc] l=.error m from au)));have HG:=hid HB.out.did.grown;clear hp au;go_wp2_with fail;exact aj rfl (GP.err HF.out ⟨rfl,ai HG.out hg⟩)
 have bN:=hid (show oH l=ZW l2 from HE.out.trans (ag (show gK [gY,fc] l=.ok (_,l2)from az)));open zig in exact Zgs):p:=h
theorem zcO.KaB(h:p:=by have HE:=hid (show oH l=(gK [gY,fc] >>= λ _=>ZW) l from rfl);clear h b2 hP hR;go_enter Tryz.func69,Tryz.ntmps69;open zgG in exact Zeb):p:=h
theorem LU (ρ:bp)(w:World)(l:aI)(lg dp:Bool)(h:ρ.fU w l lg dp):
  Calls Tryz.prog 69 #[ρ.ptr] w (cI ρ w lg dp oH l):=by
 open zcO in exact ZaU
def rY:Ps St:=do
 let _ <- gK [gy,cu]
 let name <- cD
 let aR <- gR dh
 return { kind:=7,name,aR }
def adt (name:ByteArray)(aR:List Tr):Ps St:=return { kind:=7,name,aR }
def adu (name:ByteArray):Ps St:=do
 let aR <- gR dh
 adt name aR
def ZV:Ps St:=do
 let name <- cD
 adu name
theorem zcZ.KaC(h:p:=by generalize W7.setRow (w.heap.size) cs=WF at*;go_wp2_with fail;exact bodyPost_ret (v:=.agg cs) (results_cell_row Tryz.results71 _ _ (w.heap.size) 34 cs (0,0) _ rfl sf.out Tryz.underlying34 rfl dK.out) rfl tz.out):p:=h
theorem zd4.Ka0(h:p:=by refine wpList_store_row rfl 34 (.tmp 2) (.tmp 13) rfl (w.heap.size) cs rfl rfl 34 cN lS.out dK.out mo.out jM.out ?_;open zcZ in exact ZaV):p:=h
theorem zbk.Kai(h:p:=by have vz:=hid (show av W7 b 34 cs by rw[hcs];exact HA.out.blk);have lS:=hid HA.out.sa.res;have tz:=hid (show cI ρ w lg dp rY l (.returned (.agg cs)) (W7.setRow (w.heap.size) cs) by rw[hcs];exact HA.out.post bj HX.out);open zd4 in exact ZbB):p:=h
theorem zdT.KaY(h:p:=by
 go_wp2_with fail;refine(Ar ρ WB l4 _ _ HA.out.sa.did.at_ dh ⟨#[119,104,101,114,101]⟩ rfl).mono ?_;intro e w5 hp;rcases GP.cases hp with ⟨aR,l6,v9,az,rfl,⟨A,n,c⟩,rfl,jk,d⟩|⟨m,au,rfl,hg⟩;case inr=>have HF:=hid (show rY l=.error m from HE.out.trans (ak au));have HG:=hid HA.out.sa.did.grown;clear hp au;go_wp2_with fail;exact aj rfl (GP.err HF.out ⟨rfl,ai HG.out hg⟩)
 have bN:=hid (show rY l=adt nm aR l6 from HE.out.trans (ag az));clear hp az HE;have HE:=bN;clear bN;have kJ:=HA.out.blk.lt;have hX:=d.blk HA.out.blk Taf;have hc:w5.cell? ⟨b,21,none⟩=_:=hX.cell 21;have hf:w5.frozen? ⟨b,21,none⟩=_:=hX.frozen 21;have fB:=hid (HA.out.set (m':= { kind:=7,name:=nm,aR:=⟨A,n,c⟩}) (d':= { kind:=7,name:=nm,aR:=aR }) bj d 21 (.slice A n c) rfl Tau Tai (λ hat=> { hat with aR:=El.lies.more jk Taa}));clear hX d HA;have HA:=fB;clear fB;unfold bD jX fF fp at hc;try unfold fF
 go_upto_region 4 with fail;clear hc hf;generalize w5.setCell _ _=W7 at*;obtain⟨afT,hs9⟩:∃s:Sl,s=⟨A,n,c⟩:=⟨_,rfl⟩;rw[<- hs9] at HA;clear hs9 kJ jk;have HX:=hid (show rY l=.ok ({ kind:=7,name:=nm,aR:=aR },l6)from HE.out);obtain⟨cs,hcs⟩:∃cs,cs=(bD { kind:=7,name:=nm,aR:=afT }).toArray:=⟨_,rfl⟩;open zbk in exact Zam):p:=h
theorem zeO.Kbf(h:p:=by
 have hb:=aa W0 (.cells (aP [gy,cu]) 9);have HB:=hid (HS.out.later hb);have kJ:=HS.out.res.lt;have hm:=aW ρ _ l _ _ HB.out.did.at_ [gy,cu] W0.heap.size 2 rfl (av.new W0 _ _) Taa Taa;clear hb HS;unfold aP strOf at hm HB;simp only[map_cons,map_nil] at hm HB;rw[show gy.toArray= #[100,101,108,101,116,101] from rfl,show cu.toArray= #[102,114,111,109] from rfl] at hm HB;go_wp2_with fail;refine hm.mono ?_;clear hm;intro e w1 hp;rcases hp.cases with ⟨_,l2,v9,az,rfl,rfl,d⟩|⟨m,au,rfl,hg⟩;case inr=>have HF:=hid (show rY l=.error m from HE.out.trans (ak (show gK [gy,cu] l=.error m from au)));have HG:=hid HB.out.did.grown;clear hp au;go_wp2_with fail;exact aj rfl (GP.err HF.out ⟨rfl,ai HG.out hg⟩)
 have bN:=hid (show rY l=ZV l2 from HE.out.trans (ag (show gK [gy,cu] l=.ok (_,l2)from az)));have HS:=hid (HB.out.go bj d);clear hp az d HB HE kJ;have HE:=bN;clear bN;go_wp2_with fail;refine(dU ρ w1 l2 _ _ HS.out.did.at_).mono ?_;intro e w3 hp;rcases hp.cases with ⟨nm,l4,v9,az,rfl,rfl,d⟩|⟨m,au,rfl,hg⟩;case inr=>have HF:=hid (show rY l=.error m from HE.out.trans (ak au));have HG:=hid HS.out.did.grown;clear hp au;go_wp2_with fail;exact aj rfl (GP.err HF.out ⟨rfl,ai HG.out hg⟩)
 have bN:=hid (show rY l=adu nm l4 from HE.out.trans (ag az));clear hp az HE;have HE:=bN;clear bN;have wb:=d.size;have qC:=hid (HS.out.go bj d);have hbq:=qC.out.res.lt;obtain⟨cs,hcs⟩:∃cs,cs=(bD { kind:=7,name:=nm }).toArray:=⟨_,rfl⟩;have dK:=hid (show(Tryz.prog.info? 34).map (·.size)=some cs.size by rw[hcs];exact cm);have mo:=hid (show cN.size=cs.size by rw[hcs,bB];exact bB _);have jM:=hid (show cs.all (·.oneCell')=true by rw[hcs];exact cS _);have BD:=hid (show Tryz.prog.built 34 [(0,.int .u8 7),(1,.string nm)]=some cs by rw[hcs];exact mn _ _);have HA:=hid (show vy ρ w (w.heap.size) [] lg dp w3.heap.size (w3.alloc (.cells cs 34)) l4 { kind:=7,name:=nm } { kind:=7,name:=nm } by
  rw[hcs]
  exact qC.out.start (lg2:=lg) (dp2:=dp) { kind:=7,name:=nm } { kind:=7,name:=nm } (λ p hp=>by simp at hp) Tal Tar Tal (λ W S=> { St.kv W S with kind:=rfl,name:=rfl }))
 open zdT in exact Zbt):p:=h
theorem ze6.Kbk(h:p:=by have HE:=hid (show rY l=(gK [gy,cu] >>= λ _=>ZV) l from rfl);clear h b1;go_enter Tryz.func71,Tryz.ntmps71;open zeO in exact Zcb):p:=h
theorem LS (ρ:bp)(w:World)(l:aI)(lg dp:Bool)(h:ρ.fU w l lg dp):
  Calls Tryz.prog 71 #[ρ.ptr] w (cI ρ w lg dp rY l):=by
 open ze6 in exact Zcm
def Dr:Ps St:=cY >>= λ query=>(pure { kind:=8,query }:Ps St)
theorem zeP.Kbf(h:p:=by
 go_wp2_with fail;refine(Dl ρ W0 l _ _ HS.out.did.at_).mono ?_;intro e w1 hp;rcases GP.cases hp with ⟨qd,l2,v9,az,rfl,qy,rfl,hat,d⟩|⟨m,au,rfl,hg⟩;case inr=>have HF:=hid (show Dr l=.error m from HE.out.trans (ak au));have HG:=hid HS.out.did.grown;clear hp au;go_wp2_with fail;exact aj rfl (GP.err HF.out ⟨rfl,ai HG.out hg⟩)
 have bN:=hid (show Dr l=.ok ({ kind:=8,query:=qd },l2)from HE.out.trans ((ag az).trans rfl));clear hp az HE;obtain⟨cs,hcs⟩:∃cs,cs=(bD { kind:=8,query:=qy }).toArray:=⟨_,rfl⟩;have dK:=hid (show(Tryz.prog.info? 34).map (·.size)=some cs.size by rw[hcs];exact cm);have mo:=hid (show cN.size=cs.size by rw[hcs,bB];exact bB _);have jM:=hid (show cs.all (·.oneCell')=true by rw[hcs];exact cS _);have BD:=hid (show Tryz.prog.built 34 [(0,.int .u8 8),(7,Hv qy)]=some cs by rw[hcs];exact Pw _);have lS:=hid (d.blk HS.out.res Taa);have tz:=hid (show cI ρ w lg dp Dr l (.returned (.agg cs)) (w1.setRow w.heap.size cs) by
  rw[hcs]
  refine GP.ok bN.out ⟨_,rfl,{ St.kv _ _ with kind:=rfl,query:=Qu.at_.keep (gW Taa) (Qu.at_.keep (iI w1 (show w.heap.size < W0.heap.size by omega) _) hat)},?_⟩
  have hD:=(HS.out.did.trans d).own bj (cH w1 w.heap.size (bD { kind:=8,query:=qy }).toArray) (λ G e=>by injection e with e;omega)
  simpa [St.long,St.exprs,Qu.long,Qu.exprs,cZ,any_append,any_map] using hD)
 clear d hat HS bN hcs;generalize Hv qy=qv at*;go_wp2_with (first
  |(refine ij rfl 34 _ rfl (cs:=cs) ?hv ?_;rotate_left)
  |(refine wpList_store_row rfl 34 (.tmp 2) (.tmp 5) rfl w.heap.size cs rfl rfl 34 cN lS.out dK.out mo.out jM.out ?_
    have sf:=hid (lS.out.row cs)))
 case hv=>exact BD.out
 exact bodyPost_ret (v:=.agg cs) (results_cell_row Tryz.results72 _ _ w.heap.size 34 cs (0,0) _ rfl sf.out Tryz.underlying34 rfl dK.out) rfl tz.out):p:=h
theorem ze7.Kbk(h:p:=by have HE:=hid (show Dr l=(cY >>= λ query=>(pure { kind:=8,query }:Ps St)) l from rfl);clear h b1;go_enter Tryz.func72,Tryz.ntmps72;open zeP in exact Zcb):p:=h
theorem LW (ρ:bp)(w:World)(l:aI)(lg dp:Bool)(h:ρ.fU w l lg dp):
  Calls Tryz.prog 72 #[ρ.ptr] w (cI ρ w lg dp Dr l):=by
 open ze7 in exact Zcm
variable{s:List UInt8}{P:Ps St}{t:Wd}{r:aI}
theorem mq(hk:t.k=1)(ht:t.s=s):(must s >>= λ _=>P) (t::r)=P r:=by
 rw[ag (x:=()) (r:=r)];have:gJ s t=true:=by simp[gJ,hk,ht]
 simp[must,ar,this]
theorem aaI:rY=(must gy >>= λ _=>Bj):=by show(gK [gy,cu] >>= λ _=>ZV)=_;rw[<- zx];rfl
theorem aaJ:oH=(must gY >>= λ _=>Bh):=by unfold oH;rw[<- zx];rfl
theorem aaK:nu=(must gw >>= λ _=>Bi):=rfl
theorem ZY:oF=(must fY >>= λ _=>Qi):=rfl
theorem aaL:LN=Hu:=by
 have e3:Ri=λ name aJ=>must aM >>= λ _=>must lp >>= λ _=>ZK name aJ:=by funext name aJ;exact(zx _ _ _).symm
 show(cD >>= λ name=>must bz >>= λ _=>dI iD >>= λ aJ=>Ri name aJ)=Hu;rw[e3];rfl
theorem aaM:cR=(must fj >>= λ _=>mA):=by show(must fj >>= λ _=>kP [cz,dt,iu] >>= λ s=>if s=cz then LN else if s=dt then aaG else SG)=_;rw[aaL];rfl
theorem aaN:Dr=Bk:=rfl
theorem Ds (ρ:bp)(w:World)(l:aI)(lg dp:Bool)(h:ρ.fU w l lg dp):Calls Tryz.prog 27 #[ρ.ptr] w (cI ρ w lg dp cf l):=by
 obtain⟨tk,r,pl,_,hl,_⟩:=h.mh;generalize tk.w=t at hl;subst hl;by_cases hk:t.k=1
 ·by_cases h1:t.s=cX
  ·exact oG ρ w t r lg dp h 72 Dr (enters_of Tryz.func72 Tac rfl) (λ w2 lg dp h2=>LW ρ w2 _ lg dp h2) hk (by rw[h1];rfl) (by rw[aaN];simp[cf,hk,h1])
  by_cases ki:t.s=fj
  ·exact oG ρ w t r lg dp h 67 cR (enters_of Tryz.func67 Tac rfl) (λ w2 lg dp h2=>LP ρ w2 _ lg dp h2) hk (by rw[ki];rfl) (by
    rw[aaM,mq hk ki]
    unfold cf
    simp only[hk,not_true_eq_false,if_false]
    rw[if_neg h1,if_pos ki])
  by_cases rI:t.s=fY
  ·exact oG ρ w t r lg dp h 68 oF (enters_of Tryz.func68 Tac rfl) (λ w2 lg dp h2=>UH ρ w2 _ lg dp h2) hk (by rw[rI];rfl) (by
    rw[ZY,mq hk rI]
    unfold cf
    simp only[hk,not_true_eq_false,if_false]
    rw[if_neg h1,if_neg ki,if_pos rI])
  by_cases mZ:t.s=gY
  ·exact oG ρ w t r lg dp h 69 oH (enters_of Tryz.func69 Tac rfl) (λ w2 lg dp h2=>LU ρ w2 _ lg dp h2) hk (by rw[mZ];rfl) (by
    rw[aaJ,mq hk mZ]
    unfold cf
    simp only[hk,not_true_eq_false,if_false]
    rw[if_neg h1,if_neg ki,if_neg rI,if_pos mZ])
  by_cases oI:t.s=gw
  ·exact oG ρ w t r lg dp h 70 nu (enters_of Tryz.func70 Tac rfl) (λ w2 lg dp h2=>LV ρ w2 _ lg dp h2) hk (by rw[oI];rfl) (by
    rw[aaK,mq hk oI]
    unfold cf
    simp only[hk,not_true_eq_false,if_false]
    rw[if_neg h1,if_neg ki,if_neg rI,if_neg mZ,if_pos oI])
  by_cases qF:t.s=gy
  ·exact oG ρ w t r lg dp h 71 rY (enters_of Tryz.func71 Tac rfl) (λ w2 lg dp h2=>LS ρ w2 _ lg dp h2) hk (by rw[qF];rfl) (by
    rw[aaI,mq hk qF]
    unfold cf
    simp only[hk,not_true_eq_false,if_false]
    rw[if_neg h1,if_neg ki,if_neg rI,if_neg mZ,if_neg oI,if_pos qF])
  by_cases Dt:t.s=ll
  ·exact oG ρ w t r lg dp h 73 fD (enters_of Tryz.func73 Tac rfl) (λ w2 lg dp h2=>UM ρ w2 _ lg dp h2) hk (by rw[Dt];rfl) (by
    rw[ZU,mq hk Dt]
    unfold cf
    simp only[hk,not_true_eq_false,if_false]
    rw[if_neg h1,if_neg ki,if_neg rI,if_neg mZ,if_neg oI,if_neg qF,if_pos Dt])
  refine ZB ρ w t r lg dp h hk ?_ ?_
  ·have q:∀s:List UInt8,t.s≠s->(t.s==s)=false:=λ s hs=>by simpa using hs
   simp only[Dn,List.lookup,q _ (show t.s≠ [99,114,101,97,116,101] from ki),q _ (show t.s≠ [100,114,111,112] from rI),q _ (show t.s≠ [105,110,115,101,114,116] from mZ),q _ (show t.s≠ [117,112,100,97,116,101] from oI),q _ (show t.s≠ [100,101,108,101,116,101] from qF),q _ (show t.s≠ [115,101,108,101,99,116] from h1),q _ (show t.s≠ [99,97,108,108] from Dt),Option.getD_none]
  ·unfold cf;simp only[hk,not_true_eq_false,if_false];rw[if_neg h1,if_neg ki,if_neg rI,if_neg mZ,if_neg oI,if_neg qF,if_neg Dt]
 ·exact ZA ρ w t r lg dp h hk
variable{x:Nat}
theorem ze1.Kbj(h:p:=by
 have JH:=hid hz0;rw[<- hz0] at jL;clear hz0;refine iG [] [_,_,_,_,_,_] rfl (λ i=>if i=0 then .agg z0 else if i=1 then .int .i64 p else .int .i64 x) [3,4,5] (λ vs w'=>nI w' q z0 (.int .i64 p) (.int .i64 x)/\Below q w w') (λ vs w' ⟨a,b⟩=>⟨⟨a.st.drew,a.at_.drew,a.er.drew⟩,b.drew⟩) ⟨jL,jK⟩ Tac Tac Tac Tac Tab rfl ?_ ?_
 ·refine⟨Zd6,?_,?_,?_,?_,?_,trivial⟩
  ·intro ρ w' vs hcs hG hr;have r0:ρ (.tmp 3)=.pointer (some ⟨q+1,0,none⟩):=hr.1;have hc:=hG.1.at_.cell 0;simp only[getElem?_toArray,getElem?_cons_zero] at hc;refine⟨rfl,?_⟩;show(execOp ρ _).run Tryz.prog w'=.ok (.value (.int .i64 p)) w';simp[execOp,r0,go_sem,hc]
  ·intro ρ w' vs hcs hG hr;have r0:ρ (.tmp 4)=.pointer (some ⟨q+2,0,none⟩):=hr.1;have hc:=hG.1.er.cell 0;simp only[getElem?_toArray,getElem?_cons_zero] at hc;refine⟨rfl,?_⟩;show(execOp ρ _).run Tryz.prog w'=.ok (.value (.int .i64 x)) w';simp[execOp,r0,go_sem,hc]
  ·intro ρ w' vs hcs hG hr;have r0:ρ (.tmp 2)=.pointer (some ⟨q,0,none⟩):=hr.1;have r1:ρ (.tmp 15)=.agg z0:=hr.2.1;refine⟨rfl,?_⟩;show vs.length=0->_;intro hl;obtain⟨a,b⟩:=hG;refine sN (w':=w'.setRow q z0) ?_ ?_
   ·unfold execOp;simp only[r0,r1,Instr.storeAt,Instr.sureAddr,Sem.run_bind,Sem.run_pure,Result.andThen_ok,run_storeVar_row w' q 34 34 z0 z0 a.st TaY rfl HZ1.out]
   ·rw[KY a.st];exact⟨a,b⟩
  ·intro ρ w' vs hcs hG hr;have r0:ρ (.tmp 3)=.pointer (some ⟨q+1,0,none⟩):=hr.1;have r1:ρ (.tmp 16)=.int .i64 p:=hr.2.1;refine⟨rfl,?_⟩;show vs.length=1->_;intro hl;obtain⟨a,b⟩:=hG;have hf:=a.at_.frozen 0;have hc:=a.at_.cell 0;simp only[getElem?_toArray,getElem?_cons_zero] at hc;have hlt:=a.lt;refine sN (w':=w'.setCell ⟨q+1,0,none⟩ (.int .i64 p)) (by simp[execOp,r0,r1,go_sem,hc,hf]) ?_;exact⟨⟨a.st.far (p:=⟨q+1,0,none⟩) Tae _,a.at_.cC 0 _,a.er.far (p:=⟨q+1,0,none⟩) Tae _⟩,b.trans (aO (p:=q+1) (bu (aB (Below.refl _ _)) 0 _) Taa Taa)⟩
  ·intro ρ w' vs hcs hG hr;have r0:ρ (.tmp 4)=.pointer (some ⟨q+2,0,none⟩):=hr.1;have r1:ρ (.tmp 17)=.int .i64 x:=hr.2.1;refine⟨rfl,?_⟩;show vs.length=2->_;intro hl;obtain⟨a,b⟩:=hG;have hf:=a.er.frozen 0;have hc:=a.er.cell 0;simp only[getElem?_toArray,getElem?_cons_zero] at hc;have hlt:=a.lt;refine sN (w':=w'.setCell ⟨q+2,0,none⟩ (.int .i64 x)) (by simp[execOp,r0,r1,go_sem,hc,hf]) ?_;exact⟨⟨a.st.far (p:=⟨q+2,0,none⟩) Tae _,a.at_.far (p:=⟨q+2,0,none⟩) Tae _,a.er.cC 0 _⟩,b.trans (aO (p:=q+2) (bu (aB (Below.refl _ _)) 0 _) Taa Taa)⟩
 ·intro vs w' hl hG;intro a0 z0' a1 z1 a2 z2;have z0':a0=.agg z0:=z0';have z1:a1=.int .i64 p:=z1;have z2:a2=.int .i64 x:=z2;subst z0' z1 z2;change wpList _ _ _ _ _ _;clear z0' z1 z2;go_wp2_with fail;refine PB hG.1 JG.out rfl rfl rfl ?_;unfold mE;rw[HP.out,JH.out];exact⟨rfl,hq▸hG.2⟩):p:=h
theorem zhg.Kcd(h:p:=by
 have Eg:=hid PC;clear PC b1 HL hC' D8;generalize hq:w.heap.size=q at*;go_upto_region 3 with fail
 have jL:nI ((w1.setCell ⟨q+1,0,none⟩ (.int .i64 p)).setCell ⟨q+2,0,none⟩ (.int .i64 x)) q cN (.int .i64 p) (.int .i64 x):=
  ⟨(Eg.out.st.far (p:=⟨q+1,0,none⟩) Tae _).far (p:=⟨q+2,0,none⟩) Tae _,(Eg.out.at_.cC 0 _).far (p:=⟨q+2,0,none⟩) Tae _,(Eg.out.er.far (p:=⟨q+1,0,none⟩) Tae _).cC 0 _⟩
 have g1:w1.grownBy (w1.setCell ⟨q+1,0,none⟩ (.int .i64 p)) (some (q+1)):=bu (aB (Below.refl _ _)) 0 _;have g2:(w1.setCell ⟨q+1,0,none⟩ (.int .i64 p)).grownBy ((w1.setCell ⟨q+1,0,none⟩ (.int .i64 p)).setCell ⟨q+2,0,none⟩ (.int .i64 x)) (some (q+2)):=bu (aB (Below.refl _ _)) 0 _;have jK:Below q w ((w1.setCell ⟨q+1,0,none⟩ (.int .i64 p)).setCell ⟨q+2,0,none⟩ (.int .i64 x)):=(jB.out.trans (aO g1 Taa Taa)).trans (aO g2 TaH Taa);clear g1 g2 e1 e2 f1 f2;change Code.wp _ _ _ _ ((w1.setCell ⟨q+1,0,none⟩ (.int .i64 p)).setCell ⟨q+2,0,none⟩ (.int .i64 x));generalize (w1.setCell _ _).setCell _ _=W at*;open ze1 in exact Zck):p:=h
theorem zdx.KaP(h:p:=by have HL:=D5 h (hE.later hb3) hs;have D8:=hid hb3;have hC':=hid hC;clear hb3 hC h;go_wp2_with fail;refine HL.mono ?_;rintro e w1 ⟨rfl,b1⟩;open zhg in exact ZeD):p:=h
theorem zcj.Kau(h:p:=by open zdx in exact Zbh):p:=h
theorem D7(s:ByteArray)(w:World)(hE:kX w)(hs:s.size<=4294967280) {p:Nat}(h:lY s.data.toList=.error (p,x)):Calls Tryz.prog 14 #[.string s] w (mE s w):=by
 have hx:=Uf h;have hx0:((x:Int) != 0)=true:=by rcases hx with rfl | rfl <;> rfl
 clear hx;have HP:=hid (TY h);open zcj in exact ZaJ
variable{l:List np}
theorem zid.KcE(h:p:=by rw[HPG.out,if_neg (by rw[EC];simp),if_pos Zg,JH.out];exact⟨rfl,hq▸MG.trans (hb.mono (Nat.le_of_lt (Nat.lt_of_le_of_lt (Nat.le_add_right q 2) VV.lt)))⟩):p:=h
theorem zdK.KaV(h:p:=by
 have g2:(W8.setCell ⟨q+1,0,none⟩ (.int .i64 0)).grownBy ((W8.setCell ⟨q+1,0,none⟩ (.int .i64 0)).setCell ⟨q+2,0,none⟩ (.int .i64 32)) (some (q+2)):=bu (aB (Below.refl _ _)) 0 _
 have VV:nI ((W8.setCell ⟨q+1,0,none⟩ (.int .i64 0)).setCell ⟨q+2,0,none⟩ (.int .i64 32)) q z0 (.int .i64 0) (.int .i64 32):=
  ⟨(Av.out.st.far (p:=⟨q+1,0,none⟩) Tae _).far (p:=⟨q+2,0,none⟩) Tae _,(Av.out.at_.cC 0 _).far (p:=⟨q+2,0,none⟩) Tae _,(Av.out.er.far (p:=⟨q+1,0,none⟩) Tae _).cC 0 _⟩
 open zid in exact Zgr):p:=h
theorem zie.KcE(h:p:=by rw[HPG.out,if_pos EC,JH.out];exact⟨rfl,hq▸MG.trans (hb.mono (Nat.le_of_lt (Nat.lt_of_le_of_lt (Nat.le_add_right q 2) VV.lt)))⟩):p:=h
theorem zdL.KaV(h:p:=by
 have g2:(W8.setCell ⟨q+1,0,none⟩ (.int .i64 0)).grownBy ((W8.setCell ⟨q+1,0,none⟩ (.int .i64 0)).setCell ⟨q+2,0,none⟩ (.int .i64 2)) (some (q+2)):=bu (aB (Below.refl _ _)) 0 _
 have VV:nI ((W8.setCell ⟨q+1,0,none⟩ (.int .i64 0)).setCell ⟨q+2,0,none⟩ (.int .i64 2)) q z0 (.int .i64 0) (.int .i64 2):=
  ⟨(Av.out.st.far (p:=⟨q+1,0,none⟩) Tae _).far (p:=⟨q+2,0,none⟩) Tae _,(Av.out.at_.cC 0 _).far (p:=⟨q+2,0,none⟩) Tae _,(Av.out.er.far (p:=⟨q+1,0,none⟩) Tae _).cC 0 _⟩
 open zie in exact Zgr):p:=h
theorem ziC.KcQ(h:p:=by refine wpList_store_row rfl 34 (.tmp 2) (.tmp 44) rfl q z0 rfl rfl 34 cs MQ.out.st TaY (by rw[om.out,JG.out]) HZ1.out ?_;open zdK in exact Zbo):p:=h
theorem ziD.KcQ(h:p:=by refine wpList_store_row rfl 34 (.tmp 2) (.tmp 38) rfl q z0 rfl rfl 34 cs MQ.out.st TaY (by rw[om.out,JG.out]) HZ1.out ?_;open zdL in exact Zbo):p:=h
theorem ze2.Kbj(h:p:=by
 have JH:=hid hz0;clear hz0;cases EC:d.long
 ·cases Zg:cZ d.exprs
  ·rw[EC] at c2;rw[Zg] at c3;go_upto_region 14 with fail;refine wp_region_lit ?_;refine wpList_load_row rfl 34 (.tmp 2) rfl q rfl 34 cs (0,0) _ MQ.out.st Tryz.underlying34 rfl Tba ?_;simp only[Act.put,Uac];refine wpList_store_row rfl 34 (.tmp 2) (.tmp 45) rfl q cs rfl rfl 34 cs MQ.out.st Tba rfl uD.out ?_;have Av:=hid (show nI (w7.setRow q cs) q cs (.int .i64 0) (.int .i64 0)from⟨MQ.out.st.row cs,MQ.out.at_.gU Taa cs,MQ.out.er.gU Taa cs⟩);have HB8:=hid (Wf.out.trans (aO (cH w7 q cs) Taa (Nat.le_refl _)));have HS8:=hid (show w7.heap.size=(w7.setRow q cs).heap.size by rw[size_setRow]);have Ej:=hid (St.at_.keep (iI w7 (show q < W3.heap.size by omega) cs) HA7.out);generalize w7.setRow q cs=W8 at*;have e1:=Av.out.at_.cell 0;have e2:=Av.out.er.cell 0;simp only[getElem?_toArray,getElem?_cons_zero] at e1 e2;have f1:=Av.out.at_.frozen 0;have f2:=Av.out.er.frozen 0;simp only[Act.put];go_wp2_with fail;have g1:W8.grownBy (W8.setCell ⟨q+1,0,none⟩ (.int .i64 0)) (some (q+1)):=bu (aB (Below.refl _ _)) 0 _;have g2:(W8.setCell ⟨q+1,0,none⟩ (.int .i64 0)).grownBy ((W8.setCell ⟨q+1,0,none⟩ (.int .i64 0)).setCell ⟨q+2,0,none⟩ (.int .i64 0)) (some (q+2)):=bu (aB (Below.refl _ _)) 0 _
   have VV:nI ((W8.setCell ⟨q+1,0,none⟩ (.int .i64 0)).setCell ⟨q+2,0,none⟩ (.int .i64 0)) q cs (.int .i64 0) (.int .i64 0):=
    ⟨(Av.out.st.far (p:=⟨q+1,0,none⟩) Tae _).far (p:=⟨q+2,0,none⟩) Tae _,(Av.out.at_.cC 0 _).far (p:=⟨q+2,0,none⟩) Tae _,(Av.out.er.far (p:=⟨q+1,0,none⟩) Tae _).cC 0 _⟩
   have alK:=Av.out.lt;have MG:=(HB8.out.trans (aO g1 Taa Taa)).trans (aO g2 TaH Taa);refine zG VV om.out rfl rfl rfl λ w' hb=>?_
   unfold mE;rw[HPG.out,if_neg (by rw[EC];simp),if_neg (by rw[Zg];simp)];have k1:=St.at_.keep (eU g1 (show q+1 < W3.heap.size by omega)) Ej.out;have k2:=St.at_.keep (eU g2 (show q+2 < W3.heap.size by omega)) k1;have k3:=St.at_.keep (gh hb) k2;have k4:=St.at_.keep (gW (show w.heap.size<=W3.heap.size by omega)) k3;exact⟨m,by rw[HCS.out];rfl,k4,hq▸MG.trans (hb.mono (Nat.le_of_lt (Nat.lt_of_le_of_lt (Nat.le_add_right q 2) VV.lt)))⟩
  ·rw[EC] at c2;rw[Zg] at c3;go_upto_region 13 with fail;open ziC in exact ZgT
 ·rw[EC] at c2;go_upto_region 11 with fail;open ziD in exact ZgT):p:=h
theorem zhh.Kcd(h:p:=by
 have axs:w.heap.size+2 < gl:=by have:=hC'.out.lt;omega
 have Eg:=hid PC;have HTK:=hid hc;clear PC b1 hC' D8 ht hc hgb;generalize hq:w.heap.size=q at*;have hx0:((0:Int) != 0)=false:=rfl;go_upto_region 4 with fail
 have jL:nI ((w1.setCell ⟨q+1,0,none⟩ (.int .i64 0)).setCell ⟨q+2,0,none⟩ (.int .i64 0)) q cN (.int .i64 0) (.int .i64 0):=
  ⟨(Eg.out.st.far (p:=⟨q+1,0,none⟩) Tae _).far (p:=⟨q+2,0,none⟩) Tae _,(Eg.out.at_.cC 0 _).far (p:=⟨q+2,0,none⟩) Tae _,(Eg.out.er.far (p:=⟨q+1,0,none⟩) Tae _).cC 0 _⟩
 have g1:w1.grownBy (w1.setCell ⟨q+1,0,none⟩ (.int .i64 0)) (some (q+1)):=bu (aB (Below.refl _ _)) 0 _;have g2:(w1.setCell ⟨q+1,0,none⟩ (.int .i64 0)).grownBy ((w1.setCell ⟨q+1,0,none⟩ (.int .i64 0)).setCell ⟨q+2,0,none⟩ (.int .i64 0)) (some (q+2)):=bu (aB (Below.refl _ _)) 0 _;have jK:Below q w ((w1.setCell ⟨q+1,0,none⟩ (.int .i64 0)).setCell ⟨q+2,0,none⟩ (.int .i64 0)):=(jB.out.trans (aO g1 Taa Taa)).trans (aO g2 TaH Taa)
 have alH:∀k t,l[k]?=some t->((w1.setCell ⟨q+1,0,none⟩ (.int .i64 0)).setCell ⟨q+2,0,none⟩ (.int .i64 0)).cell? ⟨gl,k*4,none⟩=some (.int .u8 t.w.k)/\((w1.setCell ⟨q+1,0,none⟩ (.int .i64 0)).setCell ⟨q+2,0,none⟩ (.int .i64 0)).cell? ⟨gl,k*4+1,none⟩=some (.string ⟨t.w.s.toArray⟩)/\((w1.setCell ⟨q+1,0,none⟩ (.int .i64 0)).setCell ⟨q+2,0,none⟩ (.int .i64 0)).cell? ⟨gl,k*4+2,none⟩=some (.int .i64 t.w.n)/\((w1.setCell ⟨q+1,0,none⟩ (.int .i64 0)).setCell ⟨q+2,0,none⟩ (.int .i64 0)).cell? ⟨gl,k*4+3,none⟩=some (.int .i64 t.p):=by
  intro k t hk;have c:=λ o=>(cell_of_heap ((g2.block gl TaH (λ e=>by injection e with e;omega)).trans (g1.block gl wy (λ e=>by injection e with e;omega))) o:_)
  obtain⟨h1,h2,h3,h4⟩:=HTK.out k t hk;exact Zdk
 have aqP:gl <((w1.setCell ⟨q+1,0,none⟩ (.int .i64 0)).setCell ⟨q+2,0,none⟩ (.int .i64 0)).heap.size:=by have h1:=g1.size;have h2:=g2.size;omega
 clear g1 g2 e1 e2 f1 f2 HTK wy Eg jB hlt;change Code.wp _ _ _ _ ((w1.setCell ⟨q+1,0,none⟩ (.int .i64 0)).setCell ⟨q+2,0,none⟩ (.int .i64 0));generalize (w1.setCell _ _).setCell _ _=W at*;have hR:=bp.afU (c:=c) aqP alH HEN.out hlen Xh.out (HE0.out.below jK);have hb4:=aa W (.cells #[.slice (some ⟨gl,0,none⟩) l.length c,.int .i64 0,.bool false,.bool false] 79);have HR:=hid hR;have HC3:=hid (jL.later hb4);have hqW:=jL.lt;have tq:=hid (jK.trans (hb4.mono (show q<=W.heap.size by omega)));clear alH hR jL jK hb4;go_upto_region 6 with fail;change Code.wp _ _ _ _ (W.alloc (.cells #[.slice (some ⟨gl,0,none⟩) l.length c,.int .i64 0,.bool false,.bool false] 79));generalize hρ:(⟨W.heap.size,gl,c,l⟩:bp)=ρ at*;have aqR:ρ.g=W.heap.size:=by rw[<- hρ]
 have axt:ρ.gl=gl:=by rw[<- hρ]
 have CE:ρ.ptr=.pointer (some ⟨W.heap.size,0,none⟩):=by rw[<- hρ];rfl
 have HPL:=hid (show∀n,ρ.placeOf n=((l[l.length - n]?).map (·.p)).getD 0 from λ n=>by rw[<- hρ];rfl);rw[<- CE];clear hρ hx0;generalize hWA:(W.alloc _)=W3 at*;have hs3:W3.heap.size=W.heap.size+1:=by rw[<- hWA];simp
 clear hWA;generalize W.heap.size=g at*;have HPT:=hid CE;clear CE;have HS:=hid (Ds ρ W3 _ false false HR.out);go_wp2_with fail;refine HS.out.mono ?_;clear HS;intro e w4 hp;rcases GP.cases hp with ⟨d,r,v,az,rfl,m,rfl,hat,dd⟩|⟨n,au,rfl,hgr⟩
 ·clear hp;simp only[Bool.false_or] at dd;have VU:=HC3.out.grown dd.grown Taa;have hb4:=tq.out.trans (aO dd.grown Taa Taa);obtain⟨cs,hcs⟩:∃cs,cs=(bD m).toArray:=⟨_,rfl⟩;have om:=hid (show cs.size=28 by rw[hcs];rfl);have uD:=hid (show cs.all (·.oneCell')=true by rw[hcs];exact cS _);have HCS:=hid hcs;have hcr:nI (w4.setRow q cs) q cs (.int .i64 0) (.int .i64 0):=⟨VU.st.row cs,VU.at_.gU Taa cs,VU.er.gU Taa cs⟩;have hbr:=hb4.trans (aO (cH w4 q cs) (by have:=VU.lt;omega) (Nat.le_refl _));have N6:=dd.at_.afV (b:=q) cs Taa Taa ⟨q,by omega,HE0.out.below hbr⟩;have har:=St.at_.keep (iI w4 (show q < W3.heap.size by omega) cs) hat;have HC4:=hid VU;unfold ji;rw[<- hcs];clear hcs hat dd VU hb4 HC3 tq HR;go_upto_region 7 with (first
   |(refine wpList_store_row rfl 34 (.tmp 2) (.tmp 23) rfl q cs rfl rfl 34 cN HC4.out.st Tba (by rw[om.out];rfl) uD.out ?_))
  clear HC4;generalize w4.setRow q cs=W5 at*;have HV:=hid (br ρ W5 r d.long (cZ d.exprs) N6 ⟨#[59]⟩);have HC5:=hid hcr;have Z4:=hid hbr;have EL:=hid har;clear hcr hbr har N6;go_wp2_with fail;refine HV.out.mono ?_;clear HV;rintro e w6 ⟨rfl,dd⟩;replace dd:aY ρ W5 w6 (iJ yU r) d.long (cZ d.exprs):=dd;have ER:=tL yU r;have hc6:=HC5.out.grown dd.grown Taa;have SP:=Z4.out.trans (aO dd.grown (by have:=HC5.out.lt;omega) Taa);have ha6:=St.at_.keep (eU dd.grown (show ρ.g < W3.heap.size by omega)) EL.out;obtain⟨tk,r6,pl,qD,hl6,sK⟩:=dd.at_.mh;clear sK;have eN:=ie ρ w6 _ _ _ dd.at_;have CY:=jH ρ w6 _ _ _ dd.at_;rw[<- qD] at eN;rw[hl6] at ER CY dd;have HD:=hid dd;have HN:=hid eN;have HFL:=hid CY;have HC6:=hid hc6;have HB6:=hid SP;have BB:=hid ha6;have jh:=hid az;have HME:=hid ER;clear dd eN CY hc6 SP ha6 ER qD hl6 HC5 Z4 EL az;obtain⟨⟨k9,s9,n9⟩,p9⟩:=tk;simp only at HD HFL HME;unfold cn at HN;have VQ:=zB (.int .u8 k9) (.string ⟨s9.toArray⟩) (.int .i64 n9) (.int .i64 p9);by_cases hk:k9=0
  ·have alJ:yZ (l.map (·.w))=.ok (d,⟨k9,s9,n9⟩::r6):=by refine(ag (f:=λ s=>may yU >>= λ _=>Ck >>= λ _=>(pure s:Ps St)) jh.out).trans ?_;refine(ag (f:=λ _=>Ck >>= λ _=>(pure d:Ps St)) HME.out).trans ?_;exact(ag (x:=()) (f:=λ _=>(pure d:Ps St)) (by simp only[Ck,hk,if_true])).trans rfl
   have HPG:=hid (OM HLL.out alJ);clear alJ HFL;have AB:((k9:Int) != 0)=false:=by simp[hk]
   clear hk;go_wp2_with fail;refine HN.out.mono ?_;clear HN;rintro e w7 ⟨rfl,b7⟩;have CE:=HPT.out;obtain⟨h70,h71,c2,c3,h72⟩:=(HD.out.at_.later b7).facts;clear h70 h71 h72;rw[aqR] at c2 c3;have O1:=HC6.out.later b7;have Xk:=HB6.out.trans (b7.mono (show q<=w6.heap.size by have:=HC6.out.lt;omega));have ha7:=St.at_.keep (gh b7) BB.out;have axy:=O1.lt;have MQ:=hid O1;have Wf:=hid Xk;have HA7:=hid ha7;clear b7 O1 Xk ha7 HC6 HB6 BB HD;open ze2 in exact Zck
  ·have AB:((k9:Int) != 0)=true:=by simp;omega
   have hpe:lz s.data.toList=.error (ρ.placeOf (⟨k9,s9,n9⟩::r6:aI).length,31):=by rw[FV (n:=(⟨k9,s9,n9⟩::r6:aI).length) HLL.out,<- HPL.out];refine(ag (f:=λ s=>may yU >>= λ _=>Ck >>= λ _=>(pure s:Ps St)) jh.out).trans ?_;refine(ag (f:=λ _=>Ck >>= λ _=>(pure d:Ps St)) HME.out).trans ?_;exact ak (by simp only[Ck,hk,if_false])
   go_wp2_with fail;refine HN.out.mono ?_;clear HN HFL;rintro e w7 ⟨rfl,b7⟩;have O1:=HC6.out.later b7;have Xk:=HB6.out.trans (b7.mono (show q<=w6.heap.size by have:=HC6.out.lt;omega));have HFL:=hid (jH ρ w7 _ _ _ (HD.out.at_.later b7));have MQ:=hid O1;have Wf:=hid Xk;clear b7 O1 Xk HC6 HB6 HD;go_wp2_with fail;refine HFL.out.mono ?_;rintro e w8 ⟨rfl,hgr⟩;have hc8:=MQ.out.grown hgr Taa;have hb8:=Wf.out.trans (aO hgr (by have:=MQ.out.lt;omega) Taa);refine Du (N:=q) hc8 om.out (Nat.le_refl _) (ρ.placeOf (⟨k9,s9,n9⟩::r6:aI).length) rfl rfl rfl λ w' hb=>?_
   unfold mE;rw[hpe];exact⟨rfl,hq▸hb8.trans hb⟩
 ·have VU:=HC3.out.grown hgr Taa;have hpe:lz s.data.toList=.error (ρ.placeOf n,31):=by rw[FV HLL.out (ak au),<- HPL.out]
  have hb4:=tq.out.trans (aO hgr Taa Taa);refine Du (N:=q) VU rfl (Nat.le_refl _) (ρ.placeOf n) rfl rfl rfl λ w' hb=>?_
  unfold mE;rw[hpe];exact⟨rfl,hq▸hb4.trans hb⟩):p:=h
theorem zdy.KaP(h:p:=by have HL:=aaO hl (hE.later hb3) hs;have D8:=hid hb3;have hC':=hid hC;clear hb3 hC hl hE;go_wp2_with fail;refine HL.mono ?_;clear HL;rintro e w1 ⟨A,c,rfl,ht,b1⟩;obtain⟨gl,rfl,hgb,wy,hc⟩:=ht.cells hne;open zhh in exact ZeD):p:=h
theorem zck.Kau(h:p:=by open zdy in exact Zbh):p:=h
theorem E0(s:ByteArray)(w:World)(hE:kX w)(hs:s.size<=4294967280) (hl:lY s.data.toList=.ok l):Calls Tryz.prog 14 #[.string s] w (mE s w):=by
 obtain⟨t0,r0,hl0⟩:=TX hl;obtain⟨_,hlen,hwd⟩:=Bv hl;have hne:l≠ []:=by rw[hl0];simp
 have HEN:=hid (FU hl);have Xh:=hid hwd;have HLL:=hid hl;have HE0:=hid (Env.mk0 hE);clear hl0 hwd;open zck in exact ZaJ
theorem PD (s:ByteArray)(w:World)(hE:kX w)(hs:s.size<=4294967280):Calls Tryz.prog 14 #[.string s] w (mE s w):=by
 cases hl:lY s.data.toList with
 | error x=>obtain⟨p,x⟩:=x;exact D7 s w hE hs hl
 | ok l=>exact E0 s w hE hs hl
def na (w:World)(e:Ending)(w':World):Prop:=∃b:Bool,e=.returned (.bool b)/\Below w.heap.size w w'
theorem zbG.Kao(h:p:=by rw[<- Aw] at FP x2 ⊢;clear Aw;have t1:decide ((200:Int)<(y.aJ.n:Int))=true:=decide_eq_true Taa;clear h0;exact ZcA):p:=h
theorem zd9.Ka2(h:p:=by
 have x2:(w.alloc (.cells cs 34)).cell? ⟨w.heap.size,2,none⟩=some (.slice y.aJ.A y.aJ.n y.aJ.c):=by rw[hcs];exact k1.cell 2
 open zbG in exact Zay):p:=h
theorem UQ (y:fl)(w:World)(hn:y.aJ.n<=4611686018427387904/\y.rows.n<=4611686018427387904/\y.aS.n<=4611686018427387904/\y.query.items.n<=4611686018427387904/\y.query.order.n<=4611686018427387904/\y.query.aG.n<=4611686018427387904)(hs:y.name.size<=1048576/\y.time.size<=1048576/\y.space.size<=1048576/\y.cr.size<=1048576/\y.query.aK.size<=1048576/\y.aK.s.size<=1048576/\y.cP.s.size<=1048576)(h0:200 < y.aJ.n):Calls Tryz.prog 7 #[ji y] w (na w):=by
 open zd9 in exact ZbE
theorem zbH.Kao(h:p:=by rw[<- Aw] at FP x2 wj ⊢;clear Aw;have t1:decide ((200:Int)<(y.aJ.n:Int))=false:=decide_eq_false Taa;have t2:decide ((200:Int)<(y.rows.n:Int))=true:=decide_eq_true Taa;clear h0 h1;exact ZcA):p:=h
theorem zea.Ka2(h:p:=by
 have x2:(w.alloc (.cells cs 34)).cell? ⟨w.heap.size,2,none⟩=some (.slice y.aJ.A y.aJ.n y.aJ.c):=by rw[hcs];exact k1.cell 2
 have wj:(w.alloc (.cells cs 34)).cell? ⟨w.heap.size,19,none⟩=some (.slice y.rows.A y.rows.n y.rows.c):=by rw[hcs];exact k1.cell 19
 open zbH in exact Zay):p:=h
theorem UR (y:fl)(w:World)(hn:y.aJ.n<=4611686018427387904/\y.rows.n<=4611686018427387904/\y.aS.n<=4611686018427387904/\y.query.items.n<=4611686018427387904/\y.query.order.n<=4611686018427387904/\y.query.aG.n<=4611686018427387904)(hs:y.name.size<=1048576/\y.time.size<=1048576/\y.space.size<=1048576/\y.cr.size<=1048576/\y.query.aK.size<=1048576/\y.aK.s.size<=1048576/\y.cP.s.size<=1048576)(h0:¬200 < y.aJ.n)(h1:200 < y.rows.n):Calls Tryz.prog 7 #[ji y] w (na w):=by
 open zea in exact ZbE
theorem ziW.KcZ(h:p:=by have t3:decide ((200:Int)<(y.aS.n:Int))=true:=decide_eq_true Taa;clear h0 h1 h2;exact ZcA):p:=h
theorem zbI.Kao(h:p:=by rw[<- Aw] at FP x2 wj AW ⊢;open ziW in exact Zhr):p:=h
theorem zaN.Kae(h:p:=by open zbI in exact Zay):p:=h
theorem UT (y:fl)(w:World)(hn:y.aJ.n<=4611686018427387904/\y.rows.n<=4611686018427387904/\y.aS.n<=4611686018427387904/\y.query.items.n<=4611686018427387904/\y.query.order.n<=4611686018427387904/\y.query.aG.n<=4611686018427387904)(hs:y.name.size<=1048576/\y.time.size<=1048576/\y.space.size<=1048576/\y.cr.size<=1048576/\y.query.aK.size<=1048576/\y.aK.s.size<=1048576/\y.cP.s.size<=1048576)(h0:¬200 < y.aJ.n)(h1:¬200 < y.rows.n)(h2:200 < y.aS.n):Calls Tryz.prog 7 #[ji y] w (na w):=by
 open zaN in exact Zah
theorem zd5.Ka1(h:p:=by have t4:decide ((200:Int)<(y.query.items.n:Int))=true:=decide_eq_true Taa;clear h0 h1 h2 h3;exact ZcA):p:=h
theorem zbJ.Kao(h:p:=by rw[<- Aw] at FP x2 wj AW x7 ⊢;open zd5 in exact ZbC):p:=h
theorem zaO.Kae(h:p:=by
 have x7:(w.alloc (.cells cs 34)).cell? ⟨w.heap.size,7,none⟩=some (.slice y.query.items.A y.query.items.n y.query.items.c):=by rw[hcs];exact k1.cell 7
 open zbJ in exact Zay):p:=h
theorem UU (y:fl)(w:World)(hn:y.aJ.n<=4611686018427387904/\y.rows.n<=4611686018427387904/\y.aS.n<=4611686018427387904/\y.query.items.n<=4611686018427387904/\y.query.order.n<=4611686018427387904/\y.query.aG.n<=4611686018427387904)(hs:y.name.size<=1048576/\y.time.size<=1048576/\y.space.size<=1048576/\y.cr.size<=1048576/\y.query.aK.size<=1048576/\y.aK.s.size<=1048576/\y.cP.s.size<=1048576)(h0:¬200 < y.aJ.n)(h1:¬200 < y.rows.n)(h2:¬200 < y.aS.n)(h3:200 < y.query.items.n):Calls Tryz.prog 7 #[ji y] w (na w):=by
 open zaO in exact Zah
theorem zd6.Ka1(h:p:=by have t4:decide ((200:Int)<(y.query.items.n:Int))=false:=decide_eq_false Taa;have t5:decide ((200:Int)<(y.query.order.n:Int))=true:=decide_eq_true Taa;clear h0 h1 h2 h3 h4;exact ZcA):p:=h
theorem zbK.Kao(h:p:=by rw[<- Aw] at FP x2 wj AW x7 AV ⊢;open zd6 in exact ZbC):p:=h
theorem zaP.Kae(h:p:=by
 have x7:(w.alloc (.cells cs 34)).cell? ⟨w.heap.size,7,none⟩=some (.slice y.query.items.A y.query.items.n y.query.items.c):=by rw[hcs];exact k1.cell 7
 have AV:(w.alloc (.cells cs 34)).cell? ⟨w.heap.size,13,none⟩=some (.slice y.query.order.A y.query.order.n y.query.order.c):=by rw[hcs];exact k1.cell 13
 open zbK in exact Zay):p:=h
theorem UW (y:fl)(w:World)(hn:y.aJ.n<=4611686018427387904/\y.rows.n<=4611686018427387904/\y.aS.n<=4611686018427387904/\y.query.items.n<=4611686018427387904/\y.query.order.n<=4611686018427387904/\y.query.aG.n<=4611686018427387904)(hs:y.name.size<=1048576/\y.time.size<=1048576/\y.space.size<=1048576/\y.cr.size<=1048576/\y.query.aK.size<=1048576/\y.aK.s.size<=1048576/\y.cP.s.size<=1048576)(h0:¬200 < y.aJ.n)(h1:¬200 < y.rows.n)(h2:¬200 < y.aS.n)(h3:¬200 < y.query.items.n)(h4:200 < y.query.order.n):Calls Tryz.prog 7 #[ji y] w (na w):=by
 open zaP in exact Zah
theorem ziJ.KcT(h:p:=by have t6:decide ((200:Int)<(y.query.aG.n:Int))=true:=decide_eq_true Taa;clear h0 h1 h2 h3 h4 h5;exact ZcA):p:=h
theorem zd7.Ka1(h:p:=by open ziJ in exact Zg0):p:=h
theorem zbL.Kao(h:p:=by rw[<- Aw] at FP x2 wj AW x7 AV CT ⊢;open zd7 in exact ZbC):p:=h
theorem zfK.KbA(h:p:=by
 have CT:(w.alloc (.cells cs 34)).cell? ⟨w.heap.size,14,none⟩=some (.slice y.query.aG.A y.query.aG.n y.query.aG.c):=by rw[hcs];exact k1.cell 14
 open zbL in exact Zay):p:=h
theorem zaQ.Kae(h:p:=by open zfK in exact Zc2):p:=h
theorem UX (y:fl)(w:World)(hn:y.aJ.n<=4611686018427387904/\y.rows.n<=4611686018427387904/\y.aS.n<=4611686018427387904/\y.query.items.n<=4611686018427387904/\y.query.order.n<=4611686018427387904/\y.query.aG.n<=4611686018427387904)(hs:y.name.size<=1048576/\y.time.size<=1048576/\y.space.size<=1048576/\y.cr.size<=1048576/\y.query.aK.size<=1048576/\y.aK.s.size<=1048576/\y.cP.s.size<=1048576)(h0:¬200 < y.aJ.n)(h1:¬200 < y.rows.n)(h2:¬200 < y.aS.n)(h3:¬200 < y.query.items.n)(h4:¬200 < y.query.order.n)(h5:200 < y.query.aG.n):Calls Tryz.prog 7 #[ji y] w (na w):=by
 open zaQ in exact Zah
theorem zbv.Kal(h:p:=by have t7:decide ((5000:Int)<(y.name.size:Int)+(y.time.size:Int)+(y.space.size:Int)+(y.cr.size:Int)+(y.query.aK.size:Int)+(y.aK.s.size:Int)+(y.cP.s.size:Int))=true:=decide_eq_true Taa;clear h0 h1 h2 h3 h4 h5 h6;exact ZcA):p:=h
theorem zaR.Kae(h:p:=by open zbv in exact Zar):p:=h
theorem UY (y:fl)(w:World)(hn:y.aJ.n<=4611686018427387904/\y.rows.n<=4611686018427387904/\y.aS.n<=4611686018427387904/\y.query.items.n<=4611686018427387904/\y.query.order.n<=4611686018427387904/\y.query.aG.n<=4611686018427387904)(hs:y.name.size<=1048576/\y.time.size<=1048576/\y.space.size<=1048576/\y.cr.size<=1048576/\y.query.aK.size<=1048576/\y.aK.s.size<=1048576/\y.cP.s.size<=1048576)(h0:¬200 < y.aJ.n)(h1:¬200 < y.rows.n)(h2:¬200 < y.aS.n)(h3:¬200 < y.query.items.n)(h4:¬200 < y.query.order.n)(h5:¬200 < y.query.aG.n)(h6:5000 < y.name.size+y.time.size+y.space.size+y.cr.size+y.query.aK.size+y.aK.s.size+y.cP.s.size):Calls Tryz.prog 7 #[ji y] w (na w):=by
 open zaR in exact Zah
end Go.Proofs.YtehhdlgjfdnafaaGreatDoor
