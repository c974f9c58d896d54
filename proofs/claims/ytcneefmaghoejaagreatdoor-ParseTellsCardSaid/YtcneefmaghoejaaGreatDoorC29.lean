/- Parts of the proof. -/
import Derived.Test.YtcneefmaghoejaaGreatDoorC28
namespace Go.Proofs.YtcneefmaghoejaaGreatDoor
open Go.Lib (hid)
open Go.ChangeShapes Go.WideShapes Go.ChangeAt Go.RowKit
set_option linter.unusedVariables false
set_option linter.unusedSimpArgs false
def A5 (name:ByteArray)(ej:List (ByteArray×Tr))(bK:List Tr):Ps St:=return { kind:=6,name,ej,bK }
def A6 (name:ByteArray)(ej:List (ByteArray×Tr)):Ps St:=do
 let bK ← cL eO
 A5 name ej bK
def A7 (name:ByteArray):Ps St:=do
 let ej ← dx oJ
 A6 name ej
def B3 (name:ByteArray):Ps St:=do
 must qU
 A7 name
def TI:Ps St:=do
 let name ← aN
 B3 name
def nr:Ps St:=must ey >>= fun _=>TI
set_option maxHeartbeats 4000000
set_option maxRecDepth 100000
theorem IU (ρ:br)(w:World)(l:bH)(lg dp:Bool)(h:ρ.ij w l lg dp):
  Calls Tryz.prog 39 #[ρ.ptr] w (dJ ρ w lg dp nr l):=by
 have aF:=h.jt;have b2:=ah.then (aa w (.cells #[ρ.ptr] 58)) (aa _ (iL {}))
 have hP:=(au.new w 58 #[ρ.ptr]).alloc (iL {});have hR:=au.new (w.alloc (.cells #[ρ.ptr] 58)) 35 dA;rw[World.size_alloc] at hR;have HS:=hid (show yT ρ w (w.heap.size+1) [w.heap.size] lg dp ((w.alloc (.cells #[ρ.ptr] 58)).alloc (iL {})) l from⟨bJ.aL h b2,hR,Nat.le_succ _,fun p hp=>by simp at hp;subst hp;exact⟨Nat.le_refl _,by omega,hP⟩⟩);have VH:∀fn first cap w,(Instr.makeFunc fn first cap).run Tryz.prog w=.ok (.func fn first cap) w:=fun _ _ _ _=>rfl
 have HE:=hid (show nr l=(must ey >>= fun _=>TI) l from rfl);clear h b2 hP hR;go_enter Tryz.func39,Tryz.ntmps39;go_upto_region 1 with fail
 change Code.wp _ _ _ _ ((w.alloc (.cells #[ρ.ptr] 58)).alloc (iL {}));generalize hW:(World.alloc _ _)=W0 at*;clear hW;have zj:w.heap.size+1 < W0.heap.size:=HS.out.res.lt;have hb:=aa W0 (.cells (aj [ey]) 9);have HB:=hid (HS.out.later hb);have ly:=HS.out.res.lt;have p0:=HS.out.ptr;have hm:=bF ρ _ l _ _ HB.out.did.at_ [ey] W0.heap.size 1 rfl (au.new W0 _ _) (by omega) (by omega);clear hb HS;unfold aj strOf at hm HB;simp only[List.map_cons,List.map_nil] at hm HB;rw[show ey.toArray= #[117,112,100,97,116,101] from rfl] at hm HB;go_wp2_with fail;refine hm.mono ?_;clear hm p0;intro e w1 hp;rcases hp.cases with ⟨_,l2,v9,aO,rfl,rfl,d⟩|⟨m,ar,rfl,hg⟩;case inr=>have HF:=hid (show nr l=.error m from HE.out.trans (ai (show must ey l=.error m by rw[← aD];exact ar)));have HG:=hid HB.out.did.grown;clear hp ar;go_wp2_with fail;exact ag rfl (GP.err HF.out ⟨rfl,af HG.out hg⟩)
 have cm:=hid (show nr l=TI l2 from HE.out.trans (ak (show must ey l=.ok ((),l2) by rw[← aD];exact aO)));have HS:=hid (HB.out.go aF d);clear hp aO d HB HE ly;have HE:=cm;clear cm;have p0:=HS.out.ptr;go_wp2_with fail;refine(fg ρ w1 l2 _ _ HS.out.did.at_).mono ?_;clear p0;intro e w3 hp;rcases hp.cases with ⟨nm,l4,v9,aO,rfl,rfl,d⟩|⟨m,ar,rfl,hg⟩;case inr=>have HF:=hid (show nr l=.error m from HE.out.trans (ai ar));have HG:=hid HS.out.did.grown;clear hp ar;go_wp2_with fail;exact ag rfl (GP.err HF.out ⟨rfl,af HG.out hg⟩)
 have cm:=hid (show nr l=B3 nm l4 from HE.out.trans (ak aO));clear hp aO HE;have HE:=cm;clear cm;have Ge:=d.size;have pX:=hid (HS.out.go aF d);have Y2:=pX.out.res.lt;obtain⟨cs,hcs⟩:∃cs,cs=(cx { kind:=6,name:=nm }).toArray:=⟨_,rfl⟩;have il:=hid (show(Tryz.prog.info? 35).map (·.size)=some cs.size by rw[hcs];exact cD);have kK:=hid (show dA.size=cs.size by rw[hcs,bP];exact bP _);have jD:=hid (show cs.all (·.oneCell')=true by rw[hcs];exact dI _);have zD:=hid (show Tryz.prog.built 35 [(0,.int .u8 6),(1,.string nm)]=some cs by rw[hcs];exact mr _ _);have HA:=hid (show uC ρ w (w.heap.size+1) [w.heap.size] lg dp w3.heap.size (w3.alloc (.cells cs 35)) l4 { kind:=6,name:=nm } { kind:=6,name:=nm } by
  rw[hcs]
  exact pX.out.start (lg2:=lg) (dp2:=dp) { kind:=6,name:=nm } { kind:=6,name:=nm } (fun p hp=>by simp at hp;subst hp;omega) (by simp[St.long,Qu.long]) (by simp[St.exprs,Qu.exprs,dU]) (by simp[St.long,Qu.long]) (fun W S=> { St.fq W S with kind:=rfl,name:=rfl }))
 clear d HS pX hcs;go_upto_region 3 with (first
  |(refine ja rfl 35 _ rfl (cs:=cs) ?hv ?_;rotate_left)
  |(refine wpList_store_row rfl 35 (.tmp 3) (.tmp 9) rfl w3.heap.size cs rfl rfl 35 dA (au.new w3 35 dA) il.out kK.out jD.out ?_
    rw[iy]))
 case hv=>exact zD.out
 generalize hb:w3.heap.size=b at*;generalize hW:(World.alloc _ _)=WB at*;clear hW hb Ge zD jD kK il;have hb:=aa WB (.cells (aj [qU]) 9);have HB:=hid (HA.out.later hb);have ly:=HA.out.blk.lt;have p0:=HA.out.sa.ptr;have hm:=bF ρ _ l4 _ _ HB.out.sa.did.at_ [qU] WB.heap.size 1 rfl (au.new WB _ _) (by omega) (by omega);clear hb HA;unfold aj strOf at hm HB;simp only[List.map_cons,List.map_nil] at hm HB;rw[show qU.toArray= #[115,101,116] from rfl] at hm HB;go_wp2_with fail;refine hm.mono ?_;clear hm p0;intro e w5 hp;rcases hp.cases with ⟨_,l6,v9,aO,rfl,rfl,d⟩|⟨m,ar,rfl,hg⟩;case inr=>have HF:=hid (show nr l=.error m from HE.out.trans (ai (show must qU l4=.error m by rw[← aD];exact ar)));have HG:=hid HB.out.sa.did.grown;clear hp ar;go_wp2_with fail;exact ag rfl (GP.err HF.out ⟨rfl,af HG.out hg⟩)
 have cm:=hid (show nr l=A7 nm l6 from HE.out.trans (ak (show must qU l4=.ok ((),l6) by rw[← aD];exact aO)));have HA:=hid (HB.out.go aF d);clear hp aO d HB HE ly;have HE:=cm;clear cm;have p0:=HA.out.sa.ptr;have F:=HA.out.fit aF 20 (by decide);have L:M6 ρ w (fun x=>decide (32 < x.2.depth)) oJ 78 #[.pointer (some ⟨w.heap.size,0,none⟩),.pointer (some ⟨b,0,none⟩)] ((Xv ρ w (w.heap.size+1) w.heap.size b { kind:=6,name:=nm } { kind:=6,name:=nm } 20).acc pK 73):=
  ⟨kg,enters_of Tryz.func78 (by kernel_rfl) rfl,fun acc a b hs hg _=>by obtain⟨v,h⟩:=hs;exact⟨v,h.grown F hg⟩,fun acc W l lg dp hn hs hd=>Pk _ F rfl rfl acc W l lg dp hn hs hd⟩
 have hm:=nP ρ w (fun x=>decide (32 < x.2.depth)) oJ 78 #[.pointer (some ⟨w.heap.size,0,none⟩),.pointer (some ⟨b,0,none⟩)] _ L w5 l6 _ _ HA.out.sa.did (HA.out.start pK 73 20 rfl) aF;clear L F;go_wp2_with fail;refine hm.mono ?_;clear hm p0;intro e w7 hp;unfold jx at hp;cases hx:dx oJ l6 with
 | error m=>rw[hx] at hp;obtain⟨rfl,hg⟩:=hp;have HF:=hid (show nr l=.error m from HE.out.trans (ai hx));clear hx;go_wp2_with fail;exact ag rfl (GP.err HF.out ⟨rfl,hg⟩)
 | ok z=>
   obtain⟨ej,l8⟩:=z;rw[hx] at hp;obtain⟨rfl,hs,hd⟩:=hp;obtain⟨so,hA⟩:=HA.out.list (m':=fun so=> { kind:=6,name:=nm,ej:=so }) (d':= { kind:=6,name:=nm,ej:=ej }) hs hd (fun _=>rfl) (by simp[St.long,Qu.long,Bool.or_assoc]) (by simp[St.exprs,Qu.exprs,dU,List.any_append,List.any_map,List.any_flatten,Function.comp_def,Bool.or_assoc]) (fun so fE hat=> { hat with ej:=fE });have cm:=hid (show nr l=A6 nm ej l8 from HE.out.trans (ak hx));have gG:=hid hA;clear hx hA hs hd HA HE;have HA:=gG;have HE:=cm;clear gG cm;go_upto_region 5 with fail
   have p0:=HA.out.sa.ptr;go_wp2_with fail;refine(yt ρ w7 l8 _ _ HA.out.sa.did.at_ eO ⟨#[119,104,101,114,101]⟩ rfl).mono ?_;clear p0;intro e w9 hp;rcases GP.cases hp with ⟨bK,uq,v9,aO,rfl,⟨A,n,c⟩,rfl,fE,d⟩|⟨m,ar,rfl,hg⟩;case inr=>have HF:=hid (show nr l=.error m from HE.out.trans (ai ar));have HG:=hid HA.out.sa.did.grown;clear hp ar;go_wp2_with fail;exact ag rfl (GP.err HF.out ⟨rfl,af HG.out hg⟩)
   have cm:=hid (show nr l=A5 nm ej bK uq from HE.out.trans (ak aO));clear hp aO HE;have HE:=cm;clear cm;have ly:=HA.out.blk.lt;have hX:=d.blk HA.out.blk (by have:=HA.out.qb;have:=HA.out.sa.qw;omega);have hc:w9.cell? ⟨b,21,none⟩=_:=hX.cell 21;have hf:w9.frozen? ⟨b,21,none⟩=_:=hX.frozen 21;have gG:=hid (HA.out.set (m':= { kind:=6,name:=nm,ej:=so,bK:=⟨A,n,c⟩}) (d':= { kind:=6,name:=nm,ej:=ej,bK:=bK }) aF d 21 (.slice A n c) rfl (by simp[St.long,Qu.long,Bool.or_assoc]) (by simp[St.exprs,Qu.exprs,dU,List.any_append,List.any_map,List.any_flatten,Function.comp_def,Bool.or_assoc]) (fun hat=> { hat with bK:=El.lies.more fE (by omega)}));clear hX d HA;have HA:=gG;clear gG;unfold cx lx eP fI at hc;try unfold eP
   go_upto_region 6 with fail
   clear hc hf;generalize w9.setCell _ _=QO at*;obtain⟨P0,TG⟩:∃s:Sl,s=⟨A,n,c⟩:=⟨_,rfl⟩;rw[← TG] at HA;clear TG ly fE;have HX:=hid (show nr l=.ok ({ kind:=6,name:=nm,ej:=ej,bK:=bK },uq)from HE.out);obtain⟨cs,hcs⟩:∃cs,cs=(cx { kind:=6,name:=nm,ej:=so,bK:=P0 }).toArray:=⟨_,rfl⟩;have il:=hid (show(Tryz.prog.info? 35).map (·.size)=some cs.size by rw[hcs];exact cD);have kK:=hid (show dA.size=cs.size by rw[hcs,bP];exact bP _);have jD:=hid (show cs.all (·.oneCell')=true by rw[hcs];exact dI _);have uD:=hid (show au QO b 35 cs by rw[hcs];exact HA.out.blk);have kW:=hid HA.out.sa.res;have gf:=hid (show dJ ρ w lg dp nr l (.returned (.agg cs)) (QO.setRow (w.heap.size+1) cs) by rw[hcs];exact HA.out.post aF HX.out);clear HA HX hcs HE;refine wp_region_lit ?_;refine wpList_load_row rfl 35 (.tmp 3) rfl b rfl 35 cs (0,0) _ uD.out Tryz.underlying35 rfl il.out ?_;refine wpList_store_row rfl 35 (.tmp 2) (.tmp 19) rfl (w.heap.size+1) cs rfl rfl 35 dA kW.out il.out kK.out jD.out ?_;refine wpList_nil ?_;simp only[Act.put,List.setIfInBounds_toArray,List.set_cons_succ,List.set_cons_zero];have jy:=hid (kW.out.row cs);clear uD kW jD;generalize QO.setRow (w.heap.size+1) cs=WF at*;go_wp2_with fail;exact bodyPost_ret (v:=.agg cs) (results_cell_row Tryz.results39 _ _ (w.heap.size+1) 35 cs (0,0) _ rfl jy.out Tryz.underlying35 rfl il.out) rfl gf.out
def Bp:Ps St:=cH >>= fun query=>(pure { kind:=8,query }:Ps St)
theorem IV (ρ:br)(w:World)(l:bH)(lg dp:Bool)(h:ρ.ij w l lg dp):
  Calls Tryz.prog 41 #[ρ.ptr] w (dJ ρ w lg dp Bp l):=by
 have aF:=h.jt;have b1:=aa w (iL {});have HS:=hid (show yT ρ w w.heap.size [] lg dp (w.alloc (iL {})) l from⟨bJ.aL h b1,au.new w _ _,Nat.le_refl _,fun p hp=>by simp at hp⟩);have HE:=hid (show Bp l=(cH >>= fun query=>(pure { kind:=8,query }:Ps St)) l from rfl);clear h b1;go_enter Tryz.func41,Tryz.ntmps41;go_upto_region 1 with fail
 change Code.wp _ _ _ _ (w.alloc (iL {}));generalize hW:(World.alloc _ _)=W0 at*;clear hW;have zj:w.heap.size < W0.heap.size:=HS.out.res.lt;go_wp2_with fail;refine(Bj ρ W0 l _ _ HS.out.did.at_).mono ?_;intro e w1 hp;rcases GP.cases hp with ⟨qd,l2,v9,aO,rfl,qy,rfl,hat,d⟩|⟨m,ar,rfl,hg⟩;case inr=>have HF:=hid (show Bp l=.error m from HE.out.trans (ai ar));have HG:=hid HS.out.did.grown;clear hp ar;go_wp2_with fail;exact ag rfl (GP.err HF.out ⟨rfl,af HG.out hg⟩)
 have cm:=hid (show Bp l=.ok ({ kind:=8,query:=qd },l2)from HE.out.trans ((ak aO).trans rfl));clear hp aO HE;obtain⟨cs,hcs⟩:∃cs,cs=(cx { kind:=8,query:=qy }).toArray:=⟨_,rfl⟩;have il:=hid (show(Tryz.prog.info? 35).map (·.size)=some cs.size by rw[hcs];exact cD);have kK:=hid (show dA.size=cs.size by rw[hcs,bP];exact bP _);have jD:=hid (show cs.all (·.oneCell')=true by rw[hcs];exact dI _);have zD:=hid (show Tryz.prog.built 35 [(0,.int .u8 8),(7,KP qy)]=some cs by rw[hcs];exact Lg _);have kW:=hid (d.blk HS.out.res (by omega));have gf:=hid (show dJ ρ w lg dp Bp l (.returned (.agg cs)) (w1.setRow w.heap.size cs) by
  rw[hcs]
  refine GP.ok cm.out ⟨_,rfl,{ St.fq _ _ with kind:=rfl,query:=Qu.at_.keep (et (by omega)) (Qu.at_.keep (iP w1 (show w.heap.size < W0.heap.size by omega) _) hat)},?_⟩
  have hD:=(HS.out.did.trans d).own aF (dH w1 w.heap.size (cx { kind:=8,query:=qy }).toArray) (fun G e=>by injection e with e;omega)
  simpa [St.long,St.exprs,Qu.long,Qu.exprs,dU,List.any_append,List.any_map] using hD)
 clear d hat HS cm hcs;generalize KP qy=qv at*;go_wp2_with (first
  |(refine ja rfl 35 _ rfl (cs:=cs) ?hv ?_;rotate_left)
  |(refine wpList_store_row rfl 35 (.tmp 2) (.tmp 5) rfl w.heap.size cs rfl rfl 35 dA kW.out il.out kK.out jD.out ?_
    have jy:=hid (kW.out.row cs)))
 case hv=>exact zD.out
 exact bodyPost_ret (v:=.agg cs) (results_cell_row Tryz.results41 _ _ w.heap.size 35 cs (0,0) _ rfl jy.out Tryz.underlying35 rfl il.out) rfl gf.out
theorem mv {s:List UInt8} {P:Ps St} {t:Wd} {r:bH}(hk:t.k=1)(ht:t.s=s):(must s >>= fun _=>P) (t::r)=P r:=by
 rw[ak (x:=()) (r:=r)];have:kO s t=true:=by simp[kO,hk,ht]
 simp[must,av,this]
theorem XD:ra=(must eb >>= fun _=>nA):=by show(gF [eb,dE] >>= fun _=>TF)=_;rw[← tN];rfl
theorem XE:ox=(must ew >>= fun _=>ny):=by unfold ox;rw[← tN];rfl
theorem XF:nr=(must ey >>= fun _=>nz):=rfl
theorem TJ:ou=(must dh >>= fun _=>vH):=rfl
theorem XG:II=na:=by
 have e3:MZ=fun name cp=>must aq >>= fun _=>must mj >>= fun _=>Tv name cp:=by funext name cp;exact(tN _ _ _).symm
 show(aN >>= fun name=>must aX >>= fun _=>dx eX >>= fun cp=>MZ name cp)=na;rw[e3];rfl
theorem XH:dW=(must ea >>= fun _=>fV):=by show(must ea >>= fun _=>dC [aV,bz,cB] >>= fun s=>if s=aV then II else if s=bz then XA else uK)=_;rw[XG];rfl
theorem XI:Bp=qD:=rfl
theorem Bq (ρ:br)(w:World)(l:bH)(lg dp:Bool)(h:ρ.ij w l lg dp):Calls Tryz.prog 17 #[ρ.ptr] w (dJ ρ w lg dp aB l):=by
 obtain⟨tk,r,pl,_,hl,_⟩:=h.iB;generalize tk.w=t at hl;subst hl;by_cases hk:t.k=1
 ·by_cases h1:t.s=bt
  ·exact ow ρ w t r lg dp h 41 Bp (enters_of Tryz.func41 (by kernel_rfl) rfl) (fun w2 lg dp h2=>IV ρ w2 _ lg dp h2) hk (by rw[h1];rfl) (by rw[XI];simp[aB,hk,h1])
  by_cases iW:t.s=ea
  ·exact ow ρ w t r lg dp h 36 dW (enters_of Tryz.func36 (by kernel_rfl) rfl) (fun w2 lg dp h2=>IK ρ w2 _ lg dp h2) hk (by rw[iW];rfl) (by
    rw[XH,mv hk iW]
    unfold aB
    simp only[hk,not_true_eq_false,if_false]
    rw[if_neg h1,if_pos iW])
  by_cases nd:t.s=dh
  ·exact ow ρ w t r lg dp h 37 ou (enters_of Tryz.func37 (by kernel_rfl) rfl) (fun w2 lg dp h2=>Pu ρ w2 _ lg dp h2) hk (by rw[nd];rfl) (by
    rw[TJ,mv hk nd]
    unfold aB
    simp only[hk,not_true_eq_false,if_false]
    rw[if_neg h1,if_neg iW,if_pos nd])
  by_cases jS:t.s=ew
  ·exact ow ρ w t r lg dp h 38 ox (enters_of Tryz.func38 (by kernel_rfl) rfl) (fun w2 lg dp h2=>IQ ρ w2 _ lg dp h2) hk (by rw[jS];rfl) (by
    rw[XE,mv hk jS]
    unfold aB
    simp only[hk,not_true_eq_false,if_false]
    rw[if_neg h1,if_neg iW,if_neg nd,if_pos jS])
  by_cases kE:t.s=ey
  ·exact ow ρ w t r lg dp h 39 nr (enters_of Tryz.func39 (by kernel_rfl) rfl) (fun w2 lg dp h2=>IU ρ w2 _ lg dp h2) hk (by rw[kE];rfl) (by
    rw[XF,mv hk kE]
    unfold aB
    simp only[hk,not_true_eq_false,if_false]
    rw[if_neg h1,if_neg iW,if_neg nd,if_neg jS,if_pos kE])
  by_cases lQ:t.s=eb
  ·exact ow ρ w t r lg dp h 40 ra (enters_of Tryz.func40 (by kernel_rfl) rfl) (fun w2 lg dp h2=>IP ρ w2 _ lg dp h2) hk (by rw[lQ];rfl) (by
    rw[XD,mv hk lQ]
    unfold aB
    simp only[hk,not_true_eq_false,if_false]
    rw[if_neg h1,if_neg iW,if_neg nd,if_neg jS,if_neg kE,if_pos lQ])
  by_cases rP:t.s=iu
  ·exact ow ρ w t r lg dp h 42 gJ (enters_of Tryz.func42 (by kernel_rfl) rfl) (fun w2 lg dp h2=>Pz ρ w2 _ lg dp h2) hk (by rw[rP];rfl) (by
    rw[TE,mv hk rP]
    unfold aB
    simp only[hk,not_true_eq_false,if_false]
    rw[if_neg h1,if_neg iW,if_neg nd,if_neg jS,if_neg kE,if_neg lQ,if_pos rP])
  refine Tk ρ w t r lg dp h hk ?_ ?_
  ·have q:∀s:List UInt8,t.s≠s→(t.s==s)=false:=fun s hs=>by simpa using hs
   simp only[Bl,List.lookup,q _ (show t.s≠ [99,114,101,97,116,101] from iW),q _ (show t.s≠ [100,114,111,112] from nd),q _ (show t.s≠ [105,110,115,101,114,116] from jS),q _ (show t.s≠ [117,112,100,97,116,101] from kE),q _ (show t.s≠ [100,101,108,101,116,101] from lQ),q _ (show t.s≠ [115,101,108,101,99,116] from h1),q _ (show t.s≠ [99,97,108,108] from rP),Option.getD_none]
  ·unfold aB;simp only[hk,not_true_eq_false,if_false];rw[if_neg h1,if_neg iW,if_neg nd,if_neg jS,if_neg kE,if_neg lQ,if_neg rP]
 ·exact Tj ρ w t r lg dp h hk
def EQ {α:Type}(n:Nat)(p:Ps α)(Q:α→Prop):Prop:=∀l x r,l.length≤n→p l=.ok (x,r)→r.length≤n∧Q x
section
variable {α β:Type} {n:Nat} {p:Ps α} {Q Q':α→Prop} {R:β→Prop}
theorem aY {f:α→Ps β}(h:EQ n p Q)(k:∀x,Q x→EQ n (f x) R):EQ n (p >>= f) R:=by intro l y r hl e;obtain⟨x,m,h1,h2⟩:=dG e;obtain⟨a,b⟩:=h _ _ _ hl h1;exact k x b _ _ _ a h2
theorem fz {x:α}(h:Q x):EQ n (pure x:Ps α) Q:=by intro l y r hl e;obtain⟨rfl,rfl⟩:=iZ e;exact⟨hl,h⟩
theorem bE (h:cy p):EQ n p fun _=>True:=fun l x r hl e=>⟨Nat.le_trans (h.len e) hl,trivial⟩
theorem qQ {c:Prop} [Decidable c] {q:Ps α}(h:EQ n p Q)(k:EQ n q Q):EQ n (if c then p else q) Q:=by
 split
 ·exact h
 ·exact k
theorem IW (h:EQ n p Q):∀(f:Nat) (acc:List α),(∀x∈acc,Q x)→EQ n (nV p f acc) fun l=>∀x∈l,Q x
 | 0,acc,ha=>fz ha
 | f+1,acc,ha=>by
   intro l y r hl e;simp only[nV] at e;split at e
   ·refine aY (R:=fun l=>∀x∈l,Q x) h (fun z hz=>IW h f (acc++ [z]) fun x hx=>?_) _ _ _ ?_ e
    ·rcases List.mem_append.1 hx with hx | hx
     ·exact ha x hx
     ·simp at hx;subst hx;exact hz
    ·simp;omega
   ·injection e with e;injection e with e1 e2;subst e1;subst e2;exact⟨hl,ha⟩
theorem tU (h:EQ n p Q):EQ n (dx p) fun l=>∀x∈l,Q x:=by
 refine aY h fun z hz=>?_
 intro l y r hl e;exact IW h l.length [z] (fun x hx=>by simp at hx;subst hx;exact hz) l y r hl e
end
def TK (n:Nat)(t:Tr):Prop:=t.thin∧t.depth≤n
section
variable {n:Nat}
theorem tV:EQ n cW (TK n):=fun l t r hl e=>by obtain⟨h1,h2⟩:=MP l t r e;exact⟨by omega,h1,by omega⟩
theorem tW (s:List UInt8):EQ n (cL s) fun l=>(∀t∈l,TK n t)∧l.length≤1:=
 aY (bE (cj _)) fun b _=>qQ (aY tV fun x hx=>fz ⟨fun t ht=>by simp at ht;subst ht;exact hx,Nat.le_refl _⟩) (fz ⟨fun t ht=>by simp at ht,Nat.zero_le _⟩)
theorem XJ:EQ n gy fun x=>TK n x.1:=
 aY tV fun x hx=>aY (bE (cj _)) fun b _=>qQ (aY (bE bB) fun _ _=>fz hx) (fz hx)
theorem TL:EQ n fN fun x=>TK n x.1:=
 aY tV fun x hx=>aY (bE (cj _)) fun b _=>fz hx
theorem TM:EQ n jR fun l=>∀x∈l,TK n x.1:=
 aY (bE (cj _)) fun b _=>qQ (fz fun t ht=>by simp at ht) (tU XJ)
theorem TN:EQ n iT fun l=>∀x∈l,TK n x:=
 aY (bE (cj _)) fun b _=>qQ (aY (bE (aM _)) fun _ _=>tU tV) (fz fun t ht=>by simp at ht)
theorem PB:EQ n fU fun l=>∀x∈l,TK n x.1:=
 aY (bE (cj _)) fun b _=>qQ (aY (bE (aM _)) fun _ _=>tU TL) (fz fun t ht=>by simp at ht)
theorem IX:EQ n cH fun q=>(∀t∈q.exprs,TK n t)∧q.bK.length≤1∧q.having.length≤1:=
 aY (bE (aM _)) fun _ _=>aY TM fun i hi=>aY (bE (aM _)) fun _ _=>aY (bE (cj _)) fun _ _=>aY (bE bB) fun _ _=>aY (tW _) fun w hw=>aY TN fun g hg=>aY (tW _) fun h hh=>aY PB fun o ho=>aY (bE dF) fun _ _=>fz (by
  refine⟨?_,hw.2,hh.2⟩
  intro t ht
  simp only[Qu.exprs,List.mem_append,List.mem_map] at ht
  rcases ht with (((⟨x,hx,rfl⟩| ht)| ht)| ht)|⟨x,hx,rfl⟩
  ·exact hi x hx
  ·exact hw.1 t ht
  ·exact hg t ht
  ·exact hh.1 t ht
  ·exact ho x hx)
theorem P1:EQ n oJ fun x=>TK n x.2:=
 aY (bE bB) fun _ _=>aY (bE (aM _)) fun _ _=>aY tV fun x hx=>fz hx
theorem P2:EQ n mL fun l=>∀x∈l,TK n x:=
 aY (bE (aM _)) fun _ _=>aY (tU tV) fun l hl=>aY (bE (aM _)) fun _ _=>fz hl
abbrev ur (n:Nat)(s:St):Prop:=(∀t∈s.exprs,TK n t)∧s.bK.length≤1∧s.query.bK.length≤1∧s.query.having.length≤1
theorem wy {s:St}(h:s.exprs=[]):ur n s:=by refine⟨by rw[h];intro t ht;simp at ht,?_⟩;have:=congrArg List.length h;simp only[St.exprs,Qu.exprs,List.length_append,List.length_nil] at this;omega
theorem TP:EQ n na (ur n):=by
 rw[Ho];refine aY (bE bB) fun _ _=>aY (bE (aM _)) fun _ _=>aY (bE (cZ cR)) fun _ _=>aY (bE (Al _)) fun _ _=>aY (bE bB) fun _ _=>aY (bE (aM _)) fun _ _=>aY (bE cC) fun _ _=>aY (bE (cj _)) fun b _=>?_
 unfold tbS;exact qQ (aY (bE bB) fun _ _=>aY (bE (aM _)) fun _ _=>aY (bE cC) fun _ _=>fz (wy rfl)) (fz (wy rfl))
theorem XK:EQ n xW (ur n):=
 aY (bE bB) fun _ _=>aY (bE (aM _)) fun _ _=>aY IX fun q hq=>fz (by
  refine⟨fun t ht=>?_,Nat.zero_le _,hq.2⟩
  simp only[St.exprs,List.flatten_nil,List.map_nil,List.nil_append] at ht
  exact hq.1 t ht)
theorem P3:EQ n uK (ur n):=by
 rw[Sm];refine aY (bE bB) fun _ _=>aY (bE (di _)) fun s _=>?_
 have he:∀a b c d e,EQ n (ri a b c d e) (ur n):=fun _ _ _ _ _=>aY (bE (aM _)) fun _ _=>aY (bE cC) fun _ _=>fz (wy rfl)
 unfold Sk;exact qQ (aY (bE bB) fun _ _=>aY (bE (aM _)) fun _ _=>aY (bE cC) fun _ _=>aY (bE (aM _)) fun _ _=>aY (bE cC) fun _ _=>he _ _ _ _ _)
  (aY (bE bB) fun _ _=>aY (bE (aM _)) fun _ _=>aY (bE cC) fun _ _=>he _ _ _ _ _)
theorem PC:EQ n fV (ur n):=aY (bE (di _)) fun _ _=>qQ TP (qQ XK P3)
theorem XL:EQ n vH (ur n):=aY (bE (di _)) fun _ _=>aY (bE bB) fun _ _=>fz (wy rfl)
theorem PD:EQ n ny (ur n):=
 aY (bE (aM _)) fun _ _=>aY (bE bB) fun _ _=>aY (bE (aM _)) fun _ _=>aY (tU P2) fun l hl=>fz (by
  refine⟨fun t ht=>?_,Nat.zero_le _,Nat.zero_le _,Nat.zero_le _⟩
  simp only[St.exprs,Qu.exprs,List.map_nil,List.append_nil,List.mem_flatten] at ht
  obtain⟨r,hr,ht⟩:=ht
  exact hl r hr t ht)
theorem PE:EQ n nz (ur n):=
 aY (bE bB) fun _ _=>aY (bE (aM _)) fun _ _=>aY (tU P1) fun l hl=>aY (tW _) fun w hw=>fz (by
  refine⟨fun t ht=>?_,hw.2,Nat.zero_le _,Nat.zero_le _⟩
  simp only[St.exprs,Qu.exprs,List.map_nil,List.append_nil,List.flatten_nil,List.nil_append,List.mem_append,List.mem_map] at ht
  rcases ht with ⟨x,hx,rfl⟩| ht
  ·exact hl x hx
  ·exact hw.1 t ht)
theorem PF:EQ n nA (ur n):=
 aY (bE (aM _)) fun _ _=>aY (bE bB) fun _ _=>aY (tW _) fun w hw=>fz (by
  refine⟨fun t ht=>?_,hw.2,Nat.zero_le _,Nat.zero_le _⟩
  simp only[St.exprs,Qu.exprs,List.map_nil,List.append_nil,List.flatten_nil,List.nil_append] at ht
  exact hw.1 t ht)
theorem PG:EQ n qD (ur n):=
 aY IX fun q hq=>fz (by
  refine⟨fun t ht=>?_,Nat.zero_le _,hq.2⟩
  simp only[St.exprs,List.flatten_nil,List.map_nil,List.nil_append] at ht
  exact hq.1 t ht)
theorem XM:EQ n uv (ur n):=
 aY (bE (di _)) fun _ _=>aY (bE (aM _)) fun _ _=>aY (bE bB) fun _ _=>aY (bE (aM _)) fun _ _=>aY (bE (vJ _)) fun _ _=>aY (bE xq) fun _ _=>aY (bE (aM _)) fun _ _=>fz (wy rfl)
theorem FB:EQ n aB (ur n):=by
 intro l x r hl e
 match l with
 | []=>cases e
 | t::q=>
   simp only[aB] at e;have hq:q.length≤n:=by simp at hl;omega
   split at e
   ·cases e
   split at e
   ·exact PG _ _ _ hl e
   split at e
   ·exact PC _ _ _ hq e
   split at e
   ·exact XL _ _ _ hq e
   split at e
   ·exact PD _ _ _ hq e
   split at e
   ·exact PE _ _ _ hq e
   split at e
   ·exact PF _ _ _ hq e
   split at e
   ·exact XM _ _ _ hq e
   ·cases e
end
def PH (t:Wd):Prop:=(0≤t.n∧t.n≤9223372036854775807)∧(t.k=4→t.s∈signs)
theorem XN {r rest:List UInt8} {w:Wd}(h:eR r=.ok (w,rest)):PH w:=by
 match r with
 | []=>cases h
 | c::r=>
   simp only[eR] at h;split at h
   ·split at h
    ·injection h with h;injection h with h1 h2;subst h1;exact⟨⟨by simp,by simp⟩,fun e=>by simp at e⟩
    ·cases h
   split at h
   ·split at h
    ·rename_i hb;injection h with h;injection h with h1 h2;subst h1;refine⟨?_,fun e=>by simp at e⟩;simp only[Bool.and_eq_true,rf,decide_eq_true_eq] at hb;have:=hb.1.2;simp only;omega
    ·cases h
   split at h
   ·split at h
    ·injection h with h;injection h with h1 h2;subst h1;exact⟨⟨by simp,by simp⟩,fun e=>by simp at e⟩
    ·cases h
   ·split at h
    ·rename_i s hs;injection h with h;injection h with h1 h2;subst h1;exact⟨⟨by simp,by simp⟩,fun _=>(mG hs).1⟩
    ·cases h
theorem IY (n:Nat):∀(f:Nat) (r:List UInt8) (l:List Tok),uF n f r=.ok l→(∃b,l=b++ [⟨⟨0,[],0⟩,n⟩])∧l.length≤r.length+1∧∀t∈l,PH t.w
 | 0,r,l,h=>by cases h
 | f+1,r,l,h=>by
   have hle:=iQ false r;simp only[uF] at h;split at h
   ·injection h with h;subst h;exact⟨⟨[],rfl⟩,by simp,fun t ht=>by simp at ht;subst ht;exact⟨⟨by simp,by simp⟩,fun e=>by simp at e⟩⟩
   ·rename_i c r' hsk;rw[hsk] at hle;split at h
    ·cases h
    ·rename_i w rest ho;have hlt:=tx ho;split at h
     ·cases h
     ·rename_i l' hl';injection h with h;subst h;obtain⟨⟨b,hb⟩,h1,h2⟩:=IY n f rest l' hl';refine⟨⟨⟨w,_⟩::b,by rw[hb];rfl⟩,by simp only[List.length_cons] at hlt hle ⊢;omega,fun t ht=>?_⟩;rcases List.mem_cons.1 ht with rfl | ht
      ·exact XN ho
      ·exact h2 t ht
theorem qR {s:List UInt8} {l:List Tok}(h:mh s=.ok l):(∃b n,l=b++ [⟨⟨0,[],0⟩,n⟩])∧l.length≤4097∧∀t∈l,PH t.w:=by
 unfold mh at h;split at h
 ·cases h
 ·rename_i hs;obtain⟨⟨b,hb⟩,h1,h2⟩:=IY _ _ _ _ h;exact⟨⟨b,_,hb⟩,by omega,h2⟩
theorem pY {s:List UInt8} {l:List Tok}(h:mh s=.ok l):ik (l.map (·.w)):=by obtain⟨⟨b,n,rfl⟩,_⟩:=qR h;exact⟨b.map (·.w),⟨0,[],0⟩,by simp,rfl⟩
theorem tX {s:List UInt8} {l:List Tok}(h:mh s=.ok l):∃t r,l=t::r:=by
 obtain⟨⟨b,n,rfl⟩,_⟩:=qR h;cases b with
 | nil=>exact⟨_,_,rfl⟩
 | cons t b=>exact⟨_,_,rfl⟩
theorem sF {t:Wd}(h:PH t):¬(t.k=4∧t.s=bt):=by rintro⟨h1,h2⟩;have:=h.2 h1;rw[h2] at this;exact absurd this (by decide)
theorem P4 (s:List UInt8)(l:bH):∃b r,may s l=.ok (b,r):=by
 unfold may;split
 ·exact⟨_,_,rfl⟩
 ·exact⟨_,_,rfl⟩
theorem Bt {l:bH} {d:St}(h:aK aB (.good l) d):ae nc (.good l)=ae qV (ae (may jQ) (ae aB (.good l)))∧aK nc (.good l) d:=by
 simp only[ae,aK,nc,fw] at h ⊢;cases e:aB l with
 | error n=>exact⟨rfl,trivial⟩
 | ok y=>
   obtain⟨y,r⟩:=y;rw[e] at h;simp only at h ⊢;subst h;obtain⟨b,r1,hm⟩:=P4 jQ r;rw[hm];simp only;cases e2:qV r1 with
   | error n=>exact⟨rfl,trivial⟩
   | ok z=>exact⟨rfl,rfl⟩
theorem yw {α:Type} {p:Ps α} {l:bH} {n:Nat}(h:ae p (.good l)=.bad n):p l=.error n:=by
 simp only[ae] at h;cases e:p l with
 | error m=>rw[e] at h;injection h with h;rw[h]
 | ok y=>rw[e] at h;cases h
theorem Ll {α:Type} {p:Ps α} {l r:bH} {x:α}(h:ae p (.good l)=.good r)(k:aK p (.good l) x):p l=.ok (x,r):=by
 simp only[ae,aK] at h k;cases e:p l with
 | error m=>rw[e] at h;cases h
 | ok y=>rw[e] at h k;injection h with h;simp only at k;rw[k,← h]
theorem DB (t:Wd)(r:bH):ae qV (.good (t::r))=if t.k=0 then .good (t::r)else .bad (t::r).length:=by
 simp only[ae,qV];split
 ·rename_i h;split at h
  ·rename_i hk;injection h with h;injection h with h1 h2;rw[if_pos hk,h2]
  ·cases h
 ·rename_i h;split at h
  ·cases h
  ·rename_i hk;injection h with h;rw[if_neg hk,h]
theorem IZ {n:Nat} {l r:bH} {d:St}(hn:l.length≤n)(h:nc l=.ok (d,r)):ur n d:=by obtain⟨x,m,h1,h2⟩:=dG h;obtain⟨b,m2,_,h3⟩:=dG h2;obtain⟨u,m3,_,h4⟩:=dG h3;obtain⟨rfl,_⟩:=iZ h4;exact(FB _ _ _ hn h1).2
theorem Ja {α:Type}:∀ {rows:List (List α)} {k:Nat},(∀r∈rows,r.length≤k)→rows.flatten.length≤rows.length*k
 | [],k,h=>by simp
 | r::rows,k,h=>by
   have h1:=h r (by simp);have h2:=Ja (rows:=rows) fun x hx=>h x (by simp[hx])
   simp only[List.flatten_cons,List.length_append,List.length_cons,Nat.add_mul,Nat.one_mul];omega
theorem PI {n:Nat} {d:St}(h:ur n d)(hl:d.long=false):d.exprs.length≤100000∧d.rows.length≤64:=by
 obtain⟨_,h1,h2,h3⟩:=h;simp only[St.long,Qu.long,Bool.or_eq_false_iff,decide_eq_false_iff_not,Nat.not_lt] at hl;obtain⟨⟨⟨⟨a,b⟩,c⟩,e⟩,⟨f,g⟩,i⟩:=hl;have hf:=Ja (rows:=d.rows) (k:=64) fun r hr=>by have:=List.any_eq_false.1 c r hr;simpa using this
 have:=Nat.mul_le_mul_right 64 b;simp only[St.exprs,Qu.exprs,List.length_append,List.length_map];omega
theorem DD {s:List UInt8} {x:Nat×Nat}(h:mh s=.error x):fO s=.error x:=by unfold fO;rw[h]
theorem tY {s:List UInt8} {l:List Tok} {n:Nat}(h:mh s=.ok l)(hw:nc (l.map (·.w))=.error n):fO s=.error (((l[l.length - n]?).map (·.p)).getD 0,31):=by unfold fO;rw[h];simp only;rw[hw]
theorem Bu {s:List UInt8} {l:List Tok} {r:bH} {d:St}(h:mh s=.ok l)(hw:nc (l.map (·.w))=.ok (d,r)):fO s=if d.long then .error (0,2)else if dU d.exprs then .error (0,32)else .ok d:=by unfold fO;rw[h];simp only;rw[hw]
theorem PJ {l:List Tr} {i:Nat} {t:Tr}(h:l[i]?=some t)(hi:∀x∈l.take i,x.depth≤32)(ht:t.depth≤32):∀x∈l.take (i+1),x.depth≤32:=by
 rw[List.take_add_one,h];intro x hx;rcases List.mem_append.1 hx with hx | hx
 ·exact hi x hx
 ·simp at hx;subst hx;exact ht
theorem TR {l:List Tr} {t:Tr}(h:t∈l)(ht:32 < t.depth):dU l=true:=List.any_eq_true.2 ⟨t,h,by simpa using ht⟩
theorem XO {l:List Tr}(h:∀x∈l,x.depth≤32):dU l=false:=by unfold dU;rw[List.any_eq_false];intro x hx;have:=h x hx;simp;omega
def TS (o0 o1 o2 o3 o4 o5 o6 o7 o8 o9:Oper)(q s d0 d1 d2 d3 d4 d5 d6 d7 d8 d9:Tmp):Bool:=
 (tmpsOf o0== [s])&&(ct [o0,o1,o2,o3,o4,o5,o6,o7,o8,o9] o0 s==none)&&(tmpsOf o1== [q])&&(ct [o0,o1,o2,o3,o4,o5,o6,o7,o8,o9] o1 q==none)&&(tmpsOf o2== [d1])&&(ct [o0,o1,o2,o3,o4,o5,o6,o7,o8,o9] o2 d1==some 1)&&(tmpsOf o3== [d0,d2])&&(ct [o0,o1,o2,o3,o4,o5,o6,o7,o8,o9] o3 d0==some 0)&&(ct [o0,o1,o2,o3,o4,o5,o6,o7,o8,o9] o3 d2==some 2)&&(tmpsOf o4== [q])&&(ct [o0,o1,o2,o3,o4,o5,o6,o7,o8,o9] o4 q==none)&&(tmpsOf o5== [d4])&&(ct [o0,o1,o2,o3,o4,o5,o6,o7,o8,o9] o5 d4==some 4)&&(tmpsOf o6== [d3,d5])&&(ct [o0,o1,o2,o3,o4,o5,o6,o7,o8,o9] o6 d3==some 3)&&(ct [o0,o1,o2,o3,o4,o5,o6,o7,o8,o9] o6 d5==some 5)&&(tmpsOf o7== [q])&&(ct [o0,o1,o2,o3,o4,o5,o6,o7,o8,o9] o7 q==none)&&(tmpsOf o8== [d7])&&(ct [o0,o1,o2,o3,o4,o5,o6,o7,o8,o9] o8 d7==some 7)&&(tmpsOf o9== [d6,d8])&&(ct [o0,o1,o2,o3,o4,o5,o6,o7,o8,o9] o9 d6==some 6)&&(ct [o0,o1,o2,o3,o4,o5,o6,o7,o8,o9] o9 d8==some 8)&&(o0.dst==some d0)&&(o1.dst==some d1)&&(o2.dst==some d2)&&(o3.dst==some d3)&&(o4.dst==some d4)&&(o5.dst==some d5)&&(o6.dst==some d6)&&(o7.dst==some d7)&&(o8.dst==some d8)&&(o9.dst==some d9)&& o0.guard.isNone && o1.guard.isNone && o2.guard.isNone && o3.guard.isNone && o4.guard.isNone && o5.guard.isNone && o6.guard.isNone && o7.guard.isNone && o8.guard.isNone && o9.guard.isNone
section
variable {P:Program} {J:List Value→World→Prop} {w0:World} {Q:Exit→Act→World→Prop} {a0:Act} {id:Nat} {o0 o1 o2 o3 o4 o5 o6 o7 o8 o9 mN:Oper} {q s d0 d1 d2 d3 d4 d5 d6 d7 d8 d9:Tmp} {pq v0 p1 p2 p3 s1 s2 s3:Value} {A1 A2 A3:Addr}
theorem Jb (t:TypeId)
  (rG:∀vs w,J vs w→J vs w.drew) (hJ:J [] w0)
  (hm:P.follows .mixedOrders=true) (aO:eQ [o0,o1,o2,o3,o4,o5,o6,o7,o8,o9] a0.tmps.size [o0,o1,o2,o3,o4,o5,o6,o7,o8,o9] 0=true) (hz:fL ([o0,o1,o2,o3,o4,o5,o6,o7,o8,o9]++ [mN]) [mN] 10=true) (hch:mB [o0,o1,o2,o3,o4,o5,o6,o7,o8,o9] [3,6,9]=true) (rW:TS o0 o1 o2 o3 o4 o5 o6 o7 o8 o9 q s d0 d1 d2 d3 d4 d5 d6 d7 d8 d9=true)
  (hq:a0.eval (.tmp q)=pq) (h0:a0.eval (.tmp s)=v0)
  (hmv:∀ρ w,ρ (.tmp s)=v0→(execOp ρ o0).run P w=.ok (.value v0) w)
  (B5:∀ρ w,ρ (.tmp q)=pq→(execOp ρ o1).run P w=.ok (.value p1) w) (hf2:∀ρ w,ρ (.tmp q)=pq→(execOp ρ o4).run P w=.ok (.value p2) w) (hf3:∀ρ w,ρ (.tmp q)=pq→(execOp ρ o7).run P w=.ok (.value p3) w)
  (hc:∀vs w,J vs w→w.cell? A1=some s1∧w.cell? A2=some s2∧w.cell? A3=some s3)
  (eU:∀ρ w,ρ (.tmp d1)=p1→w.cell? A1=some s1→(execOp ρ o2).run P w=.ok (.value s1) w) (hl2:∀ρ w,ρ (.tmp d4)=p2→w.cell? A2=some s2→(execOp ρ o5).run P w=.ok (.value s2) w) (JE:∀ρ w,ρ (.tmp d7)=p3→w.cell? A3=some s3→(execOp ρ o8).run P w=.ok (.value s3) w)
  (agB:∀ρ w v x v' w',ρ (.tmp d0)=v→ρ (.tmp d2)=x→(Builtin.append_ #[t,t] t #[v,x]).run P w=.ok v' w'→(execOp ρ o3).run P w=.ok (.value v') w')
  (agC:∀ρ w v x v' w',ρ (.tmp d3)=v→ρ (.tmp d5)=x→(Builtin.append_ #[t,t] t #[v,x]).run P w=.ok v' w'→(execOp ρ o6).run P w=.ok (.value v') w')
  (agD:∀ρ w v x v' w',ρ (.tmp d6)=v→ρ (.tmp d8)=x→(Builtin.append_ #[t,t] t #[v,x]).run P w=.ok v' w'→(execOp ρ o9).run P w=.ok (.value v') w')
  (ha1:∀w,J [] w→∃v' w',(Builtin.append_ #[t,t] t #[v0,s1]).run P w=.ok v' w'∧J [v'] w')
  (ha2:∀a w,J [a] w→∃v' w',(Builtin.append_ #[t,t] t #[a,s2]).run P w=.ok v' w'∧J [a,v'] w')
  (ha3:∀a b w,J [a,b] w→∃v' w',(Builtin.append_ #[t,t] t #[b,s3]).run P w=.ok v' w'∧J [a,b,v'] w')
  (uU:∀a b c W,J [a,b,c] W→wpList P [o0,o1,o2,o3,o4,o5,o6,o7,o8,o9,mN].toArray Q [mN] ((((((((((a0.put (some d0) v0).put (some d1) p1).put (some d2) s1).put (some d3) a).put (some d4) p2).put (some d5) s2).put (some d6) b).put (some d7) p3).put (some d8) s3).put (some d9) c) W):
  (Code.region id [o0,o1,o2,o3,o4,o5,o6,o7,o8,o9,mN].toArray true).wp P Q a0 w0:=by
 simp only[TS,Bool.and_eq_true,beq_iff_eq,Option.isNone_iff_eq_none] at rW;obtain⟨⟨⟨⟨⟨⟨⟨⟨⟨⟨⟨⟨⟨⟨⟨⟨⟨⟨⟨⟨⟨⟨⟨⟨⟨⟨⟨⟨⟨⟨⟨⟨⟨⟨⟨⟨⟨⟨⟨⟨⟨⟨t0,m0⟩,t1⟩,m1⟩,t2⟩,m2⟩,t3⟩,m3⟩,m3'⟩,t4⟩,m4⟩,t5⟩,m5⟩,t6⟩,m6⟩,m6'⟩,t7⟩,m7⟩,t8⟩,m8⟩,t9⟩,m9⟩,m9'⟩,e0⟩,e1⟩,e2⟩,e3⟩,e4⟩,e5⟩,e6⟩,e7⟩,e8⟩,e9⟩,g0⟩,g1⟩,g2⟩,g3⟩,g4⟩,g5⟩,g6⟩,g7⟩,g8⟩,g9⟩:=rW;refine jw [mN] [o0,o1,o2,o3,o4,o5,o6,o7,o8,o9] rfl (fun i=>if i=0 then v0 else if i=1 then p1 else if i=2 then s1 else if i=4 then p2 else if i=5 then s2 else if i=7 then p3 else s3) [3,6,9] J rG hJ hm aO hz hch (by decide) rfl ?_ ?_
 ·refine⟨?_,?_,?_,?_,?_,?_,?_,?_,?_,?_,trivial⟩
  ·intro ρ w vs hcs hG hr;rw[t0] at hr;have r0:=hr.1;simp only[m0] at r0;exact⟨g0,hmv ρ w (r0.trans h0)⟩
  ·intro ρ w vs hcs hG hr;rw[t1] at hr;have r0:=hr.1;simp only[m1] at r0;exact⟨g1,B5 ρ w (r0.trans hq)⟩
  ·intro ρ w vs hcs hG hr;rw[t2] at hr;have r0:=hr.1;simp only[m2] at r0;exact⟨g2,eU ρ w r0 (hc _ _ hG).1⟩
  ·intro ρ w vs hcs hG hr;rw[t3] at hr;have r0:=hr.1;simp only[m3] at r0;have r1:=hr.2.1;simp only[m3'] at r1;refine⟨g3,?_⟩;show vs.length=0→_;intro hl;obtain rfl:=List.eq_nil_of_length_eq_zero hl;obtain⟨v',w',hrun,hj⟩:=ha1 w hG;exact cz (agB ρ w _ _ v' w' r0 r1 hrun) hj
  ·intro ρ w vs hcs hG hr;rw[t4] at hr;have r0:=hr.1;simp only[m4] at r0;exact⟨g4,hf2 ρ w (r0.trans hq)⟩
  ·intro ρ w vs hcs hG hr;rw[t5] at hr;have r0:=hr.1;simp only[m5] at r0;exact⟨g5,hl2 ρ w r0 (hc _ _ hG).2.1⟩
  ·intro ρ w vs hcs hG hr;rw[t6] at hr;have r0:=hr.1;simp only[m6] at r0;have r1:=hr.2.1;simp only[m6'] at r1;refine⟨g6,?_⟩;show vs.length=1→_;intro hl
   match vs,hl with
   | [a],_=>have r0:some a=some (ρ (.tmp d3)):=r0;injection r0 with r0;obtain⟨v',w',hrun,hj⟩:=ha2 a w hG;exact cz (agC ρ w _ _ v' w' r0.symm r1 hrun) hj
  ·intro ρ w vs hcs hG hr;rw[t7] at hr;have r0:=hr.1;simp only[m7] at r0;exact⟨g7,hf3 ρ w (r0.trans hq)⟩
  ·intro ρ w vs hcs hG hr;rw[t8] at hr;have r0:=hr.1;simp only[m8] at r0;exact⟨g8,JE ρ w r0 (hc _ _ hG).2.2⟩
  ·intro ρ w vs hcs hG hr;rw[t9] at hr;have r0:=hr.1;simp only[m9] at r0;have r1:=hr.2.1;simp only[m9'] at r1;refine⟨g9,?_⟩;show vs.length=2→_;intro hl
   match vs,hl with
   | [a,b],_=>have r0:some b=some (ρ (.tmp d6)):=r0;injection r0 with r0;obtain⟨v',w',hrun,hj⟩:=ha3 a b w hG;exact cz (agD ρ w _ _ v' w' r0.symm r1 hrun) hj
 ·intro vs w hl hG
  match vs,hl with
  | [a,b,c],_=>simp only[kA,e0,e1,e2,e3,e4,e5,e6,e7,e8,e9];intro a0' z0 a1 z1 a2 z2 a3 z3 a4 z4 a5 z5 a6 z6 a7 z7 a8 z8 a9 z9;have z0:a0'=v0:=z0;have z1:a1=p1:=z1;have z2:a2=s1:=z2;have z3:some a=some a3:=z3;have z4:a4=p2:=z4;have z5:a5=s2:=z5;have z6:some b=some a6:=z6;have z7:a7=p3:=z7;have z8:a8=s3:=z8;have z9:some c=some a9:=z9;injection z3 with z3;injection z6 with z6;injection z9 with z9;rw[z0,z1,z2,← z3,z4,z5,← z6,z7,z8,← z9];exact uU a b c w hG
end
end Go.Proofs.YtcneefmaghoejaaGreatDoor
