/- Parts of the proof. -/
import Derived.Test.YtehhdlgjfdnafaaGreatDoorXB27
namespace Go.Proofs.YtehhdlgjfdnafaaGreatDoor
variable{p:Prop}
set_option maxHeartbeats 90000000
set_option maxRecDepth 100000
open Go.Lib (hid)
open Go.ChangeShapes Go.WideShapes Go.ChangeAt Go.RowKit List
set_option linter.unusedVariables false
set_option linter.unusedSimpArgs false
def Re (s:List UInt8):Int:=if s=cz then 1 else if s=dt then 2 else 3
def LK:List (List UInt8×Value):=[([116,97,98,108,101],.int .u8 1),([118,105,101,119],.int .u8 2),([106,111,98],.int .u8 3)]
variable{s:List UInt8}
theorem UF(h:s∈ [cz,dt,iu]):(LK.lookup (⟨s.toArray⟩:ByteArray).data.toList).getD (.int .u8 0)=.int .u8 (Re s):=by
 simp only[mem_cons,not_mem_nil,or_false] at h;rcases h with rfl | rfl | rfl <;> rfl
def Zy (k:Int):Ps St:=do
 let name <- cD
 return { kind:=4,what:=k,name }
def Py:Ps St:=kP [cz,dt,iu] >>= λ s=>Zy (Re s)
def oF:Ps St:=must fY >>= λ _=>Py
variable{ρ:bp}{w wr w2:World}{q G:Nat}{yL:List Nat}{lg dp:Bool}{l:aI}
theorem Ba.UG(A:Ba ρ w q yL lg dp wr l)(hg:ρ.g < w.heap.size)(h:wr.grownBy w2 (some G))(hG:w.heap.size<=G)(hq:q≠G)(hp:∀p∈yL,p≠G):Ba ρ w q yL lg dp w2 l:=
 ⟨A.did.own hg h (λ G' e=>by injection e with e;omega),A.res.grown h Tad,A.qw,λ p h'=>by obtain⟨a,c,k⟩:=A.uS p h';have:=hp p h';exact⟨a,c,k.grown h Tad⟩⟩
theorem zgW.Kb4(h:p:=by
 refine hm.mono ?_;clear hm;intro e w8 hp;rcases hp.cases with ⟨sx,l8,v9,az,rfl,rfl,d⟩|⟨m,au,rfl,hg⟩;case inr=>have HF:=hid (show oF l=.error m from HE.out.trans (ak au));have HG:=hid HB.out.did.grown;clear hp au;go_wp2_with fail;exact aj rfl (GP.err HF.out ⟨rfl,ai HG.out hg⟩)
 have sB:=uU az;have bN:=hid (show oF l=Zy (Re sx) l8 from HE.out.trans (ag az));have HS:=hid (HB.out.go bj d);have ES:=hid (show lT w8 w1.heap.size LK from(d.grown.block _ Tad (by intro e;injection e with e;omega)).trans Zz.out);have U5:=hid (UF sB);clear hp az d HB HE Zz sB;have HE:=bN;clear bN;try unfold strOf
 go_upto_region 3 with (first
  |(refine fC Tryz.underlying158 Tryz.underlying9 rfl _ _ rfl w1.heap.size rfl (⟨sx.toArray⟩:ByteArray) rfl (l:=LK) ES.out (z:=.int .u8 0) Tryz.zeroValue5 ?_
    rw[U5.out]))
 clear U5 ES;generalize Re sx=kx at*;go_wp2_with fail;refine(dU ρ w8 l8 _ _ HS.out.did.at_).mono ?_;intro e w3 hp;rcases hp.cases with ⟨nm,l4,v9,az,rfl,rfl,d⟩|⟨m,au,rfl,hg⟩;case inr=>have HF:=hid (show oF l=.error m from HE.out.trans (ak au));have HG:=hid HS.out.did.grown;clear hp au;go_wp2_with fail;exact aj rfl (GP.err HF.out ⟨rfl,ai HG.out hg⟩)
 have bN:=hid (show oF l=.ok ({ kind:=4,what:=kx,name:=nm },l4)from HE.out.trans ((ag az).trans rfl));clear hp az HE;obtain⟨cs,hcs⟩:∃cs,cs=(bD { kind:=4,what:=kx,name:=nm }).toArray:=⟨_,rfl⟩;have dK:=hid (show(Tryz.prog.info? 34).map (·.size)=some cs.size by rw[hcs];exact cm);have mo:=hid (show cN.size=cs.size by rw[hcs,bB];exact bB _);have jM:=hid (show cs.all (·.oneCell')=true by rw[hcs];exact cS _);have BD:=hid (show Tryz.prog.built 34 [(0,.int .u8 4),(8,.int .u8 kx),(1,.string nm)]=some cs by rw[hcs];exact Px _ _);have kJ:=HS.out.res.lt;have lS:=hid (d.blk HS.out.res Taa);have tz:=hid (show cI ρ w lg dp oF l (.returned (.agg cs)) (w3.setRow w.heap.size cs) by
  rw[hcs]
  refine GP.ok bN.out ⟨_,rfl,{ St.kv _ _ with kind:=rfl,what:=rfl,name:=rfl },?_⟩
  have hD:=(HS.out.did.trans d).own bj (cH w3 w.heap.size (bD { kind:=4,what:=kx,name:=nm }).toArray) (λ G e=>by injection e with e;omega)
  simpa [St.long,St.exprs,Qu.long,Qu.exprs,cZ] using hD)
 clear d HS bN hcs;go_wp2_with (first
  |(refine ij rfl 34 _ rfl (cs:=cs) ?hv ?_;rotate_left)
  |(refine wpList_store_row rfl 34 (.tmp 2) (.tmp 16) rfl w.heap.size cs rfl rfl 34 cN lS.out dK.out mo.out jM.out ?_
    have sf:=hid (lS.out.row cs)))
 case hv=>exact BD.out
 exact bodyPost_ret (v:=.agg cs) (results_cell_row Tryz.results68 _ _ w.heap.size 34 cs (0,0) _ rfl sf.out Tryz.underlying34 rfl dK.out) rfl tz.out):p:=h
theorem zhp.Kch(h:p:=by have hb:=aa wm (.cells (aP [cz,dt,iu]) 9);have HB:=hid (qC.out.later hb);have Zz:=hid (show lT (wm.alloc (.cells (aP [cz,dt,iu]) 9)) w1.heap.size LK from(hb.block _ pg).trans QV.out);have kJ:=qC.out.res.lt;have hm:=qE ρ _ l2 _ _ HB.out.did.at_ [cz,dt,iu] wm.heap.size 3 rfl (av.new wm _ _) Taa Taa;clear hb QV qC;unfold aP strOf at hm HB Zz;simp only[map_cons,map_nil] at hm HB Zz;rw[show cz.toArray= #[116,97,98,108,101] from rfl,show dt.toArray= #[118,105,101,119] from rfl,show iu.toArray= #[106,111,98] from rfl] at hm HB Zz;open zgW in exact Zep):p:=h
theorem zgs.KbU(h:p:=by refine bl Tryz.underlying158 Tryz.underlying9 rfl _ _ _ rfl w1.heap.size rfl [116,97,98,108,101] rfl (.int .u8 1) rfl HM Tab ?_;clear HM;intro wm HM iU;replace HG:=ai HG iU;clear iU;refine bl Tryz.underlying158 Tryz.underlying9 rfl _ _ _ rfl w1.heap.size rfl [118,105,101,119] rfl (.int .u8 2) rfl HM Tab ?_;clear HM;intro wm HM iU;replace HG:=ai HG iU;clear iU;refine bl Tryz.underlying158 Tryz.underlying9 rfl _ _ _ rfl w1.heap.size rfl [106,111,98] rfl (.int .u8 3) rfl HM Tab ?_;clear HM;intro wm HM iU;replace HG:=ai HG iU;clear iU;have QV:=hid (show lT wm w1.heap.size LK from HM);open zhp in exact ZeO):p:=h
theorem zeL.Kbf(h:p:=by
 have hb:=aa W0 (.cells (aP [fY]) 9);have HB:=hid (HS.out.later hb);have kJ:=HS.out.res.lt;have hm:=aW ρ _ l _ _ HB.out.did.at_ [fY] W0.heap.size 1 rfl (av.new W0 _ _) Taa Taa;clear hb HS;unfold aP strOf at hm HB;simp only[map_cons,map_nil] at hm HB;rw[show fY.toArray= #[100,114,111,112] from rfl] at hm HB;go_wp2_with fail;refine hm.mono ?_;clear hm;intro e w1 hp;rcases hp.cases with ⟨_,l2,v9,az,rfl,rfl,d⟩|⟨m,au,rfl,hg⟩;case inr=>have HF:=hid (show oF l=.error m from HE.out.trans (ak (show must fY l=.error m by rw[<- ay];exact au)));have HG:=hid HB.out.did.grown;clear hp au;go_wp2_with fail;exact aj rfl (GP.err HF.out ⟨rfl,ai HG.out hg⟩)
 have bN:=hid (show oF l=Py l2 from HE.out.trans (ag (show must fY l=.ok ((),l2) by rw[<- ay];exact az)));open zgs in exact Zd7):p:=h
theorem ze4.Kbk(h:p:=by have HE:=hid (show oF l=(must fY >>= λ _=>Py) l from rfl);clear h b1;go_enter Tryz.func68,Tryz.ntmps68;open zeL in exact Zcb):p:=h
theorem UH (ρ:bp)(w:World)(l:aI)(lg dp:Bool)(h:ρ.fU w l lg dp):
  Calls Tryz.prog 68 #[ρ.ptr] w (cI ρ w lg dp oF l):=by
 open ze4 in exact Zcm
def Dn:List (List UInt8×Value):=[([99,114,101,97,116,101],.func (.func 67) #[] #[]),([100,114,111,112],.func (.func 68) #[] #[]),([105,110,115,101,114,116],.func (.func 69) #[] #[]),([117,112,100,97,116,101],.func (.func 70) #[] #[]),([100,101,108,101,116,101],.func (.func 71) #[] #[]),([115,101,108,101,99,116],.func (.func 72) #[] #[]),([99,97,108,108],.func (.func 73) #[] #[])]
theorem zdk.KaK(h:p:=by
 have HE:=hid hP;have HF:=hid (hF W1 _ _ HS.out.did.at_);clear hF hP hv;have BX:∀w,(binOp .eql 121 (.func (.func F) #[] #[]) .nilFunc).run Tryz.prog w=.ok (.bool false) w:=λ _=>rfl
 go_upto_region 6 with fail;clear y0 y1;go_wp2_with fail;refine HF.out.mono ?_;clear HF;intro e w2 hp;rcases GP.cases hp with ⟨d9,L2,v9,az,rfl,m9,rfl,LM,d⟩|⟨n9,au,hfp⟩
 ·have hgq:=HS.out.res.lt;have hsz:=d.size;obtain⟨cs,hcs⟩:∃cs,cs=(bD m9).toArray:=⟨_,rfl⟩;have dK:=hid (show(Tryz.prog.info? 34).map (·.size)=some cs.size by rw[hcs];exact cm);have mo:=hid (show cN.size=cs.size by rw[hcs,bB];exact bB _);have jM:=hid (show cs.all (·.oneCell')=true by rw[hcs];exact cS _);have lS:=hid (d.blk HS.out.res Taa);have tz:=hid (show cI ρ w lg dp cf (⟨1,s9,n9⟩::r) (.returned (.agg cs)) (w2.setRow w.heap.size cs) by
   rw[hcs]
   exact GP.ok (HE.out.trans az) ⟨m9,rfl,St.at_.keep (gW Taa) (St.at_.keep (iI w2 (show w.heap.size < W1.heap.size by omega) _) LM),(HS.out.did.trans d).own bj (cH w2 w.heap.size (bD m9).toArray) (λ G e=>by injection e with e;omega)⟩)
  unfold ji;rw[<- hcs];clear d HS HE hcs LM hp az;go_wp2_with (first
   |(refine wpList_store_row rfl 34 (.tmp 2) (.tmp 25) rfl w.heap.size cs rfl rfl 34 cN lS.out dK.out mo.out jM.out ?_
     have sf:=hid (lS.out.row cs)))
  exact bodyPost_ret (v:=.agg cs) (results_cell_row Tryz.results27 _ _ w.heap.size 34 cs (0,0) _ rfl sf.out Tryz.underlying34 rfl dK.out) rfl tz.out
 ·obtain⟨rfl,hgr⟩:=hfp;exact aj rfl (GP.err (HE.out.trans au) ⟨rfl,ai HS.out.did.grown hgr⟩)):p:=h
theorem zdl.KaK(h:p:=by
 have HF:=hid (jH ρ W1 _ _ _ HS.out.did.at_);have HE:=hid (show cf (⟨1,s9,n9⟩::r)=.error (⟨1,s9,n9⟩::r:aI).length from Yo);have BX:∀w,(binOp .eql 121 .nilFunc .nilFunc).run Tryz.prog w=.ok (.bool true) w:=λ _=>rfl
 exact ZeI):p:=h
theorem zgV.Kb4(h:p:=by
 refine hm.mono ?_;clear hm;rintro e w1 ⟨rfl,b1⟩;have hs1:=b1.size;obtain⟨tk,zU⟩:∃tk,tk=ρ.tok (t::r):=⟨_,rfl⟩;have wb:tk.w=t:=by rw[zU];exact HTK.out
 rw[<- zU];clear zU HTK;have hb2:=aa w1 (.cells (cn tk) 81);have HS:=hid ((qC.out.later b1).later hb2);have HT:=hid (av.new w1 81 (cn tk));have ES:=hid (show lT (w1.alloc (.cells (cn tk) 81)) W0.heap.size Dn from((hb2.block _ Taa).trans (b1.block _ pg)).trans QV.out);clear b1 hb2 qC QV;obtain⟨⟨k9,s9,n9⟩,p9⟩:=tk;simp only at wb;subst wb;rcases HC.out with ⟨F,P,en,hF,hk,hv,hP⟩| hk |⟨hk,hv,Yo⟩
 ·open zdk in exact Zbb
 ·clear HC;simp only at hk;have AB:((k9:Int) != 1)=true:=by simp;omega
  unfold cn at HS HT ES;unfold cn;go_upto_region 3 with fail
  change Code.wp _ _ _ _ (w1.alloc (.cells #[.int .u8 ((k9:Nat):Int),.string ⟨s9.toArray⟩,.int .i64 n9,.int .i64 p9] 81));generalize hb:w1.heap.size=b at*;generalize hW:(World.alloc w1 _)=W1 at*;clear hW hb hs1 pg;have y0:W1.cell? ⟨b,0,none⟩=some (.int .u8 ((k9:Nat):Int)):=(HT.out.cell 0).trans rfl;have y1:W1.cell? ⟨b,1,none⟩=some (.string ⟨s9.toArray⟩):=(HT.out.cell 1).trans rfl;go_upto_region 4 with (first
   |(refine fC Tryz.underlying122 Tryz.underlying9 rfl _ _ rfl W0.heap.size rfl (⟨s9.toArray⟩:ByteArray) rfl (l:=Dn) ES.out (z:=.nilFunc) Tryz.zeroValue121 ?_
     rw[show(⟨s9.toArray⟩:ByteArray).data.toList=s9 by simp]))
  generalize (Dn.lookup s9).getD .nilFunc=u at*;clear ES HT;have HF:=hid (jH ρ W1 _ _ _ HS.out.did.at_);have HE:=hid (show cf (⟨k9,s9,n9⟩::r)=.error (⟨k9,s9,n9⟩::r:aI).length from by simp[cf,hk]);exact ZeI
 ·open zdl in exact Zbb):p:=h
theorem zeM.Kbf(h:p:=by
 have HM:=lT.new W0;have HG:=aB (p:=W0.heap.size) (aa W0 (.map #[] 0));refine wp_region_lit ?_;refine gp rfl 122 rfl ?_;refine bl Tryz.underlying122 Tryz.underlying9 rfl _ _ _ rfl W0.heap.size rfl [99,114,101,97,116,101] rfl (.func (.func 67) #[] #[]) rfl HM Tab ?_;clear HM;intro wm HM iU;replace HG:=ai HG iU;clear iU;refine bl Tryz.underlying122 Tryz.underlying9 rfl _ _ _ rfl W0.heap.size rfl [100,114,111,112] rfl (.func (.func 68) #[] #[]) rfl HM Tab ?_;clear HM;intro wm HM iU;replace HG:=ai HG iU;clear iU;refine bl Tryz.underlying122 Tryz.underlying9 rfl _ _ _ rfl W0.heap.size rfl [105,110,115,101,114,116] rfl (.func (.func 69) #[] #[]) rfl HM Tab ?_;clear HM;intro wm HM iU;replace HG:=ai HG iU;clear iU;refine bl Tryz.underlying122 Tryz.underlying9 rfl _ _ _ rfl W0.heap.size rfl [117,112,100,97,116,101] rfl (.func (.func 70) #[] #[]) rfl HM Tab ?_;clear HM;intro wm HM iU;replace HG:=ai HG iU;clear iU;refine bl Tryz.underlying122 Tryz.underlying9 rfl _ _ _ rfl W0.heap.size rfl [100,101,108,101,116,101] rfl (.func (.func 71) #[] #[]) rfl HM Tab ?_;clear HM;intro wm HM iU;replace HG:=ai HG iU;clear iU;refine bl Tryz.underlying122 Tryz.underlying9 rfl _ _ _ rfl W0.heap.size rfl [115,101,108,101,99,116] rfl (.func (.func 72) #[] #[]) rfl HM Tab ?_;clear HM;intro wm HM iU;replace HG:=ai HG iU;clear iU;refine bl Tryz.underlying122 Tryz.underlying9 rfl _ _ _ rfl W0.heap.size rfl [99,97,108,108] rfl (.func (.func 73) #[] #[]) rfl HM Tab ?_
 clear HM;intro wm HM iU;replace HG:=ai HG iU;clear iU;have QV:=hid (show lT wm W0.heap.size Dn from HM);have qC:=hid (HS.out.UG (w2:=wm) bj HG Taa Taa (λ p hp=>by simp at hp));have pg:W0.heap.size < wm.heap.size:=by have:=QV.out;unfold lT at this;exact(Array.getElem?_eq_some_iff.mp this).1
 clear HM HG HS;have hm:=ie ρ wm (t::r) _ _ qC.out.did.at_;open zgV in exact Zep):p:=h
theorem Jf (ρ:bp)(w:World)(t:Wd)(r:aI)(lg dp:Bool)(h:ρ.fU w (t::r) lg dp)(hc:(∃(F:FuncId) (P:Ps St),(∀args w,(callFunc F args).run Tryz.prog w=.ok (.enter F args) w)/\(∀w2 lg dp,ρ.fU w2 (t::r) lg dp->Calls Tryz.prog F #[ρ.ptr] w2 (cI ρ w2 lg dp P (t::r)))/\t.k=1/\(Dn.lookup t.s).getD .nilFunc=.func (.func F) #[] #[]/\cf (t::r)=P (t::r))\/(¬t.k=1)\/(t.k=1/\(Dn.lookup t.s).getD .nilFunc=.nilFunc/\cf (t::r)=.error (t::r).length)):
  Calls Tryz.prog 27 #[ρ.ptr] w (cI ρ w lg dp cf (t::r)):=by
 have bj:=h.nt;have zU:(ρ.tok (t::r)).w=t:=by obtain⟨tk,r',pl,qD,hl,_⟩:=h.mh;rw[<- qD];injection hl with h1 _;exact h1.symm
 have b1:=aa w (gQ {});have HS:=hid (show Ba ρ w w.heap.size [] lg dp (w.alloc (gQ {})) (t::r)from⟨aY.aC h b1,av.new w _ _,Nat.le_refl _,λ p hp=>by simp at hp⟩);have HTK:=hid zU;have HC:=hid hc;clear hc h b1 zU;go_enter Tryz.func27,Tryz.ntmps27;open zeM in exact Zcb
theorem oG (ρ:bp)(w:World)(t:Wd)(r:aI)(lg dp:Bool)(h:ρ.fU w (t::r) lg dp)(F:FuncId)(P:Ps St)(en:∀args w,(callFunc F args).run Tryz.prog w=.ok (.enter F args) w)(hF:∀w2 lg dp,ρ.fU w2 (t::r) lg dp->Calls Tryz.prog F #[ρ.ptr] w2 (cI ρ w2 lg dp P (t::r)))(hk:t.k=1)(hv:(Dn.lookup t.s).getD .nilFunc=.func (.func F) #[] #[])(hP:cf (t::r)=P (t::r)):
  Calls Tryz.prog 27 #[ρ.ptr] w (cI ρ w lg dp cf (t::r)):=
 Jf ρ w t r lg dp h (.inl ⟨F,P,en,hF,hk,hv,hP⟩)
theorem ZA (ρ:bp)(w:World)(t:Wd)(r:aI)(lg dp:Bool)(h:ρ.fU w (t::r) lg dp)(hk:¬t.k=1):
  Calls Tryz.prog 27 #[ρ.ptr] w (cI ρ w lg dp cf (t::r)):=
 Jf ρ w t r lg dp h (.inr (.inl hk))
theorem ZB (ρ:bp)(w:World)(t:Wd)(r:aI)(lg dp:Bool)(h:ρ.fU w (t::r) lg dp)(hk:t.k=1)(hv:(Dn.lookup t.s).getD .nilFunc=.nilFunc)(Yo:cf (t::r)=.error (t::r).length):
  Calls Tryz.prog 27 #[ρ.ptr] w (cI ρ w lg dp cf (t::r)):=
 Jf ρ w t r lg dp h (.inr (.inr ⟨hk,hv,Yo⟩))
theorem nT:(Tryz.prog.info? 32).map (·.size)=some 3:=by exact Zhj
theorem Dp (v:Val):(fp v).toArray.all (·.oneCell')=true:=by simp[fp,Value.oneCell']
def ZN (ρ:bp)(w:World)(lg dp:Bool)(l:aI)(e:Ending)(w':World):Prop:=
 GP ρ w ve l (λ v r u w'=>u=.agg (fp v).toArray/\aY ρ w w' r lg dp) e w'
theorem UK(h:ar bK l=true):ve l=.ok (ct,l.tail):=by unfold ve;rw[bQ];simp only[h,if_true];rfl
theorem ZO(h:ar bK l=false):ve l=(nh >>= λ n=>(pure ⟨2,if ar dB l then -n else n,ByteArray.empty⟩:Ps Val)) (iJ dB l):=by unfold ve;rw[bQ];simp only[h];exact ag (tL dB l)
theorem Dq (ρ:bp)(w:World)(l:aI)(lg dp:Bool)(h:ρ.fU w l lg dp):
  Calls Tryz.prog 123 #[ρ.ptr] w (ZN ρ w lg dp l):=by
 have bj:=h.nt;have b1:=aa w (.cells #[.int .u8 0,.int .i64 0,.string ⟨#[]⟩] 32);have HQ:=hid (av.new w 32 #[.int .u8 0,.int .i64 0,.string ⟨#[]⟩]);have HD:=hid (aY.aC h b1);have hm:=br ρ _ l lg dp HD.out.at_ ⟨#[110,117,108,108]⟩;rw[show(⟨#[110,117,108,108]⟩:ByteArray).data.toList=bK from rfl] at hm;clear h b1;cases hh:ar bK l
 ·rw[hh,ck hh] at hm;have HE:=hid (ZO hh);clear hh;go_enter Tryz.func123,Tryz.ntmps123;go_wp2_with fail;refine hm.mono ?_;clear hm;rintro e w1 ⟨rfl,d⟩;have fT:=hid (HD.out.trans d);have pF:=hid (d.blk HQ.out Taa);clear d HD HQ;have hm:=br ρ w1 l lg dp fT.out.at_ ⟨#[45]⟩;rw[show(⟨#[45]⟩:ByteArray).data.toList=dB from rfl] at hm;go_wp2_with fail;refine hm.mono ?_;clear hm;rintro e w2 ⟨rfl,d⟩;have eP:=hid (fT.out.trans d);have jS:=hid (d.blk pF.out Taa);clear d fT pF;generalize ar dB l=less at*;generalize iJ dB l=l2 at*;go_wp2_with fail;refine(dY ρ w2 l2 lg dp eP.out.at_).mono ?_;intro e w3 hp;rcases hp.cases with ⟨n,l3,v9,az,rfl,rfl,⟨Ai,vv⟩,d⟩|⟨m,au,rfl,hg⟩;case inr=>have HF:=hid (show ve l=.error m from HE.out.trans (ak au));have HG:=hid eP.out.grown;clear hp au;go_wp2_with fail;exact aj rfl (GP.err HF.out ⟨rfl,ai HG.out hg⟩)
  have uK:=hid (show ve l=.ok (⟨2,if less then -n else n,ByteArray.empty⟩,l3)from HE.out.trans ((ag az).trans rfl));have jR:=hid (eP.out.trans d);have mD:=hid (d.blk jS.out Taa);clear hp az d eP jS HE;cases less
  ·have HX:=hid (show ve l=.ok (⟨2,n,ByteArray.empty⟩,l3)from uK.out);clear uK;go_wp2_with (first
    |(refine wpList_store_row rfl 32 (.tmp 2) (.tmp 16) rfl w.heap.size (fp ⟨2,n,ByteArray.empty⟩).toArray rfl rfl 32 #[.int .u8 0,.int .i64 0,.string ⟨#[]⟩] mD.out nT rfl (Dp _) ?_
      have HR:=hid (mD.out.row (fp ⟨2,n,ByteArray.empty⟩).toArray)))
   exact bodyPost_ret (v:=.agg (fp ⟨2,n,ByteArray.empty⟩).toArray) (results_cell_row Tryz.results123 _ _ w.heap.size 32 (fp ⟨2,n,ByteArray.empty⟩).toArray (0,0) _ rfl HR.out Tryz.underlying32 rfl nT) rfl
    (GP.ok HX.out ⟨rfl,jR.out.own bj (cH w3 _ _) (λ G e=>by injection e with e;omega)⟩)
  ·have HX:=hid (show ve l=.ok (⟨2, -n,ByteArray.empty⟩,l3)from uK.out);have vX:IntKind.i64.wrap (-n)= -n:=Go.IntWalk.i64_in _ Taa;clear uK;go_wp2_with (first
    |(refine wpList_store_row rfl 32 (.tmp 2) (.tmp 16) rfl w.heap.size (fp ⟨2, -n,ByteArray.empty⟩).toArray rfl rfl 32 #[.int .u8 0,.int .i64 0,.string ⟨#[]⟩] mD.out nT rfl (Dp _) ?_
      have HR:=hid (mD.out.row (fp ⟨2, -n,ByteArray.empty⟩).toArray)))
   exact bodyPost_ret (v:=.agg (fp ⟨2, -n,ByteArray.empty⟩).toArray) (results_cell_row Tryz.results123 _ _ w.heap.size 32 (fp ⟨2, -n,ByteArray.empty⟩).toArray (0,0) _ rfl HR.out Tryz.underlying32 rfl nT) rfl
    (GP.ok HX.out ⟨rfl,jR.out.own bj (cH w3 _ _) (λ G e=>by injection e with e;omega)⟩)
 ·rw[hh,cw hh] at hm;have HE:=hid (UK hh);clear hh;go_enter Tryz.func123,Tryz.ntmps123;go_wp2_with fail;refine hm.mono ?_;clear hm;rintro e w1 ⟨rfl,d⟩;have fT:=hid (HD.out.trans d);have pF:=hid (d.blk HQ.out Taa);clear d HD HQ;go_wp2_with (first
   |(refine wpList_store_row rfl 32 (.tmp 2) (.tmp 7) rfl w.heap.size (fp ct).toArray rfl rfl 32 #[.int .u8 0,.int .i64 0,.string ⟨#[]⟩] pF.out nT rfl (Dp _) ?_
     have HR:=hid (pF.out.row (fp ct).toArray)))
  exact bodyPost_ret (v:=.agg (fp ct).toArray) (results_cell_row Tryz.results123 _ _ w.heap.size 32 (fp ct).toArray (0,0) _ rfl HR.out Tryz.underlying32 rfl nT) rfl
   (GP.ok HE.out ⟨rfl,fT.out.own bj (cH w1 _ _) (λ G e=>by injection e with e;omega)⟩)
def Rj (s:List UInt8):Int:=if s=bZ then 9 else if s=bP then 10 else if s=dA then 11 else 12
def LQ:List (List UInt8×Value):=[([114,101,102,114,101,115,104],.int .u8 9),([99,111,109,112,114,101,115,115],.int .u8 10),([100,101,99,111,109,112,114,101,115,115],.int .u8 11),([100,114,111,112,95,99,104,117,110,107,115],.int .u8 12)]
theorem UL(h:s∈ [bZ,bP,dA,eF]):(LQ.lookup (⟨s.toArray⟩:ByteArray).data.toList).getD (.int .u8 0)=.int .u8 (Rj s):=by
 simp only[mem_cons,not_mem_nil,or_false] at h;rcases h with rfl | rfl | rfl | rfl <;> rfl
def ZP (k:Int)(name:ByteArray)(aK cP:Val):Ps St:=return { kind:=k,name,aK,cP }
def ZQ (k:Int)(name:ByteArray)(aK cP:Val):Ps St:=must aM >>= λ _=>ZP k name aK cP
def LR (k:Int)(name:ByteArray)(aK:Val):Ps St:=ve >>= λ cP=>ZQ k name aK cP
def ZR (name:ByteArray)(aK:Val):Ps St:=must bk >>= λ _=>LR 9 name aK
def Gi (k:Int)(name:ByteArray):Ps St:=pW k >>= λ aK=>LR k name aK
def adp (k:Int)(name:ByteArray):Ps St:=must bk >>= λ _=>Gi k name
def adq (k:Int):Ps St:=cD >>= λ name=>adp k name
def adr (k:Int):Ps St:=must bz >>= λ _=>adq k
def ZT:Ps St:=kP [bZ,bP,dA,eF] >>= λ s=>adr (Rj s)
def fD:Ps St:=must ll >>= λ _=>ZT
theorem afR (name:ByteArray):Gi 9 name=(ve >>= λ aK=>ZR name aK):=by unfold Gi pW;rw[if_pos rfl];simp only[iT];rfl
variable{k:Int}
theorem aaH(name:ByteArray)(h:¬k=9):Gi k name=LR k name ct:=by unfold Gi pW;rw[if_neg h];rfl
theorem ZU:fD=(must ll >>= λ _=>Qj):=rfl
theorem zcV.KaC(h:p:=by generalize w17.setRow (w.heap.size) cs=WF at*;exact ZdF):p:=h
theorem zfC.Kbw(h:p:=by refine wpList_store_row rfl 34 (.tmp 2) (.tmp 38) rfl (w.heap.size) cs rfl rfl 34 cN lS.out dK.out mo.out jM.out ?_;open zcV in exact ZaV):p:=h
theorem zbg.Kai(h:p:=by have vz:=hid (show av w17 b 34 cs by rw[hcs];exact HA.out.blk);have lS:=hid HA.out.sa.res;have tz:=hid (show cI ρ w lg dp fD l (.returned (.agg cs)) (w17.setRow (w.heap.size) cs) by rw[hcs];exact HA.out.post bj HX.out);open zfC in exact ZcQ):p:=h
theorem zcW.KaC(h:p:=by generalize TI.setRow (w.heap.size) cs=WF at*;exact ZdF):p:=h
theorem zfD.Kbw(h:p:=by refine wpList_store_row rfl 34 (.tmp 2) (.tmp 38) rfl (w.heap.size) cs rfl rfl 34 cN lS.out dK.out mo.out jM.out ?_;open zcW in exact ZaV):p:=h
theorem zbh.Kai(h:p:=by have vz:=hid (show av TI b 34 cs by rw[hcs];exact HA.out.blk);have lS:=hid HA.out.sa.res;have tz:=hid (show cI ρ w lg dp fD l (.returned (.agg cs)) (TI.setRow (w.heap.size) cs) by rw[hcs];exact HA.out.post bj HX.out);open zfD in exact ZcQ):p:=h
theorem ziy.KcO(h:p:=by
 intro e w17 hp;rcases hp.cases with ⟨_,l18,v9,az,rfl,rfl,d⟩|⟨m,au,rfl,hg⟩;case inr=>have HF:=hid (show fD l=.error m from HE.out.trans (ak (show must aM l15=.error m by rw[<- ay];exact au)));have HG:=hid HB.out.sa.did.grown;clear hp au;go_wp2_with fail;exact aj rfl (GP.err HF.out ⟨rfl,ai HG.out hg⟩)
 have bN:=hid (show fD l=ZP 9 nm aK UN l18 from HE.out.trans (ag (show must aM l15=.ok ((),l18) by rw[<- ay];exact az)));have HA:=hid (HB.out.go bj d);clear hp az d HB HE kJ;have HE:=bN;clear bN;go_upto_region 11 with fail;have HX:=hid (show fD l=.ok ({ kind:=9,name:=nm,aK:=aK,cP:=UN },l18)from HE.out);obtain⟨cs,hcs⟩:∃cs,cs=(bD { kind:=9,name:=nm,aK:=aK,cP:=UN }).toArray:=⟨_,rfl⟩;open zbg in exact Zam):p:=h
theorem ziz.KcO(h:p:=by
 intro e TI hp;rcases hp.cases with ⟨_,P6,v9,az,rfl,rfl,d⟩|⟨m,au,rfl,hg⟩;case inr=>have HF:=hid (show fD l=.error m from HE.out.trans (ak (show must aM l10=.error m by rw[<- ay];exact au)));have HG:=hid HB.out.sa.did.grown;clear hp au;go_wp2_with fail;exact aj rfl (GP.err HF.out ⟨rfl,ai HG.out hg⟩)
 have bN:=hid (show fD l=ZP kx nm ct UN P6 from HE.out.trans (ag (show must aM l10=.ok ((),P6) by rw[<- ay];exact az)));have HA:=hid (HB.out.go bj d);clear hp az d HB HE kJ;have HE:=bN;clear bN;go_upto_region 11 with fail;have HX:=hid (show fD l=.ok ({ kind:=kx,name:=nm,cP:=UN },P6)from HE.out);obtain⟨cs,hcs⟩:∃cs,cs=(bD { kind:=kx,name:=nm,cP:=UN }).toArray:=⟨_,rfl⟩;open zbh in exact Zam):p:=h
theorem zgX.Kb4(h:p:=by
 refine hm.mono ?_;clear hm;intro e w8 hp;rcases hp.cases with ⟨sx,l8,v9,az,rfl,rfl,d⟩|⟨m,au,rfl,hg⟩;case inr=>have HF:=hid (show fD l=.error m from HE.out.trans (ak au));have HG:=hid HB.out.did.grown;clear hp au;go_wp2_with fail;exact aj rfl (GP.err HF.out ⟨rfl,ai HG.out hg⟩)
 have sB:=uU az;have bN:=hid (show fD l=adr (Rj sx) l8 from HE.out.trans (ag az));have HS:=hid (HB.out.go bj d);have ES:=hid (show lT w8 w1.heap.size LQ from(d.grown.block _ Tad (by intro e;injection e with e;omega)).trans Zz.out);have U5:=hid (UL sB);clear hp az d HB HE Zz sB;have HE:=bN;clear bN;try unfold strOf
 go_upto_region 3 with (first
  |(refine fC Tryz.underlying158 Tryz.underlying9 rfl _ _ rfl w1.heap.size rfl (⟨sx.toArray⟩:ByteArray) rfl (l:=LQ) ES.out (z:=.int .u8 0) Tryz.zeroValue5 ?_
    rw[U5.out]))
 clear U5 ES;generalize Rj sx=kx at*;have hb:=aa w8 (.cells (aP [bz]) 9);have HB:=hid (HS.out.later hb);have kJ:=HS.out.res.lt;have hm:=aW ρ _ l8 _ _ HB.out.did.at_ [bz] w8.heap.size 1 rfl (av.new w8 _ _) Taa Taa;clear hb HS;unfold aP strOf at hm HB;simp only[map_cons,map_nil] at hm HB;rw[show bz.toArray= #[40] from rfl] at hm HB;go_wp2_with fail;refine hm.mono ?_;clear hm;intro e w3 hp;rcases hp.cases with ⟨_,l4,v9,az,rfl,rfl,d⟩|⟨m,au,rfl,hg⟩;case inr=>have HF:=hid (show fD l=.error m from HE.out.trans (ak (show must bz l8=.error m by rw[<- ay];exact au)));have HG:=hid HB.out.did.grown;clear hp au;go_wp2_with fail;exact aj rfl (GP.err HF.out ⟨rfl,ai HG.out hg⟩)
 have bN:=hid (show fD l=adq kx l4 from HE.out.trans (ag (show must bz l8=.ok ((),l4) by rw[<- ay];exact az)));have HS:=hid (HB.out.go bj d);clear hp az d HB HE kJ;have HE:=bN;clear bN;go_wp2_with fail;refine(dU ρ w3 l4 _ _ HS.out.did.at_).mono ?_;intro e w5 hp;rcases hp.cases with ⟨nm,l6,v9,az,rfl,rfl,d⟩|⟨m,au,rfl,hg⟩;case inr=>have HF:=hid (show fD l=.error m from HE.out.trans (ak au));have HG:=hid HS.out.did.grown;clear hp au;go_wp2_with fail;exact aj rfl (GP.err HF.out ⟨rfl,ai HG.out hg⟩)
 have bN:=hid (show fD l=adp kx nm l6 from HE.out.trans (ag az));clear hp az HE;have HE:=bN;clear bN;have wb:=d.size;have qC:=hid (HS.out.go bj d);have hbq:=qC.out.res.lt;obtain⟨cs,hcs⟩:∃cs,cs=(bD { kind:=kx,name:=nm }).toArray:=⟨_,rfl⟩;have dK:=hid (show(Tryz.prog.info? 34).map (·.size)=some cs.size by rw[hcs];exact cm);have mo:=hid (show cN.size=cs.size by rw[hcs,bB];exact bB _);have jM:=hid (show cs.all (·.oneCell')=true by rw[hcs];exact cS _);have BD:=hid (show Tryz.prog.built 34 [(0,.int .u8 kx),(1,.string nm)]=some cs by rw[hcs];exact mn _ _);have HA:=hid (show vy ρ w (w.heap.size) [] lg dp w5.heap.size (w5.alloc (.cells cs 34)) l6 { kind:=kx,name:=nm } { kind:=kx,name:=nm } by
  rw[hcs]
  exact qC.out.start (lg2:=lg) (dp2:=dp) { kind:=kx,name:=nm } { kind:=kx,name:=nm } (λ p hp=>by simp at hp) Tal Tar Tal (λ W S=> { St.kv W S with kind:=rfl,name:=rfl }))
 clear d HS qC hcs;go_upto_region 5 with (first
  |(refine ij rfl 34 _ rfl (cs:=cs) ?hv ?_;rotate_left)
  |(refine wpList_store_row rfl 34 (.tmp 4) (.tmp 20) rfl w5.heap.size cs rfl rfl 34 cN (av.new w5 34 cN) dK.out mo.out jM.out ?_
    rw[jI]))
 case hv=>exact BD.out
 generalize hb:w5.heap.size=b at*;generalize hW:(World.alloc _ _)=WB at*;clear hW hb wb BD jM mo dK;have hb:=aa WB (.cells (aP [bk]) 9);have HB:=hid (HA.out.later hb);have kJ:=HA.out.blk.lt;have hm:=aW ρ _ l6 _ _ HB.out.sa.did.at_ [bk] WB.heap.size 1 rfl (av.new WB _ _) Taa Taa;clear hb HA;unfold aP strOf at hm HB;simp only[map_cons,map_nil] at hm HB;rw[show bk.toArray= #[44] from rfl] at hm HB;go_wp2_with fail;refine hm.mono ?_;clear hm;intro e w7 hp;rcases hp.cases with ⟨_,l8,v9,az,rfl,rfl,d⟩|⟨m,au,rfl,hg⟩;case inr=>have HF:=hid (show fD l=.error m from HE.out.trans (ak (show must bk l6=.error m by rw[<- ay];exact au)));have HG:=hid HB.out.sa.did.grown;clear hp au;go_wp2_with fail;exact aj rfl (GP.err HF.out ⟨rfl,ai HG.out hg⟩)
 have bN:=hid (show fD l=Gi kx nm l8 from HE.out.trans (ag (show must bk l6=.ok ((),l8) by rw[<- ay];exact az)));have HA:=hid (HB.out.go bj d);clear hp az d HB HE kJ;have HE:=bN;clear bN;by_cases h9:kx=9
 ·subst h9;have bN:=hid (show fD l=(ve >>= λ aK=>ZR nm aK) l8 from HE.out.trans (congrFun (afR nm) _));clear HE;have HE:=bN;clear bN;go_wp2_with fail;refine(Dq ρ w7 l8 _ _ HA.out.sa.did.at_).mono ?_;intro e w9 hp;rcases GP.cases hp with ⟨aK,l10,v9,az,rfl,rfl,d⟩|⟨m,au,rfl,hg⟩;case inr=>have HF:=hid (show fD l=.error m from HE.out.trans (ak au));have HG:=hid HA.out.sa.did.grown;clear hp au;go_wp2_with fail;exact aj rfl (GP.err HF.out ⟨rfl,ai HG.out hg⟩)
  have bN:=hid (show fD l=ZR nm aK l10 from HE.out.trans (ag az));clear hp az HE;have HE:=bN;clear bN;obtain⟨vk,vn,vs⟩:=aK;have hX:=d.blk HA.out.blk Taf;have x0:w9.cell? ⟨b,22,none⟩=_:=hX.cell 22;have f0:w9.frozen? ⟨b,22,none⟩=_:=hX.frozen 22;have x1:w9.cell? ⟨b,23,none⟩=_:=hX.cell 23;have f1:w9.frozen? ⟨b,23,none⟩=_:=hX.frozen 23;have x2:w9.cell? ⟨b,24,none⟩=_:=hX.cell 24;have f2:w9.frozen? ⟨b,24,none⟩=_:=hX.frozen 24;have QY:=HA.out.set (m':= { kind:=9,name:=nm,aK:=⟨vk,0,ByteArray.empty⟩}) (d':= { kind:=9,name:=nm,aK:=⟨vk,0,ByteArray.empty⟩}) bj d 22 (.int .u8 vk) rfl rfl rfl (λ hat=> { hat with aK:=rfl });have ED:=QY.set (m':= { kind:=9,name:=nm,aK:=⟨vk,vn,ByteArray.empty⟩}) (d':= { kind:=9,name:=nm,aK:=⟨vk,vn,ByteArray.empty⟩}) bj (aY.refl QY.sa.did.at_) 23 (.int .i64 vn) rfl rfl rfl (λ hat=> { hat with aK:=rfl });have fB:=hid (ED.set (m':= { kind:=9,name:=nm,aK:=⟨vk,vn,vs⟩}) (d':= { kind:=9,name:=nm,aK:=⟨vk,vn,vs⟩}) bj (aY.refl ED.sa.did.at_) 24 (.string vs) rfl rfl rfl (λ hat=> { hat with aK:=rfl }));clear hX d HA QY ED;have HA:=fB;clear fB;unfold bD jX fF fp at x0 x1 x2;unfold fp;go_upto_region 8 with fail;clear x0 x1 x2 f0 f1 f2;generalize (World.setCell (World.setCell (World.setCell _ _ _) _ _) _ _)=PA at*;obtain⟨aK,hv9⟩:∃v:Val,v=⟨vk,vn,vs⟩:=⟨_,rfl⟩;rw[<- hv9] at HA HE;clear hv9;have hb:=aa PA (.cells (aP [bk]) 9);have HB:=hid (HA.out.later hb);have kJ:=HA.out.blk.lt;have hm:=aW ρ _ l10 _ _ HB.out.sa.did.at_ [bk] PA.heap.size 1 rfl (av.new PA _ _) Taa Taa
  clear hb HA;unfold aP strOf at hm HB;simp only[map_cons,map_nil] at hm HB;rw[show bk.toArray= #[44] from rfl] at hm HB;go_wp2_with fail;refine hm.mono ?_;clear hm;intro e TI hp;rcases hp.cases with ⟨_,P6,v9,az,rfl,rfl,d⟩|⟨m,au,rfl,hg⟩;case inr=>have HF:=hid (show fD l=.error m from HE.out.trans (ak (show must bk l10=.error m by rw[<- ay];exact au)));have HG:=hid HB.out.sa.did.grown;clear hp au;go_wp2_with fail;exact aj rfl (GP.err HF.out ⟨rfl,ai HG.out hg⟩)
  have bN:=hid (show fD l=LR 9 nm aK P6 from HE.out.trans (ag (show must bk l10=.ok ((),P6) by rw[<- ay];exact az)));have HA:=hid (HB.out.go bj d);clear hp az d HB HE kJ;have HE:=bN;clear bN;go_wp2_with fail;refine(Dq ρ TI P6 _ _ HA.out.sa.did.at_).mono ?_;intro e Iw hp;rcases GP.cases hp with ⟨UN,l15,v9,az,rfl,rfl,d⟩|⟨m,au,rfl,hg⟩;case inr=>have HF:=hid (show fD l=.error m from HE.out.trans (ak au));have HG:=hid HA.out.sa.did.grown;clear hp au;go_wp2_with fail;exact aj rfl (GP.err HF.out ⟨rfl,ai HG.out hg⟩)
  have bN:=hid (show fD l=ZQ 9 nm aK UN l15 from HE.out.trans (ag az));clear hp az HE;have HE:=bN;clear bN;obtain⟨vk,vn,vs⟩:=UN;have hX:=d.blk HA.out.blk Taf;have x0:Iw.cell? ⟨b,25,none⟩=_:=hX.cell 25;have f0:Iw.frozen? ⟨b,25,none⟩=_:=hX.frozen 25;have x1:Iw.cell? ⟨b,26,none⟩=_:=hX.cell 26;have f1:Iw.frozen? ⟨b,26,none⟩=_:=hX.frozen 26;have x2:Iw.cell? ⟨b,27,none⟩=_:=hX.cell 27;have f2:Iw.frozen? ⟨b,27,none⟩=_:=hX.frozen 27;have QY:=HA.out.set (m':= { kind:=9,name:=nm,aK:=aK,cP:=⟨vk,0,ByteArray.empty⟩}) (d':= { kind:=9,name:=nm,aK:=aK,cP:=⟨vk,0,ByteArray.empty⟩}) bj d 25 (.int .u8 vk) rfl rfl rfl (λ hat=> { hat with cP:=rfl });have ED:=QY.set (m':= { kind:=9,name:=nm,aK:=aK,cP:=⟨vk,vn,ByteArray.empty⟩}) (d':= { kind:=9,name:=nm,aK:=aK,cP:=⟨vk,vn,ByteArray.empty⟩}) bj (aY.refl QY.sa.did.at_) 26 (.int .i64 vn) rfl rfl rfl (λ hat=> { hat with cP:=rfl });have fB:=hid (ED.set (m':= { kind:=9,name:=nm,aK:=aK,cP:=⟨vk,vn,vs⟩}) (d':= { kind:=9,name:=nm,aK:=aK,cP:=⟨vk,vn,vs⟩}) bj (aY.refl ED.sa.did.at_) 27 (.string vs) rfl rfl rfl (λ hat=> { hat with cP:=rfl }));clear hX d HA QY ED;have HA:=fB;clear fB;unfold bD jX fF fp at x0 x1 x2;unfold fp;go_upto_region 10 with fail;clear x0 x1 x2 f0 f1 f2;generalize (World.setCell (World.setCell (World.setCell _ _ _) _ _) _ _)=afS at*;obtain⟨UN,hv9⟩:∃v:Val,v=⟨vk,vn,vs⟩:=⟨_,rfl⟩;rw[<- hv9] at HA HE;clear hv9;have hb:=aa afS (.cells (aP [aM]) 9);have HB:=hid (HA.out.later hb);have kJ:=HA.out.blk.lt;have hm:=aW ρ _ l15 _ _ HB.out.sa.did.at_ [aM] afS.heap.size 1 rfl (av.new afS _ _) Taa Taa
  open ziy in exact ZgK
 ·have bN:=hid (show fD l=LR kx nm ct l8 from HE.out.trans (congrFun (aaH nm h9) _));clear HE;have HE:=bN;clear bN;go_wp2_with fail;refine(Dq ρ w7 l8 _ _ HA.out.sa.did.at_).mono ?_;intro e w9 hp;rcases GP.cases hp with ⟨UN,l10,v9,az,rfl,rfl,d⟩|⟨m,au,rfl,hg⟩;case inr=>have HF:=hid (show fD l=.error m from HE.out.trans (ak au));have HG:=hid HA.out.sa.did.grown;clear hp au;go_wp2_with fail;exact aj rfl (GP.err HF.out ⟨rfl,ai HG.out hg⟩)
  have bN:=hid (show fD l=ZQ kx nm ct UN l10 from HE.out.trans (ag az));clear hp az HE;have HE:=bN;clear bN;obtain⟨vk,vn,vs⟩:=UN;have hX:=d.blk HA.out.blk Taf;have x0:w9.cell? ⟨b,25,none⟩=_:=hX.cell 25;have f0:w9.frozen? ⟨b,25,none⟩=_:=hX.frozen 25;have x1:w9.cell? ⟨b,26,none⟩=_:=hX.cell 26;have f1:w9.frozen? ⟨b,26,none⟩=_:=hX.frozen 26;have x2:w9.cell? ⟨b,27,none⟩=_:=hX.cell 27;have f2:w9.frozen? ⟨b,27,none⟩=_:=hX.frozen 27;have QY:=HA.out.set (m':= { kind:=kx,name:=nm,cP:=⟨vk,0,ByteArray.empty⟩}) (d':= { kind:=kx,name:=nm,cP:=⟨vk,0,ByteArray.empty⟩}) bj d 25 (.int .u8 vk) rfl rfl rfl (λ hat=> { hat with cP:=rfl });have ED:=QY.set (m':= { kind:=kx,name:=nm,cP:=⟨vk,vn,ByteArray.empty⟩}) (d':= { kind:=kx,name:=nm,cP:=⟨vk,vn,ByteArray.empty⟩}) bj (aY.refl QY.sa.did.at_) 26 (.int .i64 vn) rfl rfl rfl (λ hat=> { hat with cP:=rfl });have fB:=hid (ED.set (m':= { kind:=kx,name:=nm,cP:=⟨vk,vn,vs⟩}) (d':= { kind:=kx,name:=nm,cP:=⟨vk,vn,vs⟩}) bj (aY.refl ED.sa.did.at_) 27 (.string vs) rfl rfl rfl (λ hat=> { hat with cP:=rfl }));clear hX d HA QY ED;have HA:=fB;clear fB;unfold bD jX fF fp at x0 x1 x2;unfold fp;go_upto_region 10 with fail;clear x0 x1 x2 f0 f1 f2;generalize (World.setCell (World.setCell (World.setCell _ _ _) _ _) _ _)=PA at*;obtain⟨UN,hv9⟩:∃v:Val,v=⟨vk,vn,vs⟩:=⟨_,rfl⟩;rw[<- hv9] at HA HE;clear hv9;have hb:=aa PA (.cells (aP [aM]) 9);have HB:=hid (HA.out.later hb);have kJ:=HA.out.blk.lt;have hm:=aW ρ _ l10 _ _ HB.out.sa.did.at_ [aM] PA.heap.size 1 rfl (av.new PA _ _) Taa Taa
  open ziz in exact ZgK):p:=h
theorem zhq.Kch(h:p:=by have hb:=aa wm (.cells (aP [bZ,bP,dA,eF]) 9);have HB:=hid (qC.out.later hb);have Zz:=hid (show lT (wm.alloc (.cells (aP [bZ,bP,dA,eF]) 9)) w1.heap.size LQ from(hb.block _ pg).trans QV.out);have kJ:=qC.out.res.lt;have hm:=qE ρ _ l2 _ _ HB.out.did.at_ [bZ,bP,dA,eF] wm.heap.size 4 rfl (av.new wm _ _) Taa Taa;clear hb QV qC;unfold aP strOf at hm HB Zz;simp only[map_cons,map_nil] at hm HB Zz;rw[show bZ.toArray= #[114,101,102,114,101,115,104] from rfl,show bP.toArray= #[99,111,109,112,114,101,115,115] from rfl,show dA.toArray= #[100,101,99,111,109,112,114,101,115,115] from rfl,show eF.toArray= #[100,114,111,112,95,99,104,117,110,107,115] from rfl] at hm HB Zz;open zgX in exact Zep):p:=h
theorem zgt.KbU(h:p:=by refine bl Tryz.underlying158 Tryz.underlying9 rfl _ _ _ rfl w1.heap.size rfl [114,101,102,114,101,115,104] rfl (.int .u8 9) rfl HM Tab ?_;clear HM;intro wm HM iU;replace HG:=ai HG iU;clear iU;refine bl Tryz.underlying158 Tryz.underlying9 rfl _ _ _ rfl w1.heap.size rfl [99,111,109,112,114,101,115,115] rfl (.int .u8 10) rfl HM Tab ?_;clear HM;intro wm HM iU;replace HG:=ai HG iU;clear iU;refine bl Tryz.underlying158 Tryz.underlying9 rfl _ _ _ rfl w1.heap.size rfl [100,101,99,111,109,112,114,101,115,115] rfl (.int .u8 11) rfl HM Tab ?_;clear HM;intro wm HM iU;replace HG:=ai HG iU;clear iU;refine bl Tryz.underlying158 Tryz.underlying9 rfl _ _ _ rfl w1.heap.size rfl [100,114,111,112,95,99,104,117,110,107,115] rfl (.int .u8 12) rfl HM Tab ?_;clear HM;intro wm HM iU;replace HG:=ai HG iU;clear iU;have QV:=hid (show lT wm w1.heap.size LQ from HM);open zhq in exact ZeO):p:=h
theorem zeN.Kbf(h:p:=by
 have hb:=aa W0 (.cells (aP [ll]) 9);have HB:=hid (HS.out.later hb);have kJ:=HS.out.res.lt;have hm:=aW ρ _ l _ _ HB.out.did.at_ [ll] W0.heap.size 1 rfl (av.new W0 _ _) Taa Taa;clear hb HS;unfold aP strOf at hm HB;simp only[map_cons,map_nil] at hm HB;rw[show ll.toArray= #[99,97,108,108] from rfl] at hm HB;go_wp2_with fail;refine hm.mono ?_;clear hm;intro e w1 hp;rcases hp.cases with ⟨_,l2,v9,az,rfl,rfl,d⟩|⟨m,au,rfl,hg⟩;case inr=>have HF:=hid (show fD l=.error m from HE.out.trans (ak (show must ll l=.error m by rw[<- ay];exact au)));have HG:=hid HB.out.did.grown;clear hp au;go_wp2_with fail;exact aj rfl (GP.err HF.out ⟨rfl,ai HG.out hg⟩)
 have bN:=hid (show fD l=ZT l2 from HE.out.trans (ag (show must ll l=.ok ((),l2) by rw[<- ay];exact az)));open zgt in exact Zd7):p:=h
theorem ze5.Kbk(h:p:=by have HE:=hid (show fD l=(must ll >>= λ _=>ZT) l from rfl);clear h b1;go_enter Tryz.func73,Tryz.ntmps73;open zeN in exact Zcb):p:=h
theorem UM (ρ:bp)(w:World)(l:aI)(lg dp:Bool)(h:ρ.fU w l lg dp):
  Calls Tryz.prog 73 #[ρ.ptr] w (cI ρ w lg dp fD l):=by
 open ze5 in exact Zcm
def adz (name:ByteArray)(aS:List (ByteArray×Tr))(aR:List Tr):Ps St:=return { kind:=6,name,aS,aR }
def adA (name:ByteArray)(aS:List (ByteArray×Tr)):Ps St:=do
 let aR <- gR dh
 adz name aS aR
def adB (name:ByteArray):Ps St:=do
 let aS <- dI xh
 adA name aS
def adC (name:ByteArray):Ps St:=do
 must rS
 adB name
def ZX:Ps St:=do
 let name <- cD
 adC name
def nu:Ps St:=must gw >>= λ _=>ZX
theorem zcX.KaC(h:p:=by generalize W11.setRow (w.heap.size+1) cs=WF at*;go_wp2_with fail;exact bodyPost_ret (v:=.agg cs) (results_cell_row Tryz.results70 _ _ (w.heap.size+1) 34 cs (0,0) _ rfl sf.out Tryz.underlying34 rfl dK.out) rfl tz.out):p:=h
theorem zd2.Ka0(h:p:=by refine wpList_store_row rfl 34 (.tmp 2) (.tmp 19) rfl (w.heap.size+1) cs rfl rfl 34 cN lS.out dK.out mo.out jM.out ?_;open zcX in exact ZaV):p:=h
theorem zbi.Kai(h:p:=by have vz:=hid (show av W11 b 34 cs by rw[hcs];exact HA.out.blk);have lS:=hid HA.out.sa.res;have tz:=hid (show cI ρ w lg dp nu l (.returned (.agg cs)) (W11.setRow (w.heap.size+1) cs) by rw[hcs];exact HA.out.post bj HX.out);open zd2 in exact ZbB):p:=h
theorem zdU.KaY(h:p:=by
 have hb:=aa WB (.cells (aP [rS]) 9);have HB:=hid (HA.out.later hb);have kJ:=HA.out.blk.lt;have p0:=HA.out.sa.ptr;have hm:=aW ρ _ l4 _ _ HB.out.sa.did.at_ [rS] WB.heap.size 1 rfl (av.new WB _ _) Taa Taa;clear hb HA;unfold aP strOf at hm HB;simp only[map_cons,map_nil] at hm HB;rw[show rS.toArray= #[115,101,116] from rfl] at hm HB;go_wp2_with fail;refine hm.mono ?_;clear hm p0;intro e w5 hp;rcases hp.cases with ⟨_,l6,v9,az,rfl,rfl,d⟩|⟨m,au,rfl,hg⟩;case inr=>have HF:=hid (show nu l=.error m from HE.out.trans (ak (show must rS l4=.error m by rw[<- ay];exact au)));have HG:=hid HB.out.sa.did.grown;clear hp au;go_wp2_with fail;exact aj rfl (GP.err HF.out ⟨rfl,ai HG.out hg⟩)
 have bN:=hid (show nu l=adB nm l6 from HE.out.trans (ag (show must rS l4=.ok ((),l6) by rw[<- ay];exact az)));have HA:=hid (HB.out.go bj d);clear hp az d HB HE kJ;have HE:=bN;clear bN;have p0:=HA.out.sa.ptr;have F:=HA.out.fit bj 20 Tab
 have L:Lst ρ w (λ x=>decide (32 < x.2.depth)) xh 121 #[.pointer (some ⟨w.heap.size,0,none⟩),.pointer (some ⟨b,0,none⟩)] ((stG ρ w (w.heap.size+1) w.heap.size b { kind:=6,name:=nm } { kind:=6,name:=nm } 20).acc sT 55):=
  ⟨Fz,enters_of Tryz.func121 Tac rfl,λ acc a b hs hg _=>by obtain⟨v,h⟩:=hs;exact⟨v,h.grown F hg⟩,λ acc W l lg dp hn hs hd=>Uy _ F rfl rfl acc W l lg dp hn hs hd⟩
 have hm:=nS ρ w (λ x=>decide (32 < x.2.depth)) xh 121 #[.pointer (some ⟨w.heap.size,0,none⟩),.pointer (some ⟨b,0,none⟩)] _ L w5 l6 _ _ HA.out.sa.did (HA.out.start sT 55 20 rfl) bj;clear L F;go_wp2_with fail;refine hm.mono ?_;clear hm p0;intro e w7 hp;unfold iK at hp
 cases hx:dI xh l6 with
 | error m=>rw[hx] at hp;obtain⟨rfl,hg⟩:=hp;have HF:=hid (show nu l=.error m from HE.out.trans (ak hx));exact Zcl
 | ok z=>
   obtain⟨aS,l8⟩:=z;rw[hx] at hp;obtain⟨rfl,hs,hd⟩:=hp;obtain⟨so,hA⟩:=HA.out.list (m':=λ so=> { kind:=6,name:=nm,aS:=so }) (d':= { kind:=6,name:=nm,aS:=aS }) hs hd (λ _=>rfl) Tau Tai (λ so jk hat=> { hat with aS:=jk });have bN:=hid (show nu l=adA nm aS l8 from HE.out.trans (ag hx));have fB:=hid hA;clear hx hA hs hd HA HE;have HA:=fB;have HE:=bN;clear fB bN;go_upto_region 5 with fail;have p0:=HA.out.sa.ptr;go_wp2_with fail;refine(Ar ρ w7 l8 _ _ HA.out.sa.did.at_ dh ⟨#[119,104,101,114,101]⟩ rfl).mono ?_;clear p0;intro e w9 hp;rcases GP.cases hp with ⟨aR,l10,v9,az,rfl,⟨A,n,c⟩,rfl,jk,d⟩|⟨m,au,rfl,hg⟩;case inr=>have HF:=hid (show nu l=.error m from HE.out.trans (ak au));have HG:=hid HA.out.sa.did.grown;clear hp au;go_wp2_with fail;exact aj rfl (GP.err HF.out ⟨rfl,ai HG.out hg⟩)
   have bN:=hid (show nu l=adz nm aS aR l10 from HE.out.trans (ag az));clear hp az HE;have HE:=bN;clear bN;have kJ:=HA.out.blk.lt;have hX:=d.blk HA.out.blk Taf;have hc:w9.cell? ⟨b,21,none⟩=_:=hX.cell 21;have hf:w9.frozen? ⟨b,21,none⟩=_:=hX.frozen 21;have fB:=hid (HA.out.set (m':= { kind:=6,name:=nm,aS:=so,aR:=⟨A,n,c⟩}) (d':= { kind:=6,name:=nm,aS:=aS,aR:=aR }) bj d 21 (.slice A n c) rfl Tau Tai (λ hat=> { hat with aR:=El.lies.more jk Taa}));clear hX d HA;have HA:=fB;clear fB;unfold bD jX fF fp at hc;try unfold fF
   go_upto_region 6 with fail;clear hc hf;generalize w9.setCell _ _=W11 at*;obtain⟨afT,hs9⟩:∃s:Sl,s=⟨A,n,c⟩:=⟨_,rfl⟩;rw[<- hs9] at HA;clear hs9 kJ jk;have HX:=hid (show nu l=.ok ({ kind:=6,name:=nm,aS:=aS,aR:=aR },l10)from HE.out);obtain⟨cs,hcs⟩:∃cs,cs=(bD { kind:=6,name:=nm,aS:=so,aR:=afT }).toArray:=⟨_,rfl⟩;open zbi in exact Zam):p:=h
theorem zif.KcF(h:p:=by
 rcases hp.cases with ⟨nm,l4,v9,az,rfl,rfl,d⟩|⟨m,au,rfl,hg⟩;case inr=>have HF:=hid (show nu l=.error m from HE.out.trans (ak au));have HG:=hid HS.out.did.grown;clear hp au;go_wp2_with fail;exact aj rfl (GP.err HF.out ⟨rfl,ai HG.out hg⟩)
 have bN:=hid (show nu l=adC nm l4 from HE.out.trans (ag az));clear hp az HE;have HE:=bN;clear bN;have wb:=d.size;have qC:=hid (HS.out.go bj d);have hbq:=qC.out.res.lt;obtain⟨cs,hcs⟩:∃cs,cs=(bD { kind:=6,name:=nm }).toArray:=⟨_,rfl⟩;have dK:=hid (show(Tryz.prog.info? 34).map (·.size)=some cs.size by rw[hcs];exact cm);have mo:=hid (show cN.size=cs.size by rw[hcs,bB];exact bB _);have jM:=hid (show cs.all (·.oneCell')=true by rw[hcs];exact cS _);have BD:=hid (show Tryz.prog.built 34 [(0,.int .u8 6),(1,.string nm)]=some cs by rw[hcs];exact mn _ _);have HA:=hid (show vy ρ w (w.heap.size+1) [w.heap.size] lg dp w3.heap.size (w3.alloc (.cells cs 34)) l4 { kind:=6,name:=nm } { kind:=6,name:=nm } by
  rw[hcs]
  exact qC.out.start (lg2:=lg) (dp2:=dp) { kind:=6,name:=nm } { kind:=6,name:=nm } (λ p hp=>by simp at hp;subst hp;omega) Tal Tar Tal (λ W S=> { St.kv W S with kind:=rfl,name:=rfl }))
 open zdU in exact Zbt):p:=h
theorem zgF.KbY(h:p:=by
 have hb:=aa W0 (.cells (aP [gw]) 9);have HB:=hid (HS.out.later hb);have kJ:=HS.out.res.lt;have p0:=HS.out.ptr;have hm:=aW ρ _ l _ _ HB.out.did.at_ [gw] W0.heap.size 1 rfl (av.new W0 _ _) Taa Taa;clear hb HS;unfold aP strOf at hm HB;simp only[map_cons,map_nil] at hm HB;rw[show gw.toArray= #[117,112,100,97,116,101] from rfl] at hm HB;go_wp2_with fail;refine hm.mono ?_;clear hm p0;intro e w1 hp;rcases hp.cases with ⟨_,l2,v9,az,rfl,rfl,d⟩|⟨m,au,rfl,hg⟩;case inr=>have HF:=hid (show nu l=.error m from HE.out.trans (ak (show must gw l=.error m by rw[<- ay];exact au)));have HG:=hid HB.out.did.grown;clear hp au;go_wp2_with fail;exact aj rfl (GP.err HF.out ⟨rfl,ai HG.out hg⟩)
 have bN:=hid (show nu l=ZX l2 from HE.out.trans (ag (show must gw l=.ok ((),l2) by rw[<- ay];exact az)));open zif in exact Zgs):p:=h
theorem zcN.KaB(h:p:=by have HE:=hid (show nu l=(must gw >>= λ _=>ZX) l from rfl);clear h b2 hP hR;go_enter Tryz.func70,Tryz.ntmps70;open zgF in exact Zeb):p:=h
theorem LV (ρ:bp)(w:World)(l:aI)(lg dp:Bool)(h:ρ.fU w l lg dp):
  Calls Tryz.prog 70 #[ρ.ptr] w (cI ρ w lg dp nu l):=by
 open zcN in exact ZaU
end Go.Proofs.YtehhdlgjfdnafaaGreatDoor
