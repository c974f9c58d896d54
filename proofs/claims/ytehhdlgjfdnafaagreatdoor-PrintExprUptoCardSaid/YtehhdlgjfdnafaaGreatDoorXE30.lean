/- Parts of the proof. -/
import Derived.Test.YtehhdlgjfdnafaaGreatDoorXE27
namespace Go.Proofs.YtehhdlgjfdnafaaGreatDoor
variable{p:Prop}
set_option maxHeartbeats 90000000
set_option maxRecDepth 100000
open Go.Lib (hid)
open Go.ChangeShapes Go.WideShapes Go.ChangeAt Go.RowKit List
set_option linter.unusedVariables false
set_option linter.unusedSimpArgs false
def Ny (s:List UInt8):Int:=if s=cm then 1 else if s=dc then 2 else 3
def Jg:List (List UInt8×Value):=[([116,97,98,108,101],.int .u8 1),([118,105,101,119],.int .u8 2),([106,111,98],.int .u8 3)]
variable{s:List UInt8}
theorem Qy(h:s∈ [cm,dc,gR]):(Jg.lookup (⟨s.toArray⟩:ByteArray).data.toList).getD (.int .u8 0)=.int .u8 (Ny s):=by
 simp only[mem_cons,not_mem_nil,or_false] at h;rcases h with rfl | rfl | rfl <;> rfl
def Vg (k:Int):Ps St:=do
 let name <- ct
 return { kind:=4,what:=k,name }
def Md:Ps St:=jU [cm,dc,gR] >>= λ s=>Vg (Ny s)
def nR:Ps St:=must fT >>= λ _=>Md
variable{ρ:bj}{w wr w2:World}{q G:Nat}{wB:List Nat}{lg dp:Bool}{l:aF}
theorem yL.Qz(A:yL ρ w q wB lg dp wr l)(hg:ρ.g < w.heap.size)(h:wr.grownBy w2 (some G))(hG:w.heap.size<=G)(hq:q≠G)(hp:∀p∈wB,p≠G):yL ρ w q wB lg dp w2 l:=
 ⟨A.did.own hg h (λ G' e=>by injection e with e;omega),A.res.grown h Tad,A.qw,λ p h'=>by obtain⟨a,c,k⟩:=A.tF p h';have:=hp p h';exact⟨a,c,k.grown h Tad⟩⟩
theorem zgd.KbS(h:p:=by
 refine hm.mono ?_;clear hm;intro e w8 hp;rcases hp.cases with ⟨sx,l8,v9,ay,rfl,rfl,d⟩|⟨m,au,rfl,hg⟩;case inr=>have HF:=hid (show nR l=.error m from HE.out.trans (ak au));have HG:=hid HB.out.did.grown;clear hp au;go_wp2_with fail;exact aj rfl (GP.err HF.out ⟨rfl,ai HG.out hg⟩)
 have rj:=tH ay;have bH:=hid (show nR l=Vg (Ny sx) l8 from HE.out.trans (ag ay));have HS:=hid (HB.out.go aZ d);have CD:=hid (show kJ w8 w1.heap.size Jg from(d.grown.block _ Tad (by intro e;injection e with e;omega)).trans Vh.out);have Xw:=hid (Qy rj);clear hp ay d HB HE Vh rj;have HE:=bH;clear bH;try unfold strOf
 go_upto_region 3 with (first
  |(refine fc Tryz.underlying158 Tryz.underlying9 rfl _ _ rfl w1.heap.size rfl (⟨sx.toArray⟩:ByteArray) rfl (l:=Jg) CD.out (z:=.int .u8 0) Tryz.zeroValue5 ?_
    rw[Xw.out]))
 clear Xw CD;generalize Ny sx=kx at*;go_wp2_with fail;refine(dN ρ w8 l8 _ _ HS.out.did.at_).mono ?_;intro e w3 hp;rcases hp.cases with ⟨nm,l4,v9,ay,rfl,rfl,d⟩|⟨m,au,rfl,hg⟩;case inr=>have HF:=hid (show nR l=.error m from HE.out.trans (ak au));have HG:=hid HS.out.did.grown;clear hp au;go_wp2_with fail;exact aj rfl (GP.err HF.out ⟨rfl,ai HG.out hg⟩)
 have bH:=hid (show nR l=.ok ({ kind:=4,what:=kx,name:=nm },l4)from HE.out.trans ((ag ay).trans rfl));clear hp ay HE;obtain⟨cs,hcs⟩:∃cs,cs=(bI { kind:=4,what:=kx,name:=nm }).toArray:=⟨_,rfl⟩;have dy:=hid (show(Tryz.prog.info? 34).map (·.size)=some cs.size by rw[hcs];exact bT);have lD:=hid (show cF.size=cs.size by rw[hcs,br];exact br _);have jq:=hid (show cs.all (·.oneCell')=true by rw[hcs];exact cL _);have zy:=hid (show Tryz.prog.built 34 [(0,.int .u8 4),(8,.int .u8 kx),(1,.string nm)]=some cs by rw[hcs];exact Mc _ _);have jR:=HS.out.res.lt;have kI:=hid (d.blk HS.out.res Taa);have rT:=hid (show cy ρ w lg dp nR l (.returned (.agg cs)) (w3.setRow w.heap.size cs) by
  rw[hcs]
  refine GP.ok bH.out ⟨_,rfl,{ St.iR _ _ with kind:=rfl,what:=rfl,name:=rfl },?_⟩
  have hD:=(HS.out.did.trans d).own aZ (cx w3 w.heap.size (bI { kind:=4,what:=kx,name:=nm }).toArray) (λ G e=>by injection e with e;omega)
  simpa [St.long,St.exprs,Qu.long,Qu.exprs,cR] using hD)
 clear d HS bH hcs;go_wp2_with (first
  |(refine gO rfl 34 _ rfl (cs:=cs) ?hv ?_;rotate_left)
  |(refine wpList_store_row rfl 34 (.tmp 2) (.tmp 16) rfl w.heap.size cs rfl rfl 34 cF kI.out dy.out lD.out jq.out ?_
    have qU:=hid (kI.out.row cs)))
 case hv=>exact zy.out
 exact bodyPost_ret (v:=.agg cs) (results_cell_row Tryz.results68 _ _ w.heap.size 34 cs (0,0) _ rfl qU.out Tryz.underlying34 rfl dy.out) rfl rT.out):p:=h
theorem zgK.Kb6(h:p:=by have hb:=aa wm (.cells (aK [cm,dc,gR]) 9);have HB:=hid (pQ.out.later hb);have Vh:=hid (show kJ (wm.alloc (.cells (aK [cm,dc,gR]) 9)) w1.heap.size Jg from(hb.block _ ox).trans Ns.out);have jR:=pQ.out.res.lt;have hm:=pR ρ _ l2 _ _ HB.out.did.at_ [cm,dc,gR] wm.heap.size 3 rfl (av.new wm _ _) Taa Taa;clear hb Ns pQ;unfold aK strOf at hm HB Vh;simp only[map_cons,map_nil] at hm HB Vh;rw[show cm.toArray= #[116,97,98,108,101] from rfl,show dc.toArray= #[118,105,101,119] from rfl,show gR.toArray= #[106,111,98] from rfl] at hm HB Vh;open zgd in exact Zd8):p:=h
theorem zfP.KbJ(h:p:=by refine bh Tryz.underlying158 Tryz.underlying9 rfl _ _ _ rfl w1.heap.size rfl [116,97,98,108,101] rfl (.int .u8 1) rfl HM Tac ?_;clear HM;intro wm HM iu;replace HG:=ai HG iu;clear iu;refine bh Tryz.underlying158 Tryz.underlying9 rfl _ _ _ rfl w1.heap.size rfl [118,105,101,119] rfl (.int .u8 2) rfl HM Tac ?_;clear HM;intro wm HM iu;replace HG:=ai HG iu;clear iu;refine bh Tryz.underlying158 Tryz.underlying9 rfl _ _ _ rfl w1.heap.size rfl [106,111,98] rfl (.int .u8 3) rfl HM Tac ?_;clear HM;intro wm HM iu;replace HG:=ai HG iu;clear iu;have Ns:=hid (show kJ wm w1.heap.size Jg from HM);open zgK in exact Zez):p:=h
theorem zeh.Ka7(h:p:=by
 have hb:=aa W0 (.cells (aK [fT]) 9);have HB:=hid (HS.out.later hb);have jR:=HS.out.res.lt;have hm:=aR ρ _ l _ _ HB.out.did.at_ [fT] W0.heap.size 1 rfl (av.new W0 _ _) Taa Taa;clear hb HS;unfold aK strOf at hm HB;simp only[map_cons,map_nil] at hm HB;rw[show fT.toArray= #[100,114,111,112] from rfl] at hm HB;go_wp2_with fail;refine hm.mono ?_;clear hm;intro e w1 hp;rcases hp.cases with ⟨_,l2,v9,ay,rfl,rfl,d⟩|⟨m,au,rfl,hg⟩;case inr=>have HF:=hid (show nR l=.error m from HE.out.trans (ak (show must fT l=.error m by rw[<- ax];exact au)));have HG:=hid HB.out.did.grown;clear hp au;go_wp2_with fail;exact aj rfl (GP.err HF.out ⟨rfl,ai HG.out hg⟩)
 have bH:=hid (show nR l=Md l2 from HE.out.trans (ag (show must fT l=.ok ((),l2) by rw[<- ax];exact ay)));open zfP in exact ZdR):p:=h
theorem zeC.Kbd(h:p:=by have HE:=hid (show nR l=(must fT >>= λ _=>Md) l from rfl);clear h b1;go_enter Tryz.func68,Tryz.ntmps68;open zeh in exact Zb0):p:=h
theorem QA (ρ:bj)(w:World)(l:aF)(lg dp:Bool)(h:ρ.fy w l lg dp):
  Calls Tryz.prog 68 #[ρ.ptr] w (cy ρ w lg dp nR l):=by
 open zeC in exact Zcc
def Bz:List (List UInt8×Value):=[([99,114,101,97,116,101],.func (.func 67) #[] #[]),([100,114,111,112],.func (.func 68) #[] #[]),([105,110,115,101,114,116],.func (.func 69) #[] #[]),([117,112,100,97,116,101],.func (.func 70) #[] #[]),([100,101,108,101,116,101],.func (.func 71) #[] #[]),([115,101,108,101,99,116],.func (.func 72) #[] #[]),([99,97,108,108],.func (.func 73) #[] #[])]
theorem zc3.KaH(h:p:=by
 have HE:=hid hP;have HF:=hid (hF W1 _ _ HS.out.did.at_);clear hF hP hv;have zM:∀w,(binOp .eql 121 (.func (.func F) #[] #[]) .nilFunc).run Tryz.prog w=.ok (.bool false) w:=λ _=>rfl
 go_upto_region 6 with fail;clear y0 y1;go_wp2_with fail;refine HF.out.mono ?_;clear HF;intro e w2 hp;rcases GP.cases hp with ⟨d9,L2,v9,ay,rfl,m9,rfl,Jh,d⟩|⟨n9,au,hfp⟩
 ·have hgq:=HS.out.res.lt;have hsz:=d.size;obtain⟨cs,hcs⟩:∃cs,cs=(bI m9).toArray:=⟨_,rfl⟩;have dy:=hid (show(Tryz.prog.info? 34).map (·.size)=some cs.size by rw[hcs];exact bT);have lD:=hid (show cF.size=cs.size by rw[hcs,br];exact br _);have jq:=hid (show cs.all (·.oneCell')=true by rw[hcs];exact cL _);have kI:=hid (d.blk HS.out.res Taa);have rT:=hid (show cy ρ w lg dp bQ (⟨1,s9,n9⟩::r) (.returned (.agg cs)) (w2.setRow w.heap.size cs) by
   rw[hcs]
   exact GP.ok (HE.out.trans ay) ⟨m9,rfl,St.at_.keep (gy Taa) (St.at_.keep (ie w2 (show w.heap.size < W1.heap.size by omega) _) Jh),(HS.out.did.trans d).own aZ (cx w2 w.heap.size (bI m9).toArray) (λ G e=>by injection e with e;omega)⟩)
  unfold mC;rw[<- hcs];clear d HS HE hcs Jh hp ay;go_wp2_with (first
   |(refine wpList_store_row rfl 34 (.tmp 2) (.tmp 25) rfl w.heap.size cs rfl rfl 34 cF kI.out dy.out lD.out jq.out ?_
     have qU:=hid (kI.out.row cs)))
  exact bodyPost_ret (v:=.agg cs) (results_cell_row Tryz.results27 _ _ w.heap.size 34 cs (0,0) _ rfl qU.out Tryz.underlying34 rfl dy.out) rfl rT.out
 ·obtain⟨rfl,hgr⟩:=hfp;exact aj rfl (GP.err (HE.out.trans au) ⟨rfl,ai HS.out.did.grown hgr⟩)):p:=h
theorem zc4.KaH(h:p:=by
 have HF:=hid (jk ρ W1 _ _ _ HS.out.did.at_);have HE:=hid (show bQ (⟨1,s9,n9⟩::r)=.error (⟨1,s9,n9⟩::r:aF).length from TS);have zM:∀w,(binOp .eql 121 .nilFunc .nilFunc).run Tryz.prog w=.ok (.bool true) w:=λ _=>rfl
 exact Zet):p:=h
theorem zgc.KbS(h:p:=by
 refine hm.mono ?_;clear hm;rintro e w1 ⟨rfl,b1⟩;have hs1:=b1.size;obtain⟨tk,xH⟩:∃tk,tk=ρ.tok (t::r):=⟨_,rfl⟩;have uG:tk.w=t:=by rw[xH];exact L5.out
 rw[<- xH];clear xH L5;have hb2:=aa w1 (.cells (bV tk) 81);have HS:=hid ((pQ.out.later b1).later hb2);have HT:=hid (av.new w1 81 (bV tk));have CD:=hid (show kJ (w1.alloc (.cells (bV tk) 81)) W0.heap.size Bz from((hb2.block _ Taa).trans (b1.block _ ox)).trans Ns.out);clear b1 hb2 pQ Ns;obtain⟨⟨k9,s9,n9⟩,p9⟩:=tk;simp only at uG;subst uG;rcases HC.out with ⟨F,P,en,hF,hk,hv,hP⟩| hk |⟨hk,hv,TS⟩
 ·open zc3 in exact Za6
 ·clear HC;simp only at hk;have yu:((k9:Int) != 1)=true:=by simp;omega
  unfold bV at HS HT CD;unfold bV;go_upto_region 3 with fail
  change Code.wp _ _ _ _ (w1.alloc (.cells #[.int .u8 ((k9:Nat):Int),.string ⟨s9.toArray⟩,.int .i64 n9,.int .i64 p9] 81));generalize hb:w1.heap.size=b at*;generalize hW:(World.alloc w1 _)=W1 at*;clear hW hb hs1 ox;have y0:W1.cell? ⟨b,0,none⟩=some (.int .u8 ((k9:Nat):Int)):=(HT.out.cell 0).trans rfl;have y1:W1.cell? ⟨b,1,none⟩=some (.string ⟨s9.toArray⟩):=(HT.out.cell 1).trans rfl;go_upto_region 4 with (first
   |(refine fc Tryz.underlying122 Tryz.underlying9 rfl _ _ rfl W0.heap.size rfl (⟨s9.toArray⟩:ByteArray) rfl (l:=Bz) CD.out (z:=.nilFunc) Tryz.zeroValue121 ?_
     rw[show(⟨s9.toArray⟩:ByteArray).data.toList=s9 by simp]))
  generalize (Bz.lookup s9).getD .nilFunc=u at*;clear CD HT;have HF:=hid (jk ρ W1 _ _ _ HS.out.did.at_);have HE:=hid (show bQ (⟨k9,s9,n9⟩::r)=.error (⟨k9,s9,n9⟩::r:aF).length from by simp[bQ,hk]);exact Zet
 ·open zc4 in exact Za6):p:=h
theorem zei.Ka7(h:p:=by
 have HM:=kJ.new W0;have HG:=az (p:=W0.heap.size) (aa W0 (.map #[] 0));refine wp_region_lit ?_;refine fH rfl 122 rfl ?_;refine bh Tryz.underlying122 Tryz.underlying9 rfl _ _ _ rfl W0.heap.size rfl [99,114,101,97,116,101] rfl (.func (.func 67) #[] #[]) rfl HM Tac ?_;clear HM;intro wm HM iu;replace HG:=ai HG iu;clear iu;refine bh Tryz.underlying122 Tryz.underlying9 rfl _ _ _ rfl W0.heap.size rfl [100,114,111,112] rfl (.func (.func 68) #[] #[]) rfl HM Tac ?_;clear HM;intro wm HM iu;replace HG:=ai HG iu;clear iu;refine bh Tryz.underlying122 Tryz.underlying9 rfl _ _ _ rfl W0.heap.size rfl [105,110,115,101,114,116] rfl (.func (.func 69) #[] #[]) rfl HM Tac ?_;clear HM;intro wm HM iu;replace HG:=ai HG iu;clear iu;refine bh Tryz.underlying122 Tryz.underlying9 rfl _ _ _ rfl W0.heap.size rfl [117,112,100,97,116,101] rfl (.func (.func 70) #[] #[]) rfl HM Tac ?_;clear HM;intro wm HM iu;replace HG:=ai HG iu;clear iu;refine bh Tryz.underlying122 Tryz.underlying9 rfl _ _ _ rfl W0.heap.size rfl [100,101,108,101,116,101] rfl (.func (.func 71) #[] #[]) rfl HM Tac ?_;clear HM;intro wm HM iu;replace HG:=ai HG iu;clear iu;refine bh Tryz.underlying122 Tryz.underlying9 rfl _ _ _ rfl W0.heap.size rfl [115,101,108,101,99,116] rfl (.func (.func 72) #[] #[]) rfl HM Tac ?_;clear HM;intro wm HM iu;replace HG:=ai HG iu;clear iu;refine bh Tryz.underlying122 Tryz.underlying9 rfl _ _ _ rfl W0.heap.size rfl [99,97,108,108] rfl (.func (.func 73) #[] #[]) rfl HM Tac ?_
 clear HM;intro wm HM iu;replace HG:=ai HG iu;clear iu;have Ns:=hid (show kJ wm W0.heap.size Bz from HM);have pQ:=hid (HS.out.Qz (w2:=wm) aZ HG Taa Taa (λ p hp=>by simp at hp));have ox:W0.heap.size < wm.heap.size:=by have:=Ns.out;unfold kJ at this;exact(Array.getElem?_eq_some_iff.mp this).1
 clear HM HG HS;have hm:=gL ρ wm (t::r) _ _ pQ.out.did.at_;open zgc in exact Zd8):p:=h
theorem FW (ρ:bj)(w:World)(t:Wd)(r:aF)(lg dp:Bool)(h:ρ.fy w (t::r) lg dp)(hc:(∃(F:FuncId) (P:Ps St),(∀args w,(callFunc F args).run Tryz.prog w=.ok (.enter F args) w)/\(∀w2 lg dp,ρ.fy w2 (t::r) lg dp->Calls Tryz.prog F #[ρ.ptr] w2 (cy ρ w2 lg dp P (t::r)))/\t.k=1/\(Bz.lookup t.s).getD .nilFunc=.func (.func F) #[] #[]/\bQ (t::r)=P (t::r))\/(¬t.k=1)\/(t.k=1/\(Bz.lookup t.s).getD .nilFunc=.nilFunc/\bQ (t::r)=.error (t::r).length)):
  Calls Tryz.prog 27 #[ρ.ptr] w (cy ρ w lg dp bQ (t::r)):=by
 have aZ:=h.mE;have xH:(ρ.tok (t::r)).w=t:=by obtain⟨tk,r',pl,oa,hl,_⟩:=h.lp;rw[<- oa];injection hl with h1 _;exact h1.symm
 have b1:=aa w (gi {});have HS:=hid (show yL ρ w w.heap.size [] lg dp (w.alloc (gi {})) (t::r)from⟨aU.aA h b1,av.new w _ _,Nat.le_refl _,λ p hp=>by simp at hp⟩);have L5:=hid xH;have HC:=hid hc;clear hc h b1 xH;go_enter Tryz.func27,Tryz.ntmps27;open zei in exact Zb0
theorem nS (ρ:bj)(w:World)(t:Wd)(r:aF)(lg dp:Bool)(h:ρ.fy w (t::r) lg dp)(F:FuncId)(P:Ps St)(en:∀args w,(callFunc F args).run Tryz.prog w=.ok (.enter F args) w)(hF:∀w2 lg dp,ρ.fy w2 (t::r) lg dp->Calls Tryz.prog F #[ρ.ptr] w2 (cy ρ w2 lg dp P (t::r)))(hk:t.k=1)(hv:(Bz.lookup t.s).getD .nilFunc=.func (.func F) #[] #[])(hP:bQ (t::r)=P (t::r)):
  Calls Tryz.prog 27 #[ρ.ptr] w (cy ρ w lg dp bQ (t::r)):=
 FW ρ w t r lg dp h (.inl ⟨F,P,en,hF,hk,hv,hP⟩)
theorem Vi (ρ:bj)(w:World)(t:Wd)(r:aF)(lg dp:Bool)(h:ρ.fy w (t::r) lg dp)(hk:¬t.k=1):
  Calls Tryz.prog 27 #[ρ.ptr] w (cy ρ w lg dp bQ (t::r)):=
 FW ρ w t r lg dp h (.inr (.inl hk))
theorem Vj (ρ:bj)(w:World)(t:Wd)(r:aF)(lg dp:Bool)(h:ρ.fy w (t::r) lg dp)(hk:t.k=1)(hv:(Bz.lookup t.s).getD .nilFunc=.nilFunc)(TS:bQ (t::r)=.error (t::r).length):
  Calls Tryz.prog 27 #[ρ.ptr] w (cy ρ w lg dp bQ (t::r)):=
 FW ρ w t r lg dp h (.inr (.inr ⟨hk,hv,TS⟩))
theorem nk:(Tryz.prog.info? 32).map (·.size)=some 3:=by kernel_rfl
theorem BA (v:Val):(fg v).toArray.all (·.oneCell')=true:=by simp[fg,Value.oneCell']
def Vu (ρ:bj)(w:World)(lg dp:Bool)(l:aF)(e:Ending)(w':World):Prop:=
 GP ρ w tJ l (λ v r u w'=>u=.agg (fg v).toArray/\aU ρ w w' r lg dp) e w'
theorem QD(h:ar bE l=true):tJ l=.ok (bU,l.tail):=by unfold tJ;rw[bK];simp only[h,if_true];rfl
theorem Vv(h:ar bE l=false):tJ l=(mq >>= λ n=>(pure ⟨2,if ar dr l then -n else n,ByteArray.empty⟩:Ps Val)) (ig dr l):=by unfold tJ;rw[bK];simp only[h];exact ag (sB dr l)
theorem BB (ρ:bj)(w:World)(l:aF)(lg dp:Bool)(h:ρ.fy w l lg dp):
  Calls Tryz.prog 123 #[ρ.ptr] w (Vu ρ w lg dp l):=by
 have aZ:=h.mE;have b1:=aa w (.cells #[.int .u8 0,.int .i64 0,.string ⟨#[]⟩] 32);have HQ:=hid (av.new w 32 #[.int .u8 0,.int .i64 0,.string ⟨#[]⟩]);have HD:=hid (aU.aA h b1);have hm:=bk ρ _ l lg dp HD.out.at_ ⟨#[110,117,108,108]⟩;rw[show(⟨#[110,117,108,108]⟩:ByteArray).data.toList=bE from rfl] at hm;clear h b1;cases hh:ar bE l
 ·rw[hh,bS hh] at hm;have HE:=hid (Vv hh);clear hh;go_enter Tryz.func123,Tryz.ntmps123;go_wp2_with fail;refine hm.mono ?_;clear hm;rintro e w1 ⟨rfl,d⟩;have fw:=hid (HD.out.trans d);have oL:=hid (d.blk HQ.out Taa);clear d HD HQ;have hm:=bk ρ w1 l lg dp fw.out.at_ ⟨#[45]⟩;rw[show(⟨#[45]⟩:ByteArray).data.toList=dr from rfl] at hm;go_wp2_with fail;refine hm.mono ?_;clear hm;rintro e w2 ⟨rfl,d⟩;have eC:=hid (fw.out.trans d);have jw:=hid (d.blk oL.out Taa);clear d fw oL;generalize ar dr l=less at*;generalize ig dr l=l2 at*;go_wp2_with fail;refine(dP ρ w2 l2 lg dp eC.out.at_).mono ?_;intro e w3 hp;rcases hp.cases with ⟨n,l3,v9,ay,rfl,rfl,⟨xY,uA⟩,d⟩|⟨m,au,rfl,hg⟩;case inr=>have HF:=hid (show tJ l=.error m from HE.out.trans (ak au));have HG:=hid eC.out.grown;clear hp au;go_wp2_with fail;exact aj rfl (GP.err HF.out ⟨rfl,ai HG.out hg⟩)
  have tq:=hid (show tJ l=.ok (⟨2,if less then -n else n,ByteArray.empty⟩,l3)from HE.out.trans ((ag ay).trans rfl));have jv:=hid (eC.out.trans d);have lL:=hid (d.blk jw.out Taa);clear hp ay d eC jw HE;cases less
  ·have HX:=hid (show tJ l=.ok (⟨2,n,ByteArray.empty⟩,l3)from tq.out);clear tq;go_wp2_with (first
    |(refine wpList_store_row rfl 32 (.tmp 2) (.tmp 16) rfl w.heap.size (fg ⟨2,n,ByteArray.empty⟩).toArray rfl rfl 32 #[.int .u8 0,.int .i64 0,.string ⟨#[]⟩] lL.out nk rfl (BA _) ?_
      have HR:=hid (lL.out.row (fg ⟨2,n,ByteArray.empty⟩).toArray)))
   exact bodyPost_ret (v:=.agg (fg ⟨2,n,ByteArray.empty⟩).toArray) (results_cell_row Tryz.results123 _ _ w.heap.size 32 (fg ⟨2,n,ByteArray.empty⟩).toArray (0,0) _ rfl HR.out Tryz.underlying32 rfl nk) rfl
    (GP.ok HX.out ⟨rfl,jv.out.own aZ (cx w3 _ _) (λ G e=>by injection e with e;omega)⟩)
  ·have HX:=hid (show tJ l=.ok (⟨2, -n,ByteArray.empty⟩,l3)from tq.out);have Ay:IntKind.i64.wrap (-n)= -n:=Go.IntWalk.i64_in _ Taa;clear tq;go_wp2_with (first
    |(refine wpList_store_row rfl 32 (.tmp 2) (.tmp 16) rfl w.heap.size (fg ⟨2, -n,ByteArray.empty⟩).toArray rfl rfl 32 #[.int .u8 0,.int .i64 0,.string ⟨#[]⟩] lL.out nk rfl (BA _) ?_
      have HR:=hid (lL.out.row (fg ⟨2, -n,ByteArray.empty⟩).toArray)))
   exact bodyPost_ret (v:=.agg (fg ⟨2, -n,ByteArray.empty⟩).toArray) (results_cell_row Tryz.results123 _ _ w.heap.size 32 (fg ⟨2, -n,ByteArray.empty⟩).toArray (0,0) _ rfl HR.out Tryz.underlying32 rfl nk) rfl
    (GP.ok HX.out ⟨rfl,jv.out.own aZ (cx w3 _ _) (λ G e=>by injection e with e;omega)⟩)
 ·rw[hh,cg hh] at hm;have HE:=hid (QD hh);clear hh;go_enter Tryz.func123,Tryz.ntmps123;go_wp2_with fail;refine hm.mono ?_;clear hm;rintro e w1 ⟨rfl,d⟩;have fw:=hid (HD.out.trans d);have oL:=hid (d.blk HQ.out Taa);clear d HD HQ;go_wp2_with (first
   |(refine wpList_store_row rfl 32 (.tmp 2) (.tmp 7) rfl w.heap.size (fg bU).toArray rfl rfl 32 #[.int .u8 0,.int .i64 0,.string ⟨#[]⟩] oL.out nk rfl (BA _) ?_
     have HR:=hid (oL.out.row (fg bU).toArray)))
  exact bodyPost_ret (v:=.agg (fg bU).toArray) (results_cell_row Tryz.results123 _ _ w.heap.size 32 (fg bU).toArray (0,0) _ rfl HR.out Tryz.underlying32 rfl nk) rfl
   (GP.ok HE.out ⟨rfl,fw.out.own aZ (cx w1 _ _) (λ G e=>by injection e with e;omega)⟩)
def NC (s:List UInt8):Int:=if s=bO then 9 else if s=bJ then 10 else if s=dn then 11 else 12
def Jl:List (List UInt8×Value):=[([114,101,102,114,101,115,104],.int .u8 9),([99,111,109,112,114,101,115,115],.int .u8 10),([100,101,99,111,109,112,114,101,115,115],.int .u8 11),([100,114,111,112,95,99,104,117,110,107,115],.int .u8 12)]
theorem QE(h:s∈ [bO,bJ,dn,eo]):(Jl.lookup (⟨s.toArray⟩:ByteArray).data.toList).getD (.int .u8 0)=.int .u8 (NC s):=by
 simp only[mem_cons,not_mem_nil,or_false] at h;rcases h with rfl | rfl | rfl | rfl <;> rfl
def Vw (k:Int)(name:ByteArray)(aN dH:Val):Ps St:=return { kind:=k,name,aN,dH }
def Vx (k:Int)(name:ByteArray)(aN dH:Val):Ps St:=must aG >>= λ _=>Vw k name aN dH
def Jm (k:Int)(name:ByteArray)(aN:Val):Ps St:=tJ >>= λ dH=>Vx k name aN dH
def Vy (name:ByteArray)(aN:Val):Ps St:=must bg >>= λ _=>Jm 9 name aN
def DW (k:Int)(name:ByteArray):Ps St:=pw k >>= λ aN=>Jm k name aN
def J0 (k:Int)(name:ByteArray):Ps St:=must bg >>= λ _=>DW k name
def J1 (k:Int):Ps St:=ct >>= λ name=>J0 k name
def J2 (k:Int):Ps St:=must bp >>= λ _=>J1 k
def Vz:Ps St:=jU [bO,bJ,dn,eo] >>= λ s=>J2 (NC s)
def fe:Ps St:=must kQ >>= λ _=>Vz
theorem aay (name:ByteArray):DW 9 name=(tJ >>= λ aN=>Vy name aN):=by unfold DW pw;rw[if_pos rfl];simp only[ir];rfl
variable{k:Int}
theorem YR(name:ByteArray)(h:¬k=9):DW k name=Jm k name bU:=by unfold DW pw;rw[if_neg h];rfl
theorem VA:fe=(must kQ >>= λ _=>Mr):=rfl
theorem zcI.KaA(h:p:=by generalize w17.setRow (w.heap.size) cs=WF at*;exact Zdq):p:=h
theorem ze5.Kbo(h:p:=by refine wpList_store_row rfl 34 (.tmp 2) (.tmp 38) rfl (w.heap.size) cs rfl rfl 34 cF kI.out dy.out lD.out jq.out ?_;open zcI in exact ZaS):p:=h
theorem zbc.Kai(h:p:=by have tU:=hid (show av w17 b 34 cs by rw[hcs];exact HA.out.blk);have kI:=hid HA.out.sa.res;have rT:=hid (show cy ρ w lg dp fe l (.returned (.agg cs)) (w17.setRow (w.heap.size) cs) by rw[hcs];exact HA.out.post aZ HX.out);open ze5 in exact ZcD):p:=h
theorem zcJ.KaA(h:p:=by generalize PE.setRow (w.heap.size) cs=WF at*;exact Zdq):p:=h
theorem ze6.Kbo(h:p:=by refine wpList_store_row rfl 34 (.tmp 2) (.tmp 38) rfl (w.heap.size) cs rfl rfl 34 cF kI.out dy.out lD.out jq.out ?_;open zcJ in exact ZaS):p:=h
theorem zbd.Kai(h:p:=by have tU:=hid (show av PE b 34 cs by rw[hcs];exact HA.out.blk);have kI:=hid HA.out.sa.res;have rT:=hid (show cy ρ w lg dp fe l (.returned (.agg cs)) (PE.setRow (w.heap.size) cs) by rw[hcs];exact HA.out.post aZ HX.out);open ze6 in exact ZcD):p:=h
theorem zhO.KcB(h:p:=by
 intro e w17 hp;rcases hp.cases with ⟨_,l18,v9,ay,rfl,rfl,d⟩|⟨m,au,rfl,hg⟩;case inr=>have HF:=hid (show fe l=.error m from HE.out.trans (ak (show must aG G9=.error m by rw[<- ax];exact au)));have HG:=hid HB.out.sa.did.grown;clear hp au;go_wp2_with fail;exact aj rfl (GP.err HF.out ⟨rfl,ai HG.out hg⟩)
 have bH:=hid (show fe l=Vw 9 nm aN QG l18 from HE.out.trans (ag (show must aG G9=.ok ((),l18) by rw[<- ax];exact ay)));have HA:=hid (HB.out.go aZ d);clear hp ay d HB HE jR;have HE:=bH;clear bH;go_upto_region 11 with fail;have HX:=hid (show fe l=.ok ({ kind:=9,name:=nm,aN:=aN,dH:=QG },l18)from HE.out);obtain⟨cs,hcs⟩:∃cs,cs=(bI { kind:=9,name:=nm,aN:=aN,dH:=QG }).toArray:=⟨_,rfl⟩;open zbc in exact Zam):p:=h
theorem zhP.KcB(h:p:=by
 intro e PE hp;rcases hp.cases with ⟨_,l13,v9,ay,rfl,rfl,d⟩|⟨m,au,rfl,hg⟩;case inr=>have HF:=hid (show fe l=.error m from HE.out.trans (ak (show must aG l10=.error m by rw[<- ax];exact au)));have HG:=hid HB.out.sa.did.grown;clear hp au;go_wp2_with fail;exact aj rfl (GP.err HF.out ⟨rfl,ai HG.out hg⟩)
 have bH:=hid (show fe l=Vw kx nm bU QG l13 from HE.out.trans (ag (show must aG l10=.ok ((),l13) by rw[<- ax];exact ay)));have HA:=hid (HB.out.go aZ d);clear hp ay d HB HE jR;have HE:=bH;clear bH;go_upto_region 11 with fail;have HX:=hid (show fe l=.ok ({ kind:=kx,name:=nm,dH:=QG },l13)from HE.out);obtain⟨cs,hcs⟩:∃cs,cs=(bI { kind:=kx,name:=nm,dH:=QG }).toArray:=⟨_,rfl⟩;open zbd in exact Zam):p:=h
theorem zge.KbS(h:p:=by
 refine hm.mono ?_;clear hm;intro e w8 hp;rcases hp.cases with ⟨sx,l8,v9,ay,rfl,rfl,d⟩|⟨m,au,rfl,hg⟩;case inr=>have HF:=hid (show fe l=.error m from HE.out.trans (ak au));have HG:=hid HB.out.did.grown;clear hp au;go_wp2_with fail;exact aj rfl (GP.err HF.out ⟨rfl,ai HG.out hg⟩)
 have rj:=tH ay;have bH:=hid (show fe l=J2 (NC sx) l8 from HE.out.trans (ag ay));have HS:=hid (HB.out.go aZ d);have CD:=hid (show kJ w8 w1.heap.size Jl from(d.grown.block _ Tad (by intro e;injection e with e;omega)).trans Vh.out);have Xw:=hid (QE rj);clear hp ay d HB HE Vh rj;have HE:=bH;clear bH;try unfold strOf
 go_upto_region 3 with (first
  |(refine fc Tryz.underlying158 Tryz.underlying9 rfl _ _ rfl w1.heap.size rfl (⟨sx.toArray⟩:ByteArray) rfl (l:=Jl) CD.out (z:=.int .u8 0) Tryz.zeroValue5 ?_
    rw[Xw.out]))
 clear Xw CD;generalize NC sx=kx at*;have hb:=aa w8 (.cells (aK [bp]) 9);have HB:=hid (HS.out.later hb);have jR:=HS.out.res.lt;have hm:=aR ρ _ l8 _ _ HB.out.did.at_ [bp] w8.heap.size 1 rfl (av.new w8 _ _) Taa Taa;clear hb HS;unfold aK strOf at hm HB;simp only[map_cons,map_nil] at hm HB;rw[show bp.toArray= #[40] from rfl] at hm HB;go_wp2_with fail;refine hm.mono ?_;clear hm;intro e w3 hp;rcases hp.cases with ⟨_,l4,v9,ay,rfl,rfl,d⟩|⟨m,au,rfl,hg⟩;case inr=>have HF:=hid (show fe l=.error m from HE.out.trans (ak (show must bp l8=.error m by rw[<- ax];exact au)));have HG:=hid HB.out.did.grown;clear hp au;go_wp2_with fail;exact aj rfl (GP.err HF.out ⟨rfl,ai HG.out hg⟩)
 have bH:=hid (show fe l=J1 kx l4 from HE.out.trans (ag (show must bp l8=.ok ((),l4) by rw[<- ax];exact ay)));have HS:=hid (HB.out.go aZ d);clear hp ay d HB HE jR;have HE:=bH;clear bH;go_wp2_with fail;refine(dN ρ w3 l4 _ _ HS.out.did.at_).mono ?_;intro e w5 hp;rcases hp.cases with ⟨nm,l6,v9,ay,rfl,rfl,d⟩|⟨m,au,rfl,hg⟩;case inr=>have HF:=hid (show fe l=.error m from HE.out.trans (ak au));have HG:=hid HS.out.did.grown;clear hp au;go_wp2_with fail;exact aj rfl (GP.err HF.out ⟨rfl,ai HG.out hg⟩)
 have bH:=hid (show fe l=J0 kx nm l6 from HE.out.trans (ag ay));clear hp ay HE;have HE:=bH;clear bH;have uG:=d.size;have pQ:=hid (HS.out.go aZ d);have hbq:=pQ.out.res.lt;obtain⟨cs,hcs⟩:∃cs,cs=(bI { kind:=kx,name:=nm }).toArray:=⟨_,rfl⟩;have dy:=hid (show(Tryz.prog.info? 34).map (·.size)=some cs.size by rw[hcs];exact bT);have lD:=hid (show cF.size=cs.size by rw[hcs,br];exact br _);have jq:=hid (show cs.all (·.oneCell')=true by rw[hcs];exact cL _);have zy:=hid (show Tryz.prog.built 34 [(0,.int .u8 kx),(1,.string nm)]=some cs by rw[hcs];exact lB _ _);have HA:=hid (show tT ρ w (w.heap.size) [] lg dp w5.heap.size (w5.alloc (.cells cs 34)) l6 { kind:=kx,name:=nm } { kind:=kx,name:=nm } by
  rw[hcs]
  exact pQ.out.start (lg2:=lg) (dp2:=dp) { kind:=kx,name:=nm } { kind:=kx,name:=nm } (λ p hp=>by simp at hp) Tal Tar Tal (λ W S=> { St.iR W S with kind:=rfl,name:=rfl }))
 clear d HS pQ hcs;go_upto_region 5 with (first
  |(refine gO rfl 34 _ rfl (cs:=cs) ?hv ?_;rotate_left)
  |(refine wpList_store_row rfl 34 (.tmp 4) (.tmp 20) rfl w5.heap.size cs rfl rfl 34 cF (av.new w5 34 cF) dy.out lD.out jq.out ?_
    rw[jl]))
 case hv=>exact zy.out
 generalize hb:w5.heap.size=b at*;generalize hW:(World.alloc _ _)=WB at*;clear hW hb uG zy jq lD dy;have hb:=aa WB (.cells (aK [bg]) 9);have HB:=hid (HA.out.later hb);have jR:=HA.out.blk.lt;have hm:=aR ρ _ l6 _ _ HB.out.sa.did.at_ [bg] WB.heap.size 1 rfl (av.new WB _ _) Taa Taa;clear hb HA;unfold aK strOf at hm HB;simp only[map_cons,map_nil] at hm HB;rw[show bg.toArray= #[44] from rfl] at hm HB;go_wp2_with fail;refine hm.mono ?_;clear hm;intro e w7 hp;rcases hp.cases with ⟨_,l8,v9,ay,rfl,rfl,d⟩|⟨m,au,rfl,hg⟩;case inr=>have HF:=hid (show fe l=.error m from HE.out.trans (ak (show must bg l6=.error m by rw[<- ax];exact au)));have HG:=hid HB.out.sa.did.grown;clear hp au;go_wp2_with fail;exact aj rfl (GP.err HF.out ⟨rfl,ai HG.out hg⟩)
 have bH:=hid (show fe l=DW kx nm l8 from HE.out.trans (ag (show must bg l6=.ok ((),l8) by rw[<- ax];exact ay)));have HA:=hid (HB.out.go aZ d);clear hp ay d HB HE jR;have HE:=bH;clear bH;by_cases h9:kx=9
 ·subst h9;have bH:=hid (show fe l=(tJ >>= λ aN=>Vy nm aN) l8 from HE.out.trans (congrFun (aay nm) _));clear HE;have HE:=bH;clear bH;go_wp2_with fail;refine(BB ρ w7 l8 _ _ HA.out.sa.did.at_).mono ?_;intro e w9 hp;rcases GP.cases hp with ⟨aN,l10,v9,ay,rfl,rfl,d⟩|⟨m,au,rfl,hg⟩;case inr=>have HF:=hid (show fe l=.error m from HE.out.trans (ak au));have HG:=hid HA.out.sa.did.grown;clear hp au;go_wp2_with fail;exact aj rfl (GP.err HF.out ⟨rfl,ai HG.out hg⟩)
  have bH:=hid (show fe l=Vy nm aN l10 from HE.out.trans (ag ay));clear hp ay HE;have HE:=bH;clear bH;obtain⟨vk,vn,vs⟩:=aN;have hX:=d.blk HA.out.blk Taf;have x0:w9.cell? ⟨b,22,none⟩=_:=hX.cell 22;have f0:w9.frozen? ⟨b,22,none⟩=_:=hX.frozen 22;have x1:w9.cell? ⟨b,23,none⟩=_:=hX.cell 23;have f1:w9.frozen? ⟨b,23,none⟩=_:=hX.frozen 23;have x2:w9.cell? ⟨b,24,none⟩=_:=hX.cell 24;have f2:w9.frozen? ⟨b,24,none⟩=_:=hX.frozen 24;have Nt:=HA.out.set (m':= { kind:=9,name:=nm,aN:=⟨vk,0,ByteArray.empty⟩}) (d':= { kind:=9,name:=nm,aN:=⟨vk,0,ByteArray.empty⟩}) aZ d 22 (.int .u8 vk) rfl rfl rfl (λ hat=> { hat with aN:=rfl });have zi:=Nt.set (m':= { kind:=9,name:=nm,aN:=⟨vk,vn,ByteArray.empty⟩}) (d':= { kind:=9,name:=nm,aN:=⟨vk,vn,ByteArray.empty⟩}) aZ (aU.refl Nt.sa.did.at_) 23 (.int .i64 vn) rfl rfl rfl (λ hat=> { hat with aN:=rfl });have eZ:=hid (zi.set (m':= { kind:=9,name:=nm,aN:=⟨vk,vn,vs⟩}) (d':= { kind:=9,name:=nm,aN:=⟨vk,vn,vs⟩}) aZ (aU.refl zi.sa.did.at_) 24 (.string vs) rfl rfl rfl (λ hat=> { hat with aN:=rfl }));clear hX d HA Nt zi;have HA:=eZ;clear eZ;unfold bI jE eU fg at x0 x1 x2;unfold fg;go_upto_region 8 with fail;clear x0 x1 x2 f0 f1 f2;generalize (World.setCell (World.setCell (World.setCell _ _ _) _ _) _ _)=Mf at*;obtain⟨aN,J3⟩:∃v:Val,v=⟨vk,vn,vs⟩:=⟨_,rfl⟩;rw[<- J3] at HA HE;clear J3;have hb:=aa Mf (.cells (aK [bg]) 9);have HB:=hid (HA.out.later hb);have jR:=HA.out.blk.lt;have hm:=aR ρ _ l10 _ _ HB.out.sa.did.at_ [bg] Mf.heap.size 1 rfl (av.new Mf _ _) Taa Taa
  clear hb HA;unfold aK strOf at hm HB;simp only[map_cons,map_nil] at hm HB;rw[show bg.toArray= #[44] from rfl] at hm HB;go_wp2_with fail;refine hm.mono ?_;clear hm;intro e PE hp;rcases hp.cases with ⟨_,l13,v9,ay,rfl,rfl,d⟩|⟨m,au,rfl,hg⟩;case inr=>have HF:=hid (show fe l=.error m from HE.out.trans (ak (show must bg l10=.error m by rw[<- ax];exact au)));have HG:=hid HB.out.sa.did.grown;clear hp au;go_wp2_with fail;exact aj rfl (GP.err HF.out ⟨rfl,ai HG.out hg⟩)
  have bH:=hid (show fe l=Jm 9 nm aN l13 from HE.out.trans (ag (show must bg l10=.ok ((),l13) by rw[<- ax];exact ay)));have HA:=hid (HB.out.go aZ d);clear hp ay d HB HE jR;have HE:=bH;clear bH;go_wp2_with fail;refine(BB ρ PE l13 _ _ HA.out.sa.did.at_).mono ?_;intro e Fs hp;rcases GP.cases hp with ⟨QG,G9,v9,ay,rfl,rfl,d⟩|⟨m,au,rfl,hg⟩;case inr=>have HF:=hid (show fe l=.error m from HE.out.trans (ak au));have HG:=hid HA.out.sa.did.grown;clear hp au;go_wp2_with fail;exact aj rfl (GP.err HF.out ⟨rfl,ai HG.out hg⟩)
  have bH:=hid (show fe l=Vx 9 nm aN QG G9 from HE.out.trans (ag ay));clear hp ay HE;have HE:=bH;clear bH;obtain⟨vk,vn,vs⟩:=QG;have hX:=d.blk HA.out.blk Taf;have x0:Fs.cell? ⟨b,25,none⟩=_:=hX.cell 25;have f0:Fs.frozen? ⟨b,25,none⟩=_:=hX.frozen 25;have x1:Fs.cell? ⟨b,26,none⟩=_:=hX.cell 26;have f1:Fs.frozen? ⟨b,26,none⟩=_:=hX.frozen 26;have x2:Fs.cell? ⟨b,27,none⟩=_:=hX.cell 27;have f2:Fs.frozen? ⟨b,27,none⟩=_:=hX.frozen 27;have Nt:=HA.out.set (m':= { kind:=9,name:=nm,aN:=aN,dH:=⟨vk,0,ByteArray.empty⟩}) (d':= { kind:=9,name:=nm,aN:=aN,dH:=⟨vk,0,ByteArray.empty⟩}) aZ d 25 (.int .u8 vk) rfl rfl rfl (λ hat=> { hat with dH:=rfl });have zi:=Nt.set (m':= { kind:=9,name:=nm,aN:=aN,dH:=⟨vk,vn,ByteArray.empty⟩}) (d':= { kind:=9,name:=nm,aN:=aN,dH:=⟨vk,vn,ByteArray.empty⟩}) aZ (aU.refl Nt.sa.did.at_) 26 (.int .i64 vn) rfl rfl rfl (λ hat=> { hat with dH:=rfl });have eZ:=hid (zi.set (m':= { kind:=9,name:=nm,aN:=aN,dH:=⟨vk,vn,vs⟩}) (d':= { kind:=9,name:=nm,aN:=aN,dH:=⟨vk,vn,vs⟩}) aZ (aU.refl zi.sa.did.at_) 27 (.string vs) rfl rfl rfl (λ hat=> { hat with dH:=rfl }));clear hX d HA Nt zi;have HA:=eZ;clear eZ;unfold bI jE eU fg at x0 x1 x2;unfold fg;go_upto_region 10 with fail;clear x0 x1 x2 f0 f1 f2;generalize (World.setCell (World.setCell (World.setCell _ _ _) _ _) _ _)=aaA at*;obtain⟨QG,J3⟩:∃v:Val,v=⟨vk,vn,vs⟩:=⟨_,rfl⟩;rw[<- J3] at HA HE;clear J3;have hb:=aa aaA (.cells (aK [aG]) 9);have HB:=hid (HA.out.later hb);have jR:=HA.out.blk.lt;have hm:=aR ρ _ G9 _ _ HB.out.sa.did.at_ [aG] aaA.heap.size 1 rfl (av.new aaA _ _) Taa Taa
  open zhO in exact Zgs
 ·have bH:=hid (show fe l=Jm kx nm bU l8 from HE.out.trans (congrFun (YR nm h9) _));clear HE;have HE:=bH;clear bH;go_wp2_with fail;refine(BB ρ w7 l8 _ _ HA.out.sa.did.at_).mono ?_;intro e w9 hp;rcases GP.cases hp with ⟨QG,l10,v9,ay,rfl,rfl,d⟩|⟨m,au,rfl,hg⟩;case inr=>have HF:=hid (show fe l=.error m from HE.out.trans (ak au));have HG:=hid HA.out.sa.did.grown;clear hp au;go_wp2_with fail;exact aj rfl (GP.err HF.out ⟨rfl,ai HG.out hg⟩)
  have bH:=hid (show fe l=Vx kx nm bU QG l10 from HE.out.trans (ag ay));clear hp ay HE;have HE:=bH;clear bH;obtain⟨vk,vn,vs⟩:=QG;have hX:=d.blk HA.out.blk Taf;have x0:w9.cell? ⟨b,25,none⟩=_:=hX.cell 25;have f0:w9.frozen? ⟨b,25,none⟩=_:=hX.frozen 25;have x1:w9.cell? ⟨b,26,none⟩=_:=hX.cell 26;have f1:w9.frozen? ⟨b,26,none⟩=_:=hX.frozen 26;have x2:w9.cell? ⟨b,27,none⟩=_:=hX.cell 27;have f2:w9.frozen? ⟨b,27,none⟩=_:=hX.frozen 27;have Nt:=HA.out.set (m':= { kind:=kx,name:=nm,dH:=⟨vk,0,ByteArray.empty⟩}) (d':= { kind:=kx,name:=nm,dH:=⟨vk,0,ByteArray.empty⟩}) aZ d 25 (.int .u8 vk) rfl rfl rfl (λ hat=> { hat with dH:=rfl });have zi:=Nt.set (m':= { kind:=kx,name:=nm,dH:=⟨vk,vn,ByteArray.empty⟩}) (d':= { kind:=kx,name:=nm,dH:=⟨vk,vn,ByteArray.empty⟩}) aZ (aU.refl Nt.sa.did.at_) 26 (.int .i64 vn) rfl rfl rfl (λ hat=> { hat with dH:=rfl });have eZ:=hid (zi.set (m':= { kind:=kx,name:=nm,dH:=⟨vk,vn,vs⟩}) (d':= { kind:=kx,name:=nm,dH:=⟨vk,vn,vs⟩}) aZ (aU.refl zi.sa.did.at_) 27 (.string vs) rfl rfl rfl (λ hat=> { hat with dH:=rfl }));clear hX d HA Nt zi;have HA:=eZ;clear eZ;unfold bI jE eU fg at x0 x1 x2;unfold fg;go_upto_region 10 with fail;clear x0 x1 x2 f0 f1 f2;generalize (World.setCell (World.setCell (World.setCell _ _ _) _ _) _ _)=Mf at*;obtain⟨QG,J3⟩:∃v:Val,v=⟨vk,vn,vs⟩:=⟨_,rfl⟩;rw[<- J3] at HA HE;clear J3;have hb:=aa Mf (.cells (aK [aG]) 9);have HB:=hid (HA.out.later hb);have jR:=HA.out.blk.lt;have hm:=aR ρ _ l10 _ _ HB.out.sa.did.at_ [aG] Mf.heap.size 1 rfl (av.new Mf _ _) Taa Taa
  open zhP in exact Zgs):p:=h
theorem zgL.Kb6(h:p:=by have hb:=aa wm (.cells (aK [bO,bJ,dn,eo]) 9);have HB:=hid (pQ.out.later hb);have Vh:=hid (show kJ (wm.alloc (.cells (aK [bO,bJ,dn,eo]) 9)) w1.heap.size Jl from(hb.block _ ox).trans Ns.out);have jR:=pQ.out.res.lt;have hm:=pR ρ _ l2 _ _ HB.out.did.at_ [bO,bJ,dn,eo] wm.heap.size 4 rfl (av.new wm _ _) Taa Taa;clear hb Ns pQ;unfold aK strOf at hm HB Vh;simp only[map_cons,map_nil] at hm HB Vh;rw[show bO.toArray= #[114,101,102,114,101,115,104] from rfl,show bJ.toArray= #[99,111,109,112,114,101,115,115] from rfl,show dn.toArray= #[100,101,99,111,109,112,114,101,115,115] from rfl,show eo.toArray= #[100,114,111,112,95,99,104,117,110,107,115] from rfl] at hm HB Vh;open zge in exact Zd8):p:=h
theorem zfQ.KbJ(h:p:=by refine bh Tryz.underlying158 Tryz.underlying9 rfl _ _ _ rfl w1.heap.size rfl [114,101,102,114,101,115,104] rfl (.int .u8 9) rfl HM Tac ?_;clear HM;intro wm HM iu;replace HG:=ai HG iu;clear iu;refine bh Tryz.underlying158 Tryz.underlying9 rfl _ _ _ rfl w1.heap.size rfl [99,111,109,112,114,101,115,115] rfl (.int .u8 10) rfl HM Tac ?_;clear HM;intro wm HM iu;replace HG:=ai HG iu;clear iu;refine bh Tryz.underlying158 Tryz.underlying9 rfl _ _ _ rfl w1.heap.size rfl [100,101,99,111,109,112,114,101,115,115] rfl (.int .u8 11) rfl HM Tac ?_;clear HM;intro wm HM iu;replace HG:=ai HG iu;clear iu;refine bh Tryz.underlying158 Tryz.underlying9 rfl _ _ _ rfl w1.heap.size rfl [100,114,111,112,95,99,104,117,110,107,115] rfl (.int .u8 12) rfl HM Tac ?_;clear HM;intro wm HM iu;replace HG:=ai HG iu;clear iu;have Ns:=hid (show kJ wm w1.heap.size Jl from HM);open zgL in exact Zez):p:=h
theorem zej.Ka7(h:p:=by
 have hb:=aa W0 (.cells (aK [kQ]) 9);have HB:=hid (HS.out.later hb);have jR:=HS.out.res.lt;have hm:=aR ρ _ l _ _ HB.out.did.at_ [kQ] W0.heap.size 1 rfl (av.new W0 _ _) Taa Taa;clear hb HS;unfold aK strOf at hm HB;simp only[map_cons,map_nil] at hm HB;rw[show kQ.toArray= #[99,97,108,108] from rfl] at hm HB;go_wp2_with fail;refine hm.mono ?_;clear hm;intro e w1 hp;rcases hp.cases with ⟨_,l2,v9,ay,rfl,rfl,d⟩|⟨m,au,rfl,hg⟩;case inr=>have HF:=hid (show fe l=.error m from HE.out.trans (ak (show must kQ l=.error m by rw[<- ax];exact au)));have HG:=hid HB.out.did.grown;clear hp au;go_wp2_with fail;exact aj rfl (GP.err HF.out ⟨rfl,ai HG.out hg⟩)
 have bH:=hid (show fe l=Vz l2 from HE.out.trans (ag (show must kQ l=.ok ((),l2) by rw[<- ax];exact ay)));open zfQ in exact ZdR):p:=h
theorem zeD.Kbd(h:p:=by have HE:=hid (show fe l=(must kQ >>= λ _=>Vz) l from rfl);clear h b1;go_enter Tryz.func73,Tryz.ntmps73;open zej in exact Zb0):p:=h
theorem QF (ρ:bj)(w:World)(l:aF)(lg dp:Bool)(h:ρ.fy w l lg dp):
  Calls Tryz.prog 73 #[ρ.ptr] w (cy ρ w lg dp fe l):=by
 open zeD in exact Zcc
def J9 (name:ByteArray)(bF:List (ByteArray×Tr))(aP:List Tr):Ps St:=return { kind:=6,name,bF,aP }
def K1 (name:ByteArray)(bF:List (ByteArray×Tr)):Ps St:=do
 let aP <- gj cV
 J9 name bF aP
def K3 (name:ByteArray):Ps St:=do
 let bF <- dC vp
 K1 name bF
def K4 (name:ByteArray):Ps St:=do
 must rL
 K3 name
def VE:Ps St:=do
 let name <- ct
 K4 name
def mF:Ps St:=must gF >>= λ _=>VE
theorem zcK.KaA(h:p:=by generalize W11.setRow (w.heap.size+1) cs=WF at*;go_wp2_with fail;exact bodyPost_ret (v:=.agg cs) (results_cell_row Tryz.results70 _ _ (w.heap.size+1) 34 cs (0,0) _ rfl qU.out Tryz.underlying34 rfl dy.out) rfl rT.out):p:=h
theorem zdF.KaU(h:p:=by refine wpList_store_row rfl 34 (.tmp 2) (.tmp 19) rfl (w.heap.size+1) cs rfl rfl 34 cF kI.out dy.out lD.out jq.out ?_;open zcK in exact ZaS):p:=h
theorem zbe.Kai(h:p:=by have tU:=hid (show av W11 b 34 cs by rw[hcs];exact HA.out.blk);have kI:=hid HA.out.sa.res;have rT:=hid (show cy ρ w lg dp mF l (.returned (.agg cs)) (W11.setRow (w.heap.size+1) cs) by rw[hcs];exact HA.out.post aZ HX.out);open zdF in exact Zbu):p:=h
theorem zdx.KaS(h:p:=by
 have hb:=aa WB (.cells (aK [rL]) 9);have HB:=hid (HA.out.later hb);have jR:=HA.out.blk.lt;have p0:=HA.out.sa.ptr;have hm:=aR ρ _ l4 _ _ HB.out.sa.did.at_ [rL] WB.heap.size 1 rfl (av.new WB _ _) Taa Taa;clear hb HA;unfold aK strOf at hm HB;simp only[map_cons,map_nil] at hm HB;rw[show rL.toArray= #[115,101,116] from rfl] at hm HB;go_wp2_with fail;refine hm.mono ?_;clear hm p0;intro e w5 hp;rcases hp.cases with ⟨_,l6,v9,ay,rfl,rfl,d⟩|⟨m,au,rfl,hg⟩;case inr=>have HF:=hid (show mF l=.error m from HE.out.trans (ak (show must rL l4=.error m by rw[<- ax];exact au)));have HG:=hid HB.out.sa.did.grown;clear hp au;go_wp2_with fail;exact aj rfl (GP.err HF.out ⟨rfl,ai HG.out hg⟩)
 have bH:=hid (show mF l=K3 nm l6 from HE.out.trans (ag (show must rL l4=.ok ((),l6) by rw[<- ax];exact ay)));have HA:=hid (HB.out.go aZ d);clear hp ay d HB HE jR;have HE:=bH;clear bH;have p0:=HA.out.sa.ptr;have F:=HA.out.fit aZ 20 Tac
 have L:Lst ρ w (λ x=>decide (32 < x.2.depth)) vp 121 #[.pointer (some ⟨w.heap.size,0,none⟩),.pointer (some ⟨b,0,none⟩)] ((YM ρ w (w.heap.size+1) w.heap.size b { kind:=6,name:=nm } { kind:=6,name:=nm } 20).acc xM 55):=
  ⟨Dg,enters_of Tryz.func121 Tab rfl,λ acc a b hs hg _=>by obtain⟨v,h⟩:=hs;exact⟨v,h.grown F hg⟩,λ acc W l lg dp hn hs hd=>Qq _ F rfl rfl acc W l lg dp hn hs hd⟩
 have hm:=nj ρ w (λ x=>decide (32 < x.2.depth)) vp 121 #[.pointer (some ⟨w.heap.size,0,none⟩),.pointer (some ⟨b,0,none⟩)] _ L w5 l6 _ _ HA.out.sa.did (HA.out.start xM 55 20 rfl) aZ;clear L F;go_wp2_with fail;refine hm.mono ?_;clear hm p0;intro e w7 hp;unfold ij at hp
 cases hx:dC vp l6 with
 | error m=>rw[hx] at hp;obtain⟨rfl,hg⟩:=hp;have HF:=hid (show mF l=.error m from HE.out.trans (ak hx));exact Zcb
 | ok z=>
   obtain⟨bF,l8⟩:=z;rw[hx] at hp;obtain⟨rfl,hs,hd⟩:=hp;obtain⟨so,hA⟩:=HA.out.list (m':=λ so=> { kind:=6,name:=nm,bF:=so }) (d':= { kind:=6,name:=nm,bF:=bF }) hs hd (λ _=>rfl) Tau Tai (λ so ja hat=> { hat with bF:=ja });have bH:=hid (show mF l=K1 nm bF l8 from HE.out.trans (ag hx));have eZ:=hid hA;clear hx hA hs hd HA HE;have HA:=eZ;have HE:=bH;clear eZ bH;go_upto_region 5 with fail;have p0:=HA.out.sa.ptr;go_wp2_with fail;refine(yo ρ w7 l8 _ _ HA.out.sa.did.at_ cV ⟨#[119,104,101,114,101]⟩ rfl).mono ?_;clear p0;intro e w9 hp;rcases GP.cases hp with ⟨aP,l10,v9,ay,rfl,⟨A,n,c⟩,rfl,ja,d⟩|⟨m,au,rfl,hg⟩;case inr=>have HF:=hid (show mF l=.error m from HE.out.trans (ak au));have HG:=hid HA.out.sa.did.grown;clear hp au;go_wp2_with fail;exact aj rfl (GP.err HF.out ⟨rfl,ai HG.out hg⟩)
   have bH:=hid (show mF l=J9 nm bF aP l10 from HE.out.trans (ag ay));clear hp ay HE;have HE:=bH;clear bH;have jR:=HA.out.blk.lt;have hX:=d.blk HA.out.blk Taf;have hc:w9.cell? ⟨b,21,none⟩=_:=hX.cell 21;have hf:w9.frozen? ⟨b,21,none⟩=_:=hX.frozen 21;have eZ:=hid (HA.out.set (m':= { kind:=6,name:=nm,bF:=so,aP:=⟨A,n,c⟩}) (d':= { kind:=6,name:=nm,bF:=bF,aP:=aP }) aZ d 21 (.slice A n c) rfl Tau Tai (λ hat=> { hat with aP:=El.lies.more ja Taa}));clear hX d HA;have HA:=eZ;clear eZ;unfold bI jE eU fg at hc;try unfold eU
   go_upto_region 6 with fail;clear hc hf;generalize w9.setCell _ _=W11 at*;obtain⟨aaB,D8⟩:∃s:Sl,s=⟨A,n,c⟩:=⟨_,rfl⟩;rw[<- D8] at HA;clear D8 jR ja;have HX:=hid (show mF l=.ok ({ kind:=6,name:=nm,bF:=bF,aP:=aP },l10)from HE.out);obtain⟨cs,hcs⟩:∃cs,cs=(bI { kind:=6,name:=nm,bF:=so,aP:=aaB }).toArray:=⟨_,rfl⟩;open zbe in exact Zam):p:=h
theorem zhy.Kct(h:p:=by
 rcases hp.cases with ⟨nm,l4,v9,ay,rfl,rfl,d⟩|⟨m,au,rfl,hg⟩;case inr=>have HF:=hid (show mF l=.error m from HE.out.trans (ak au));have HG:=hid HS.out.did.grown;clear hp au;go_wp2_with fail;exact aj rfl (GP.err HF.out ⟨rfl,ai HG.out hg⟩)
 have bH:=hid (show mF l=K4 nm l4 from HE.out.trans (ag ay));clear hp ay HE;have HE:=bH;clear bH;have uG:=d.size;have pQ:=hid (HS.out.go aZ d);have hbq:=pQ.out.res.lt;obtain⟨cs,hcs⟩:∃cs,cs=(bI { kind:=6,name:=nm }).toArray:=⟨_,rfl⟩;have dy:=hid (show(Tryz.prog.info? 34).map (·.size)=some cs.size by rw[hcs];exact bT);have lD:=hid (show cF.size=cs.size by rw[hcs,br];exact br _);have jq:=hid (show cs.all (·.oneCell')=true by rw[hcs];exact cL _);have zy:=hid (show Tryz.prog.built 34 [(0,.int .u8 6),(1,.string nm)]=some cs by rw[hcs];exact lB _ _);have HA:=hid (show tT ρ w (w.heap.size+1) [w.heap.size] lg dp w3.heap.size (w3.alloc (.cells cs 34)) l4 { kind:=6,name:=nm } { kind:=6,name:=nm } by
  rw[hcs]
  exact pQ.out.start (lg2:=lg) (dp2:=dp) { kind:=6,name:=nm } { kind:=6,name:=nm } (λ p hp=>by simp at hp;subst hp;omega) Tal Tar Tal (λ W S=> { St.iR W S with kind:=rfl,name:=rfl }))
 open zdx in exact Zbm):p:=h
theorem zfW.KbM(h:p:=by
 have hb:=aa W0 (.cells (aK [gF]) 9);have HB:=hid (HS.out.later hb);have jR:=HS.out.res.lt;have p0:=HS.out.ptr;have hm:=aR ρ _ l _ _ HB.out.did.at_ [gF] W0.heap.size 1 rfl (av.new W0 _ _) Taa Taa;clear hb HS;unfold aK strOf at hm HB;simp only[map_cons,map_nil] at hm HB;rw[show gF.toArray= #[117,112,100,97,116,101] from rfl] at hm HB;go_wp2_with fail;refine hm.mono ?_;clear hm p0;intro e w1 hp;rcases hp.cases with ⟨_,l2,v9,ay,rfl,rfl,d⟩|⟨m,au,rfl,hg⟩;case inr=>have HF:=hid (show mF l=.error m from HE.out.trans (ak (show must gF l=.error m by rw[<- ax];exact au)));have HG:=hid HB.out.did.grown;clear hp au;go_wp2_with fail;exact aj rfl (GP.err HF.out ⟨rfl,ai HG.out hg⟩)
 have bH:=hid (show mF l=VE l2 from HE.out.trans (ag (show must gF l=.ok ((),l2) by rw[<- ax];exact ay)));open zhy in exact Zgb):p:=h
theorem zcA.Kaz(h:p:=by have HE:=hid (show mF l=(must gF >>= λ _=>VE) l from rfl);clear h b2 hP hR;go_enter Tryz.func70,Tryz.ntmps70;open zfW in exact ZdU):p:=h
theorem Jp (ρ:bj)(w:World)(l:aF)(lg dp:Bool)(h:ρ.fy w l lg dp):
  Calls Tryz.prog 70 #[ρ.ptr] w (cy ρ w lg dp mF l):=by
 open zcA in exact ZaR
end Go.Proofs.YtehhdlgjfdnafaaGreatDoor
