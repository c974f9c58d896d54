/- Parts of the proof. -/
import Derived.Laws.CopyOwn
import Derived.Lay
import Derived.LaidMore
import Derived.Stop.LaidErr
import Derived.HandedShaped
import Derived.Deep.DeepHandedRow
import Derived.Test.YtehhdlgjfdnafaaGreatDoorXE33
import Derived.Test.YtehhdlgjfdnafaaGreatDoorXE34
import Derived.Test.YtehhdlgjfdnafaaGreatDoorXE36
import Derived.Test.YtehhdlgjfdnafaaGreatDoorXE37
namespace Go.Proofs.YtehhdlgjfdnafaaGreatDoor
variable{p:Prop}
set_option maxHeartbeats 90000000
set_option maxRecDepth 100000
open Go.Lib (hid)
open Go.ChangeShapes Go.WideShapes Go.ChangeAt Go.RowKit Go.Shelf List
set_option linter.unusedVariables false
set_option linter.unusedSimpArgs false
def kS:St:= { kind:=8,query:= { items:=[(.mk 5 ⟨0,0,⟨#[]⟩⟩ ⟨#[]⟩ 0 [.mk 2 ⟨0,0,⟨#[]⟩⟩ ⟨#[97]⟩ 0 [],.mk 7 ⟨0,0,⟨#[]⟩⟩ ⟨#[]⟩ 0 [.mk 1 ⟨2,1,⟨#[]⟩⟩ ⟨#[]⟩ 0 [],.mk 1 ⟨2,2,⟨#[]⟩⟩ ⟨#[]⟩ 0 []]],⟨#[120]⟩)],aN:=⟨#[116]⟩,aP:=[.mk 4 ⟨0,0,⟨#[]⟩⟩ ⟨#[]⟩ 0 [.mk 18 ⟨0,0,⟨#[]⟩⟩ ⟨#[]⟩ 0 [.mk 2 ⟨0,0,⟨#[]⟩⟩ ⟨#[98]⟩ 0 []]]] } }
theorem afQ:FD kcQ=kS:=by kernel_rfl
theorem YZ:EF kS=([83,69,76,69,67,84,32,97,32,43,32,40,49,32,42,32,50,41,32,65,83,32,120,32,70,82,79,77,32,116,32,87,72,69,82,69,32,78,79,84,32,40,98,32,73,83,32,78,85,76,76,41],0):=by kernel_rfl
theorem Za:kS.my 1048576:=by refine⟨?_,?_,?_,?_,?_,?_,?_,?_,?_,?_,?_,?_,?_,⟨?_,?_,?_,?_,?_,?_,?_,?_⟩,?_,?_⟩<;> simp[kS,Tr.fine,Tr.rP,Tr.thin,Tr.gT,Val.Ok,Tr.aM,Tr.nodes,St.exprs,Qu.exprs,bU] <;> decide
def kE:Ex:=⟨1,⟨2, -1,ByteArray.empty⟩,ByteArray.empty,0,none,0,0⟩
theorem Zb:Cf (.mk 1 ⟨2, -1,ByteArray.empty⟩ ByteArray.empty 0 [])=([],21):=by kernel_rfl
theorem ND:(Tr.mk 1 ⟨2, -1,ByteArray.empty⟩ ByteArray.empty 0 []).fine/\(Tr.mk 1 ⟨2, -1,ByteArray.empty⟩ ByteArray.empty 0 []).thin:=by simp[Tr.fine,Tr.rP,Tr.thin,Tr.gT,Val.Ok]
theorem Jr (w:World):Calls Tryz.prog 18 #[] w λ e w'=>∃y,e=.returned (mC y)/\kS.at_ w' (ep 0 w') y/\Below w.heap.size w w':=by
 have hB:=aa w (.cells (bI {}).toArray 34);have HB:=hid hB;have K0:=av.new w 34 (bI {}).toArray;go_enter Tryz.func18,Tryz.ntmps18;go_upto_region 1 with fail;change Code.wp _ _ _ _ (w.alloc (.cells (bI {}).toArray 34));generalize w.alloc _=W at*;obtain⟨gz,hgz⟩:∃gz,gz=w.heap.size:=⟨_,rfl⟩;rw[<- hgz] at K0 ⊢;have HZ:=hid hgz;have HK:=hid K0;clear hgz hB K0;go_wp2_with fail;refine(Yh W).mono ?_;rintro e w1 ⟨qy,rfl,hq,hb⟩;obtain⟨y,hy⟩:∃y:fX,y= { kind:=8,query:=qy }:=⟨_,rfl⟩;have hat:kS.at_ w1 (ep W.heap.size w1) y:=by rw[hy,<- afQ];exact Nh hq
 rw[<- hy];clear hq hy;obtain⟨cs,hcs⟩:∃cs,cs=(bI y).toArray:=⟨_,rfl⟩;have dy:=hid (show(Tryz.prog.info? 34).map (·.size)=some cs.size by rw[hcs];exact kC y);have lD:=hid (show cF.size=cs.size by rw[hcs,br];exact br _);have jq:=hid (show cs.all (·.oneCell')=true by rw[hcs];exact cL _);have U5:=hid hcs;unfold mC;rw[<- hcs];clear hcs;have iO:=hid (St.at_.keep (fE (aa w1 (.cells cs 34))) hat);have HLT:=hid (show gz < W.heap.size from HK.out.lt);have MZ:=hid ((HK.out.later hb).later (aa w1 (.cells cs 34)));have px:=hid (af.then (af.then HB.out hb) (aa w1 (.cells cs 34)));have HBL:=hid (av.new w1 34 cs);clear hat hb HK HB;go_upto_region 2 with (first
  |(refine wpList_store_row rfl 34 (.tmp 1) (.tmp 6) rfl w1.heap.size cs rfl rfl 34 cF (av.new w1 34 cF) dy.out lD.out jq.out ?_
    rw[jl]))
 change Code.wp _ _ _ _ (w1.alloc (.cells cs 34));generalize w1.heap.size=q1 at*;generalize (World.alloc w1 _)=W2 at*;go_wp2_with (first
  |(refine wpList_load_row rfl 34 (.tmp 1) rfl q1 rfl 34 cs (0,0) _ HBL.out Tryz.underlying34 rfl dy.out ?_)
  |(refine wpList_store_row rfl 34 (.tmp 0) (.tmp 9) rfl gz cs rfl rfl 34 cF MZ.out dy.out lD.out jq.out ?_))
 exact bodyPost_ret (v:=.agg cs) (results_cell_row Tryz.results18 _ _ gz 34 _ (0,0) _ rfl (av.row MZ.out cs) Tryz.underlying34 rfl dy.out) rfl ⟨y,by rw[U5.out];rfl,St.at_.keep (λ b hb=>⟨λ _=>rfl,Nat.zero_le _,hb.2⟩) (St.at_.keep (ie W2 HLT.out cs) iO.out),below_setRow px.out (Nat.le_of_eq HZ.out.symm) cs⟩
theorem Js (w:World)(hE:di w):Calls Tryz.prog 9 #[] w λ e w'=>e=.returned (.bool true)/\Below w.heap.size w w':=by have HE:=hid hE;clear hE;go_enter Tryz.func9,Tryz.ntmps9;go_wp2_with fail;refine(Jr w).mono ?_;rintro e w1 ⟨y,rfl,hat,b1⟩;have iO:=hid hat;have mn:=hid b1;have uy:=hid (show di w1 from⟨HE.out.lex.later b1,HE.out.val.later b1⟩);clear hat b1;go_wp2_with fail;refine(Bd uy.out (λ b hb=>hb.2) iO.out Za Tac).mono ?_;rintro e w2 ⟨rfl,b2⟩;have px:=hid (af.then mn.out b2);have wu:=hid (show di w2 from⟨uy.out.lex.later b2,uy.out.val.later b2⟩);clear b2;rw[YZ];unfold Il strOf;dsimp only;go_wp2_with fail;refine(uH wu.out (S:=λ _=>False) (λ b hb=>hb.elim) (t:=.mk 1 ⟨2, -1,ByteArray.empty⟩ ByteArray.empty 0 []) (y:=kE) ⟨rfl,rfl,rfl,rfl,rfl,[],.inl rfl,rfl⟩ ND.1 ND.2 Tac).mono ?_;rintro e w3 ⟨rfl,b3⟩;have yX:=hid (af.then px.out b3);clear b3;rw[Zb];unfold Il strOf;dsimp only;go_wp2_with fail;go_ret;exact⟨rfl,yX.out⟩
def Cm (t:Tr):St:= { kind:=8,query:= { items:=[(t,⟨#[]⟩)],aN:=⟨#[116]⟩} }
variable{o:Option aT}{a:aT}
theorem zh(h:mD o=(a,0)):o=some a/\a.length<=4096:=by
 cases o with
 | none=>cases h
 | some t=>
   unfold mD at h;dsimp only at h;split at h
   ·cases h
   ·injection h with h1 h2;subst h1;exact⟨rfl,by omega⟩
theorem SN(h:(mD o).2≠0):(mD o).1=[]/\((mD o).2=21\/(mD o).2=2):=by
 cases o with
 | none=>exact⟨rfl,.inl rfl⟩
 | some t=>
   unfold mD at h ⊢;dsimp only at h ⊢;split
   ·exact⟨rfl,.inr rfl⟩
   ·rename_i hl;rw[if_neg hl] at h;exact absurd rfl h
theorem Fe (a b:aT):aq (some a) (some b)=some (a++b):=rfl
variable{t:Tr}
theorem ME(h:t.whole=some a):cB (Cm t)=some ([83,69,76,69,67,84,32]++(a++ [32,70,82,79,77,32,116])):=by
 have hn:cS (⟨#[116]⟩:ByteArray)=some [116]:=by decide+kernel
 have hi:ou (t,⟨#[]⟩)=some a:=by unfold ou;rw[h];rw[if_pos (show(⟨#[]⟩:ByteArray).toList=[] by decide+kernel),Fe,append_nil]
 unfold cB Cm jG;simp only[map_cons,map_nil,hi,hn,h];have hl:dt [some a]=some a:=by unfold dt;rw[na];show aq (some []) (some a)=some a;rw[Fe,nil_append]
 simp[hl,dv,nB,bU,jm,eQ,ED,bc,Fe]
theorem SP(h:Cf t=(a,0)):EF (Cm t)=if 4096 < a.length+14 then([],2)else([83,69,76,69,67,84,32]++(a++ [32,70,82,79,77,32,116]),0):=by obtain⟨h1,h2⟩:=zh h;unfold EF;rw[ME h1];unfold mD;simp only[length_append,length_cons,length_nil];rw[show 0+1+1+1+1+1+1+1+(a.length+(0+1+1+1+1+1+1+1))=a.length+14 by omega]
theorem SQ(hf:t.fine) (h:Cf t=(a,0))(hl:a.length+14<=4096):kU ([115,101,108,101,99,116,32]++(a++ [32,102,114,111,109,32,116]))=.ok (Cm t):=by
 obtain⟨h1,h2⟩:=zh h;refine Xq ?_ (by simp only[length_append,length_cons,length_nil];omega) (by rw[ME h1];rfl)
 have hx:uR (aq (some [115,101,108,101,99,116,32]) (aq t.whole (aq (some [32,102,114,111,109,32]) (cS ⟨#[116]⟩)))) ([wW cA]++(t.words++([wW bZ]++ [wW [116]]))):=
  uR.pre (Zs (t:=[115,101,108,101,99,116]) (s:=cA) Tac) ((Ar hf).add (LxQ.pre (.inl rfl) (ahF (Zs (t:=[102,114,111,109]) (s:=bZ) Tac)) (SF ⟨#[116]⟩)))
 have hn:cS (⟨#[116]⟩:ByteArray)=some [116]:=by decide+kernel
 rw[h1,hn] at hx;have:=hx _ rfl;have hw:Av (Cm t)=[wW cA]++(t.words++([wW bZ]++ [wW [116]])):=by unfold Av Cm mv;simp[cU,xU,SG,fP,rS,xd]
 rw[hw];exact Zep
variable{u:Tr}
theorem Xr(ft:t.fine)(fu:u.fine) (ht:Cf t=(a,0))(hu:Cf u=(a,0)):t=u:=by
 obtain⟨h1,h2⟩:=zh ht;obtain⟨k1,k2⟩:=zh hu;have rt:=ky (t:=t) (by rw[h1];rfl);have ru:=ky (t:=u) (by rw[k1];rfl);obtain⟨ps,hrun,hps⟩:=Ar ft a h1 [] (λ c hc=>by cases hc);obtain⟨qs,MF,hqs⟩:=Ar fu a k1 [] (λ c hc=>by cases hc);have hr:=hrun [] [] (Ki.stop []);have hr2:=MF [] [] (Ki.stop []);rw[append_nil,append_nil] at hr hr2;have P7:=EI h2 hr rfl;have MG:=EI h2 hr2 rfl;rw[P7] at MG;injection MG with MG;have hw:t.words++ [eT]=u.words++ [eT]:=by have:=congrArg (List.map (·.w)) MG;rw[map_append,map_map,map_append,map_map] at this;rw[<- hps,<- hqs];exact this
 have e1:=rt.top [eT] (mN (KA []) rfl 0);have e2:=ru.top [eT] (mN (KA []) rfl 0);rw[hw,e2] at e1;injection e1 with e1;injection e1 with e1 _;exact e1.symm
variable{w:World}{S:Nat->Prop}{G:Nat}{x x2:Tr}{y y2:Ex}
theorem aaE(h:av w G 36 (aL y++aL y2).toArray)(hS:S G)(hx:x.at_ w S y)(hx2:x2.at_ w S y2):eJ.sl w S ⟨some ⟨G,0,none⟩,2,2⟩ [x,x2]:=
 ⟨rfl,[y,y2],uj (f:=aL) qi (by show av w G _ (aL y++(aL y2++ [])).toArray;rw[append_nil];exact h) hS,sR.2 (Tr.Ez hx hx2)⟩
theorem VN(h:av w G 51 (Cp (y,⟨#[]⟩)).toArray)(hS:S G)(hx:x.at_ w S y):iP.sl w S ⟨some ⟨G,0,none⟩,1,1⟩ [(x,⟨#[]⟩)]:=
 ⟨rfl,[(y,⟨#[]⟩)],uj (f:=Cp) (size:=8) (λ _=>rfl) (by show av w G _ (Cp (y,⟨#[]⟩)++ []).toArray;rw[append_nil];exact h) hS,.one ⟨hx,rfl⟩⟩
theorem VO(hf:t.fine)(ht:t.thin)(hn:2*t.nodes+1<=1048576):(Cm t).my 1048576:=by
 have hz:(⟨#[116]⟩:ByteArray).size=1:=rfl;refine⟨?_,?_,?_,?_,?_,?_,?_,?_,?_,?_,?_,?_,?_,⟨?_,?_,?_,?_,?_,?_,?_,?_⟩,?_,?_⟩<;> simp[Cm,Val.Ok,bU,Tr.aM,St.exprs,Qu.exprs,hf,ht] <;> first | decide | omega
theorem aaF{a:Sl}(h:iP.sl w S a [(t,⟨#[]⟩)]):(Cm t).at_ w S { kind:=8,query:= { items:=a,aN:=⟨#[116]⟩} }:=
 { St.iR w S with kind:=rfl,query:= { Qu.iR w S with items:=h,aN:=rfl } }
variable{α β:Type}{R:α->β->Prop}{l:List β}
theorem VP{x:α} (h:fS R [x] l):∃y,l=[y]/\R x y:=by
 cases h with
 | cons h1 h2=>cases h2;exact⟨_,rfl,h1⟩
variable{S2:Nat->Prop}{z:Ex}
theorem zgp.KbX(h:p:=by refine wpQuiet_nil ?_;rintro V4 ⟨x9,Tp⟩;have Hw:=x9.h;rw[<- Tp] at Hw;have K5:=hid (af.then Wy.out Hw);have zu:=hid (Tr.at_.keep (fE Hw) _ _ HAX.out);clear Tp x9 j0 j1 j2 j3 j4 j5 j6 k7 x0 x1 x2 x3 x4 x5 x6 Hw te hib;go_wp2_with fail;refine(rk.out V4 _ yx K5.out (λ b hb=>hb.2) zu.out).mono ?_;rintro e w9 ⟨rfl,b9⟩;have HB9:=hid (af.then K5.out b9);clear b9;go_wp2_with fail;refine(HWK.out w9 HB9.out).mono ?_;rintro e wa ⟨rfl,ba⟩;have HBA:=hid (af.then HB9.out ba);clear ba;go_wp2_with fail;go_ret;exact⟨rfl,HBA.out⟩):p:=h
theorem printExpr_any(hE:di w) (hS:∀b,S b->b < w.heap.size)(Cq:∀b,S2 b->b < w.heap.size)  (ht:t.at_ w S y)(hu:u.at_ w S2 z)(ft:t.fine)(fu:u.fine)(tt:t.thin)(tu:u.thin)(nt:2*t.nodes+1<=1048576)(nu:2*u.nodes+1<=1048576):
  Calls Tryz.prog 6 #[dA y,dA z] w λ e w'=>e=.returned (.bool true)/\Below w.heap.size w w':=by
 have VQ:=hid (λ W (hW:Below w.heap.size w W)=>(show di W from⟨hE.lex.later hW,hE.val.later hW⟩));clear hE;have HWK:=hid (λ W (hW:Below w.heap.size w W)=>(Js W (VQ.out W hW)));have htK:∀W,Below w.heap.size w W->t.at_ W (λ b=>b < w.heap.size) y:=λ W hW=>Tr.at_.keep (λ b hb=>⟨λ o=>hW.cell (p:=⟨b,o,none⟩) (hS b hb),hS b hb⟩) _ _ ht
 have huK:∀W,Below w.heap.size w W->u.at_ W (λ b=>b < w.heap.size) z:=λ W hW=>Tr.at_.keep (λ b hb=>⟨λ o=>hW.cell (p:=⟨b,o,none⟩) (Cq b hb),Cq b hb⟩) _ _ hu
 clear ht hu hS Cq;have Ge:=hid (λ W (hW:Below w.heap.size w W)=>uH (VQ.out W hW) (λ b hb=>Nat.lt_of_lt_of_le hb hW.size) (htK W hW) ft tt Taa);have HEY:=hid (λ W (hW:Below w.heap.size w W)=>uH (VQ.out W hW) (λ b hb=>Nat.lt_of_lt_of_le hb hW.size) (huK W hW) fu tu Taa);have HSM:=hid (λ W (hW:Below w.heap.size w W)=>Tr.ZK (λ b hb=>Nat.lt_of_lt_of_le hb hW.size) (λ b hb=>Nat.lt_of_lt_of_le hb hW.size) t u y z (htK W hW) (huK W hW) tt tu);have dy:=hid (λ W q (hW:Below w.heap.size w W) (hq:w.heap.size<=q) (hB:av W q 36 (aL y++aL z).toArray)=>QH (w:=W) (S:=λ b=>b < W.heap.size) (λ b hb=>hb) (aaE hB hB.lt (Tr.at_.keep (λ b hb=>⟨λ _=>rfl,Nat.lt_of_lt_of_le hb hW.size⟩) _ _ (htK W hW)) (Tr.at_.keep (λ b hb=>⟨λ _=>rfl,Nat.lt_of_lt_of_le hb hW.size⟩) _ _ (huK W hW))) (show Tr.gT [t,u] by unfold Tr.gT;exact⟨tt,by unfold Tr.gT;exact⟨tu,by unfold Tr.gT;trivial⟩⟩) Tae W (Below.refl _ _));have HPR:=hid (λ W q (hW:Below w.heap.size w W) (hB:av W q 51 (Cp (y,⟨#[]⟩)).toArray)=>Bd (VQ.out W hW) (S:=λ b=>b < W.heap.size) (λ b hb=>hb) (aaF (VN hB hB.lt (Tr.at_.keep (λ b hb=>⟨λ _=>rfl,Nat.lt_of_lt_of_le hb hW.size⟩) _ _ (htK W hW)))) (VO ft tt nt) (Nat.le_refl _));have HRD:=hid (λ a h hl=>SQ (a:=a) ft h hl);have HIJ:=hid (λ a h1 h2=>Xr (a:=a) ft fu h1 h2);have HTD:=hid (λ a h=>SP (a:=a) (t:=t) h);have rk:=hid (λ W (S3:Nat->Prop) (y2:Ex) (hW:Below w.heap.size w W) (hS3:∀b,S3 b->b < W.heap.size) (h2:t.at_ W S3 y2)=>Tr.MV hS3 (λ b hb=>Nat.lt_of_lt_of_le hb hW.size) t y2 y h2 (htK W hW) tt W (Below.refl _ _))
 clear htK huK ft fu tt tu nt nu;have hB1:=af.then (aa w (.cells (aL y).toArray 36)) (aa _ (.cells (aL z).toArray 36));have hX:=(av.new w 36 (aL y).toArray).alloc (.cells (aL z).toArray 36);have hZ:=av.new (w.alloc (.cells (aL y).toArray 36)) 36 (aL z).toArray;rw[World.size_alloc] at hZ;have mn:=hid hB1;have HX:=hid hX;have HZ:=hid hZ;clear hB1 hX hZ;obtain⟨gx,hgx⟩:∃gx,gx=w.heap.size:=⟨_,rfl⟩;obtain⟨op,v,name,width,A,k,cp⟩:=y;obtain⟨ZH,v2,yg,sf,A2,k2,cp2⟩:=z;unfold dA;go_enter Tryz.func6,Tryz.ntmps6;unfold aL;go_upto_region 1 with fail;unfold aL at mn HX HZ dy;unfold Cp aL at HPR;dsimp only at mn HX HZ;generalize ((w.alloc _).alloc _)=W1 at*;obtain⟨x0,x1,x2,x3,x4,x5,x6⟩:=cf HX.out;obtain⟨z0,z1,z2,z3,z4,z5,z6⟩:=cf HZ.out;go_wp2_with fail;refine(dy.out _ W1.heap.size (af.then mn.out (aa W1 _)) mn.out.size (av.new W1 _ _)).mono ?_;rintro e w2 ⟨rfl,b2⟩;clear x0 x1 x2 x3 x4 x5 x6 z0 z1 z2 z3 z4 z5 z6;have bA:=af.then (aa W1 (.cells #[.int .u8 op,.int .u8 v.k,.int .i64 v.n,.string v.s,.string name,.int .i64 width,.slice A k cp,.int .u8 ZH,.int .u8 v2.k,.int .i64 v2.n,.string v2.s,.string yg,.int .i64 sf,.slice A2 k2 cp2] 36)) b2;have px:=hid (af.then mn.out bA);have oq:=hid (HX.out.later bA);have BV:=hid (HZ.out.later bA);clear bA b2 HX HZ mn dy;generalize Tr.oJ 0 [t,u]=sz at*;cases hsz:decide ((1000:Int)< sz);rotate_left
 ·go_wp2_with fail;refine(HWK.out w2 px.out).mono ?_;rintro e w3 ⟨rfl,b3⟩;go_wp2_with fail;go_ret;exact⟨rfl,Below.trans px.out (b3.mono px.out.size)⟩
 obtain⟨x0,x1,x2,x3,x4,x5,x6⟩:=cf oq.out;go_wp2_with fail;refine(Ge.out w2 px.out).mono ?_;rintro e w3 ⟨rfl,b3⟩;have yX:=hid (Below.trans px.out (b3.mono px.out.size));have BQ:=hid (oq.out.later b3);have BM:=hid (BV.out.later b3);clear x0 x1 x2 x3 x4 x5 x6 b3 px oq BV Ge hsz;obtain⟨⟨a,e0⟩,L0⟩:∃x,Cf t=x:=⟨_,rfl⟩;rw[L0];unfold Il strOf;dsimp only;obtain⟨sa,hsa⟩:∃sa:ByteArray,sa=⟨a.toArray⟩:=⟨_,rfl⟩;rw[<- hsa];have HSA:=hid hsa;have HOT:=hid L0;clear hsa L0;obtain⟨z0,z1,z2,z3,z4,z5,z6⟩:=cf BM.out;go_wp2_with fail;refine(HEY.out w3 yX.out).mono ?_;rintro e w4 ⟨rfl,b4⟩;have Pl:=hid (Below.trans yX.out (b4.mono yX.out.size));have Cz:=hid (BQ.out.later b4);have HZ4:=hid (BM.out.later b4);clear z0 z1 z2 z3 z4 z5 z6 b4 yX BQ BM HEY;obtain⟨⟨b,f0⟩,hou⟩:∃x,Cf u=x:=⟨_,rfl⟩;rw[hou];unfold Il strOf;dsimp only;obtain⟨sb,hsb⟩:∃sb:ByteArray,sb=⟨b.toArray⟩:=⟨_,rfl⟩;rw[<- hsb];have HSB:=hid hsb;have HOU:=hid hou;clear hsb hou;by_cases h0:e0=0;rotate_left
 ·have oa:=SN (o:=t.whole) (by have:=HOT.out;unfold Cf at this;rw[this];exact h0);obtain rfl:a=[]:=by have:=HOT.out;unfold Cf at this;rw[this] at oa;exact oa.1
  obtain rfl:sa=⟨#[]⟩:=HSA.out;have t1:(e0 != 0)=true:=by simpa using h0
  clear oa;go_wp2_with fail;refine(HWK.out w4 Pl.out).mono ?_;rintro e w5 ⟨rfl,b5⟩;go_wp2_with fail;go_ret;exact⟨rfl,Below.trans Pl.out (b5.mono Pl.out.size)⟩
 subst h0;obtain⟨x0,x1,x2,x3,x4,x5,x6⟩:=cf Cz.out;obtain⟨z0,z1,z2,z3,z4,z5,z6⟩:=cf HZ4.out;go_upto_region 7 with fail;go_cut [47] (λ v wx=>v=.bool false/\Below w4.heap.size w4 wx)
 case first=>
  by_cases hf0:f0=0
  ·subst hf0;obtain⟨β,ZJ,KQ⟩:=HSM.out w4 Pl.out
   have hq:(sa.toList==sb.toList)=β:=by
    rw[Bool.eq_iff_iff,AL,KQ];constructor
    ·intro h;have h1:=HSA.out;have h2:=HSB.out;rw[h,h2] at h1;obtain rfl:b=a:=by simpa using h1
     exact HIJ.out b HOT.out HOU.out
    ·intro h;have h1:=HOT.out;rw[h,HOU.out] at h1;injection h1 with h1 _;rw[HSA.out,HSB.out,h1]
   have hn:(β != β)=false:=by cases β <;> rfl
   have HQ:=hid ZJ;clear ZJ KQ;go_wp2_with fail;refine(HQ.out w4 (Below.refl _ _)).mono ?_;rintro e w5 ⟨rfl,b5⟩;go_wp2_with fail;go_meet;exact⟨rfl,b5⟩
  ·have t1:(f0==0)=false:=by simpa using hf0
   go_wp2_with fail;go_meet;exact ZfK
 case rest=>
  obtain⟨rfl,hb⟩:=hcut;have E7:=hid (Below.trans Pl.out (hb.mono Pl.out.size));have zj:=hid (Cz.out.later hb);clear hb x0 x1 x2 x3 x4 x5 x6 z0 z1 z2 z3 z4 z5 z6 Pl Cz HZ4 HSM HIJ HOU HSB;obtain⟨x0,x1,x2,x3,x4,x5,x6⟩:=cf zj.out;go_wp2_with fail;refine(HPR.out _ wc.heap.size (af.then E7.out (aa wc _)) (av.new wc _ _)).mono ?_;rintro e w6 ⟨rfl,b6⟩;have bC:=af.then (aa wc (.cells #[.int .u8 op,.int .u8 v.k,.int .i64 v.n,.string v.s,.string name,.int .i64 width,.slice A k cp,.string ⟨#[]⟩] 51)) b6;have VL:=hid (af.then E7.out bC);have XR:=hid (zj.out.later bC);clear bC b6 x0 x1 x2 x3 x4 x5 x6 E7 zj HPR;rw[HTD.out a HOT.out];by_cases hl:4096 < a.length+14
  ·rw[if_pos hl];unfold Il strOf;dsimp only;clear hl;go_wp2_with fail;refine(HWK.out w6 VL.out).mono ?_;rintro e w7 ⟨rfl,b7⟩;go_wp2_with fail;go_ret;exact⟨rfl,Below.trans VL.out (b7.mono VL.out.size)⟩
  rw[if_neg hl];unfold Il strOf;dsimp only;obtain⟨sd,hsd⟩:∃sd:ByteArray,sd=⟨([83,69,76,69,67,84,32]++(a++ [32,70,82,79,77,32,116])).toArray⟩:=⟨_,rfl⟩;rw[<- hsd];have hss:sa.size<=4096:=by rw[HSA.out];show a.toArray.size<=_;simp;omega
  have FY:=HRD.out a HOT.out Taa;have HSD:=hid hsd;have afR:=hid FY;clear hsd FY hl HRD HTD;go_wp2_with fail;obtain⟨sp,hsp⟩:∃sp:ByteArray,sp=(⟨#[115,101,108,101,99,116,32]⟩++sa++⟨#[32,102,114,111,109,32,116]⟩:ByteArray):=⟨_,rfl⟩;have hpl:kU sp.data.toList=.ok (Cm t):=by have h:=afR.out;rw[hsp,HSA.out];simpa using h
  have afS:sp.size<=4294967280:=by rw[hsp,ByteArray.size_append,ByteArray.size_append];have h1:(⟨#[115,101,108,101,99,116,32]⟩:ByteArray).size=7:=rfl;have h2:(⟨#[32,102,114,111,109,32,116]⟩:ByteArray).size=7:=rfl;omega
  rw[<- hsp];clear hsp;have hgp:=Mi sp w6 (VQ.out w6 VL.out).lex afS;unfold lM at hgp;rw[hpl] at hgp;clear hpl afS afR;refine hgp.mono ?_;rintro e w7 ⟨y2,rfl,h2,b7⟩;obtain⟨cs,hcs⟩:∃cs,cs=(bI y2).toArray:=⟨_,rfl⟩;have dy:=hid (show(Tryz.prog.info? 34).map (·.size)=some cs.size by rw[hcs];exact kC _);have lD:=hid (show cF.size=cs.size by rw[hcs,br];exact br _);have jq:=hid (show cs.all (·.oneCell')=true by rw[hcs];exact cL _);have U5:=hid hcs;have bD:=af.then b7 (aa w7 (.cells cs 34))
  have Wy:=hid (af.then VL.out bD);have Ut:=hid (XR.out.later bD);have iO:=hid (St.at_.keep (fE (aa w7 (.cells cs 34))) h2);have HK:=hid (av.new w7 34 cs);unfold mC;rw[<- hcs];clear hcs h2 bD b7 hgp VL XR;go_upto_region 13 with (first
   |(refine wpList_store_row rfl 34 (.tmp 11) (.tmp 65) rfl w7.heap.size cs rfl rfl 34 cF (av.new w7 34 cF) dy.out lD.out jq.out ?_
     rw[jl]))
  change Code.wp _ _ _ _ (w7.alloc (.cells cs 34));generalize w7.heap.size=q2 at*;generalize (World.alloc w7 _)=W8 at*;obtain⟨uA,ys,hr,ha⟩:=iO.out.query.items;obtain⟨z,rfl,hz⟩:=VP ha;obtain⟨yx,ye⟩:=z;have hax:t.at_ W8 _ yx:=hz.1;rcases hr with h0 |⟨ib,off,hA,lH,hc⟩
  ·cases h0
  have hib:=lH.2;have c7:W8.cell? ⟨q2,7,none⟩=some (.slice (some ⟨ib,off,none⟩) 1 y2.query.items.c):=by rw[HK.out.cell 7,U5.out];show some (eU y2.query.items)=_;unfold eU;rw[hA,uA];rfl
  have jc:∀(j:Nat) (u:Value),(aL yx)[j]?=some u->W8.cell? ⟨ib,off+j,none⟩=some u:=λ j u hu=>by
   have hl:j < 7:=by
    rcases Nat.lt_or_ge j 7 with h | h
    ·exact h
    ·rw[getElem?_eq_none (show(aL yx).length<=j from h)] at hu;cases hu
   have:=hc 0 (yx,ye) j u rfl (by show(aL yx++ [.string ye])[j]?=some u;rw[getElem?_append_left (show j <(aL yx).length from hl)];exact hu);exact Zep
  have te:(sd.toList==((⟨#[83,69,76,69,67,84,32]⟩:ByteArray)++sa++(⟨#[32,70,82,79,77,32,116]⟩:ByteArray)).toList)=true:=by rw[AL,HSD.out,HSA.out];apply ByteArray.ext;simp
  have HAX:=hid hax;have P6:=HK.out.lt;have hgx:=Ut.out.lt;have j0:=λ q:Ext W8.heap.size W8=>(q.h.cell (p:=⟨ib,off,none⟩) hib).trans (jc 0 _ rfl)
  have j1:=λ q:Ext W8.heap.size W8=>(q.h.cell (p:=⟨ib,off+1,none⟩) hib).trans (jc 1 _ rfl)
  have j2:=λ q:Ext W8.heap.size W8=>(q.h.cell (p:=⟨ib,off+2,none⟩) hib).trans (jc 2 _ rfl)
  have j3:=λ q:Ext W8.heap.size W8=>(q.h.cell (p:=⟨ib,off+3,none⟩) hib).trans (jc 3 _ rfl)
  have j4:=λ q:Ext W8.heap.size W8=>(q.h.cell (p:=⟨ib,off+4,none⟩) hib).trans (jc 4 _ rfl)
  have j5:=λ q:Ext W8.heap.size W8=>(q.h.cell (p:=⟨ib,off+5,none⟩) hib).trans (jc 5 _ rfl)
  have j6:=λ q:Ext W8.heap.size W8=>(q.h.cell (p:=⟨ib,off+6,none⟩) hib).trans (jc 6 _ rfl)
  have k7:=λ q:Ext W8.heap.size W8=>(q.h.cell (p:=⟨q2,7,none⟩) P6).trans c7
  obtain⟨y0,y1,y2',y3,y4,y5,y6⟩:=cf Ut.out;have x0:=λ q:Ext W8.heap.size W8=>(q.h.cell (p:=⟨w.heap.size,0,none⟩) hgx).trans y0
  have x1:=λ q:Ext W8.heap.size W8=>(q.h.cell (p:=⟨w.heap.size,1,none⟩) hgx).trans y1
  have x2:=λ q:Ext W8.heap.size W8=>(q.h.cell (p:=⟨w.heap.size,2,none⟩) hgx).trans y2'
  have x3:=λ q:Ext W8.heap.size W8=>(q.h.cell (p:=⟨w.heap.size,3,none⟩) hgx).trans y3
  have x4:=λ q:Ext W8.heap.size W8=>(q.h.cell (p:=⟨w.heap.size,4,none⟩) hgx).trans y4
  have x5:=λ q:Ext W8.heap.size W8=>(q.h.cell (p:=⟨w.heap.size,5,none⟩) hgx).trans y5
  have x6:=λ q:Ext W8.heap.size W8=>(q.h.cell (p:=⟨w.heap.size,6,none⟩) hgx).trans y6
  clear y0 y1 y2' y3 y4 y5 y6 c7 jc hc ha hz hA uA hax;refine gU 28 W8.heap.size W8 (Below.refl _ _) Tab Tab Tab Tab ?_;open zgp in exact Zeg
def laidL:List (String×DataW Unit):=Rows.printBackRow.laid
noncomputable def laidW (os:Os):World:=World.laidAll Tryz.prog os laidL
theorem laid_os (os:Os):(laidW os).os=os:=World.laidAll_os _ _ _
theorem laid_met (os:Os)(args:Array Value):laidMetH Tryz.prog laidL ((laidW os).forCall (λ _ _=>0) ⟨#[],args,[]⟩).memory:=by rw[MakeChecks.laidMetH_plain _ _ _ Tab];exact laidMet_laidAll _ Tab Tab
theorem laid_shaped (os:Os)(args:Array Value):((laidW os).forCall (λ _ _=>0) ⟨#[],args,[]⟩).Shaped Tryz.prog:=World.shaped_of_ZipB Tab Tab
variable{H:Type}{enc:TypeId×Value->H}{C:Checked}{os:Os}{f:FuncId}{fn:Func}{s:OpenSpec}{conds:List PathCond}{apart:Bool}{laid:List (String×DataW Unit)}
theorem witness_sh(w0:World)(args:Array Value)(hos:w0.os=os)
  (NS:(w0.forCall (λ _ _=>0) ⟨#[],args,[]⟩).Shaped C.prog)
  (ay:Input.okWideB C.prog (w0.forCall (λ _ _=>0) ⟨#[],args,[]⟩) f ⟨#[],args,[]⟩=true)
  (hrow:s.preRow enc C.prog fn conds apart laid (w0.forCall (λ _ _=>0) ⟨#[],args,[]⟩).memory args):
  ∃(w:World) (tape:Tape) (i:Input),w.os=os/\(w.forCall tape i).Shaped C.prog/\i.vars=[]/\Input.okWide C.prog (w.forCall tape i) .any w.heap.size f i/\
   s.preRow enc C.prog fn conds apart laid (w.forCall tape i).memory i.args/\({}:Assume).holds C.prog (lone (Frame.enter C.prog f i.args .normal) [] (w.forCall tape i)):=
 ⟨w0,λ _ _=>0,⟨#[],args,[]⟩,hos,NS,(Input.okWide_of_okWideB (base:=0) ay).1,(Input.okWide_of_okWideB ay).2,hrow,by
   simp only[Assume.holds]
   exact⟨by simp,by simp,by simp,by simp,by simp⟩⟩
theorem QK:(Rows.laid_strings_asciiSpace:DataW Unit)=Lib.tabData .u8 Lib.asciiSpaceTab:=by kernel_rfl
theorem QL:∀u,Tryz.prog.typeName? 3 u=some "*errors.errorString" ->u=267:=by
 intro u h;have star: "*" ++ "errors.errorString" = "*errors.errorString" :=by decide
 exact typeName_ptr_named (nm:= "errors.errorString") (by rw[star];kernel_rfl) Tab Tac u (by rw[star];exact h)
variable{W:World}
theorem aaH(h:laidMetH Tryz.prog laidL W):kg W:=by rw[MakeChecks.laidMetH_plain _ _ _ Tab] at h;have h4:laidMet Tryz.prog (("strconv.ErrRange",.iface "*errors.errorString" (.ptr (.agg [.lit (.string [118,97,108,117,101,32,111,117,116,32,111,102,32,114,97,110,103,101])]))):: [("strconv.ErrSyntax",Rows.laid_strconv_ErrSyntax),("unicode.White_Space",Rows.laid_unicode_White_Space),("strings.asciiSpace",Rows.laid_strings_asciiSpace),("unicode.CaseRanges",Rows.laid_unicode_CaseRanges),("unicode/utf8.first",Rows.laid_unicode_utf8_first)]) W:=h.tail.tail.tail.tail;have h7:laidMet Tryz.prog (("strings.asciiSpace",Rows.laid_strings_asciiSpace):: [("unicode.CaseRanges",Rows.laid_unicode_CaseRanges),("unicode/utf8.first",Rows.laid_unicode_utf8_first)]) W:=h4.tail.tail.tail;rw[QK] at h7;refine⟨Lib.tabIs_of_head (g:=0) (t:=194) (e:=5) (n:=256) Tab Tab Tryz.underlying194 Tryz.underlying5 Tab Tab h7,?_⟩;obtain⟨a,s,hv,_⟩:=laid_sentinel (g:=5) (ti:=132) h4 Tab Tab Tryz.underlying132 QL Tryz.underlying267 Tryz.underlying269 rfl rfl Tryz.underlying9 Tab Tab;exact⟨_,_,hv⟩
theorem env_of(h:laidMetH Tryz.prog laidL W)(hs:W.ShapedOpen Tryz.prog):di W:=by refine⟨aaH h,?_,Go.Proofs.cell_of_shapedOpen_int (zero:= #[.int .i64 0]) (t:=3) hs (of_decide_eq_true Tab) Tab rfl Tab Tab Tryz.underlying3⟩;rw[MakeChecks.laidMetH_plain _ _ _ Tab] at h;have h3:laidMet Tryz.prog (("internal/strconv.uint64pow10",Lib.tabData .u64 Lib.pow10Tab):: [("unicode/utf8.acceptRanges",Rows.laid_unicode_utf8_acceptRanges),("strconv.ErrRange",Rows.laid_strconv_ErrRange),("strconv.ErrSyntax",Rows.laid_strconv_ErrSyntax),("unicode.White_Space",Rows.laid_unicode_White_Space),("strings.asciiSpace",Rows.laid_strings_asciiSpace),("unicode.CaseRanges",Rows.laid_unicode_CaseRanges),("unicode/utf8.first",Rows.laid_unicode_utf8_first)]) W:=h.tail.tail;exact Lib.tabIs_of_head (g:=2) (t:=234) (e:=203) (n:=20) Tab Tab Tryz.underlying234 Tryz.underlying203 Tab Tab h3
variable{base:Nat}{v:Value}{d:DataW H}
theorem expr_open{p:List MemPlace}(ok:Value.okWide Tryz.prog W .any base 36 v)(k:DataW.Trod enc Tryz.prog W 0 (λ _=>true) true 36 v d p)(hb:Rows.uptoBulk d<=1048576):∃(t:Tr) (y:Ex),v=dA y/\t.at_ W (QI W) y/\Tr.big t (Rows.uptoBulk d):=by obtain⟨cs,rfl,_⟩:=okWide_struct Tryz.underlying36 ok;obtain⟨fuel,hf⟩:=k;obtain⟨t,y,h,h1,h2⟩:=VX fuel _ _ hf hb;refine⟨t,y,?_,h1,h2⟩;cases cs;simp only[Value.cells] at h;rw[h];rfl
end Go.Proofs.YtehhdlgjfdnafaaGreatDoor
