/- Parts of the proof. -/
import Derived.Test.YtfmbcoeallmnnaaGreatDoorC6
namespace Go.Proofs.YtfmbcoeallmnnaaGreatDoor
open Go.Lib (hid)
open Go.ChangeShapes Go.WideShapes Go.ChangeAt Go.RowKit
set_option linter.unusedVariables false
set_option linter.unusedSimpArgs false
def pC (x:Ex)(ts:List Int):Int×Int:=
 if bJ x≠0 then(0,bJ x)else if x.op=1 then(x.v.k,0)else if mK x.op ts=false then(0,40)else(lN x.op,0)
def IL (w:World)(cV:Value)(y:Ex)(t:Int):Prop:=∀W,Below w.heap.size w W→Calls Tryz.prog 53 #[.agg #[.int .u8 y.op,.int .u8 y.v.k,.int .i64 y.v.n,.string y.v.s,.string y.name,.int .i64 y.width,.slice y.A y.n y.c],cV] W fun en w'=>en=.returned (.tuple #[.int .u8 t,.int .i64 0])∧Below W.heap.size W w'
set_option maxHeartbeats 3000000
set_option maxRecDepth 100000
theorem IM (op:Int)(xv:Val)(name:ByteArray)(width:Int)(A:Option Addr)(c:Nat)(cV:Value)(args:List (Ex×Int))(Tl:op≠2∨args≠ [])(w:World)(hl:args.length≤1599289640356)(hA:RE w w.heap.size A (args.map (·.1)))(hE:∀a∈args,IL w cV a.1 a.2):
  Calls Tryz.prog 53 #[.agg #[.int .u8 op,.int .u8 xv.k,.int .i64 xv.n,.string xv.s,.string name,.int .i64 width,.slice A args.length c],cV] w fun en w'=>en=.returned (.tuple #[.int .u8 (pC ⟨op,xv,name,width,A,args.length,c⟩ (args.map (·.2))).1,.int .i64 (pC ⟨op,xv,name,width,A,args.length,c⟩ (args.map (·.2))).2])∧Below w.heap.size w w':=by
 have WK:=hid Tl;have HA:=hid hA;have HE:=hid hE;clear hA hE Tl;go_enter Tryz.func53,Tryz.ntmps53;have hX:=ah.new w 34 #[.int .u8 op,.int .u8 xv.k,.int .i64 xv.n,.string xv.s,.string name,.int .i64 width,.slice A args.length c];have x6:=hX.cell 6;simp only[List.getElem?_toArray,List.getElem?_cons_zero,List.getElem?_cons_succ] at x6;go_wp2_with fail;have hB:=aa w (.cells #[.int .u8 op,.int .u8 xv.k,.int .i64 xv.n,.string xv.s,.string name,.int .i64 width,.slice A args.length c] 34);clear x6;generalize w.alloc (.cells #[.int .u8 op,.int .u8 xv.k,.int .i64 xv.n,.string xv.s,.string name,.int .i64 width,.slice A args.length c] 34)=W at*;go_loopw [6,17] (fun kv i wr=>∃k:Nat,k≤args.length∧i=.int .i64 k∧aW nL 5 1 wr W.heap.size kv ((args.take k).map (·.2))∧Below W.heap.size W wr) (fun _ i _=>args.length - (intOf i).toNat);case atStart=>exact⟨0,Nat.zero_le _,rfl,aW.nil,Below.refl _ _⟩
 case round=>
  obtain⟨k,hk,rfl,hK,hb⟩:=hrel;have HK:=hid hK;clear hK;rcases Nat.lt_or_ge k args.length with hlt | Ck
  ·obtain⟨b,off,rfl,FM,hex⟩:=(HA.out.below (hB.trans (hb.mono hB.size))).at_ (show k <(args.map (·.1)).length by simpa using hlt);have pD:(args.map (·.1))[k]'(by simpa using hlt)=args[k].1:=by simp
   rw[pD] at hex;clear pD;have mF:=HE.out args[k] (List.getElem_mem hlt);have HT:=hid (show args.take (k+1)=args.take k++ [args[k]] by rw[List.take_add_one,List.getElem?_eq_getElem hlt];rfl);generalize args[k]=yv at*;obtain⟨y,v⟩:=yv;dsimp only at*;unfold bp at hex;go_wp2_with fail;have bY:=aa wr (.cells #[.int .u8 y.op,.int .u8 y.v.k,.int .i64 y.v.n,.string y.v.s,.string y.name,.int .i64 y.width,.slice y.A y.n y.c] 34);refine(mF _ (hB.trans ((ae.then hb bY).mono hB.size))).mono ?_;rintro e w1 ⟨rfl,b1⟩;have hb1:=ae.then bY b1
   have bN:=aa w1 (.cells #[.int .u8 v] 5);have hG:=ah.new w1 5 #[.int .u8 v];have hb2:=ae.then hb1 bN
   replace HK:=hid (HK.out.later hb2);replace hb:=ae.then hb hb2
   have Tm:((args.take k).map (·.2)).length≤1599289640356:=by simp;omega
   generalize Ot:(args.take k).map (·.2)=ks at*;have WL:=hid Ot;have HG:=hid hG;have hbase:=hb.size;clear Ot hG hb2 hb1 b1 bY bN mF hex;go_wp2_with (first
    |(at_builtin
      refine ew rfl (.tmp 30) (.tmp 32) 73 rfl _ 1 Tryz.underlying73 yB rfl (by omega) v rfl (by simp[nL,Value.oneCell']) rfl HK.out w1.heap.size rfl HG.out (by omega) (by omega) hbase ?_
      intro v4 w4 o4 g4
      have b4:=iU HK.out g4 hbase
      have O4:=hid o4
      clear o4 g4 HK HG))
   go_roundw;case rel=>refine⟨k+1,hlt,by go_num,?_,hb.trans b4⟩;rw[HT.out,List.map_append,WL.out];exact O4.out
   case measure=>simp[intOf];omega
  ·have yC:args.take k=args:=List.take_of_length_le Ck;rw[yC] at HK;clear yC;obtain⟨A9,c9,Zd,Ze⟩:=FJ (f:=nL) (size:=1) (fun _=>rfl) HK.out;rw[List.length_map] at Zd;subst Zd;have eR:=hX.later hb;have di:=ae.then hB hb
   clear HK hX hB;have VL:=hid Ze;clear Ze;have x0:=eR.cell 0;have x1:=eR.cell 1;have x2:=eR.cell 2;have x3:=eR.cell 3;have x4:=eR.cell 4;have x5:=eR.cell 5;have x6:=eR.cell 6;simp only[List.getElem?_toArray,List.getElem?_cons_zero,List.getElem?_cons_succ] at x0 x1 x2 x3 x4 x5 x6;go_wp2_with fail;refine(Ac ⟨op,xv,name,width,A,args.length,c⟩ _).mono ?_;rintro e w1 ⟨oo,rfl,Sk,b1⟩;clear x0 x1 x2 x3 x4 x5 x6;obtain⟨a,wa,gi,al,nu,d,rfl,_,hd⟩:=Sk.shape;have PR:d.oneCell'=true:=by rcases hd with rfl |⟨F,C,rfl⟩<;> rfl
   have hst:=fun(u:Addr) (m:Mode) (w:World)=>run_store Tryz.prog w u d m PR
   unfold ey;have b2:=ae.then b1 (aa w1 (.cells #[.int .i64 a,.int .u8 wa,.int .u8 gi,.bool al,.bool nu,d] 76))
   replace eR:=eR.later b2;replace di:=ae.then di b2
   have oJ:=ah.new w1 76 #[.int .i64 a,.int .u8 wa,.int .u8 gi,.bool al,.bool nu,d];have Zf:=hid (Sk.later (aa w1 (.cells #[.int .i64 a,.int .u8 wa,.int .u8 gi,.bool al,.bool nu,d] 76)));have PV:=hid b2;clear Sk b1 b2 hd;generalize Mp:bJ ⟨op,xv,name,width,A,args.length,c⟩=fe;have pY:=hid Mp;clear Mp;have x0:=eR.cell 0;have x1:=eR.cell 1;have x6:=eR.cell 6;have o0:=oJ.cell 0;have o1:=oJ.cell 1;have o2:=oJ.cell 2;have o3:=oJ.cell 3;have o4:=oJ.cell 4;have o5:=oJ.cell 5;simp only[List.getElem?_toArray,List.getElem?_cons_zero,List.getElem?_cons_succ] at x0 x1 x6 o0 o1 o2 o3 o4 o5;by_cases hf:fe=0
   ·subst hf;by_cases h1:op=1
    ·have HR:=hid (show pC ⟨op,xv,name,width,A,args.length,c⟩ (args.map (·.2))=(xv.k,0) by unfold pC;rw[if_neg (by rw[pY.out];simp),if_pos h1]);have t1:(op==1)=true:=by simpa using h1
     clear h1;go_wp2_with fail;exact bodyPost_ret (v:=.tuple #[.int .u8 xv.k,.int .i64 0]) (by simp[results,Tryz.results53,go_sem]) rfl ⟨by rw[HR.out],di⟩
    ·have t1:(op==1)=false:=by simpa using h1
     have IP:op≠2:=by
      intro e2;rcases WK.out with h | h
      ·exact h e2
      ·exact h (xo pY.out e2)
     have t2:(op==2)=false:=by simpa using IP
     obtain⟨Mq,yF,hwd⟩:=CC pY.out IP h1;clear IP;dsimp only at Mq yF hwd;have WM:3≤op∧op≤20:=by simpa [gL] using Mq
     have Tn:((op.toNat:Nat):Int)=op:=by omega
     have Zg:iB (w1.alloc (.cells #[.int .i64 a,.int .u8 wa,.int .u8 gi,.bool al,.bool nu,d] 76)) op.toNat (.agg (ey a wa gi al nu d)):=by
      rcases Zf.out with ⟨_,h⟩|⟨h,_⟩
      ·exact h
      ·dsimp only at h;rw[Mq] at h;cases h
     have Ou:=Zg.fields;rw[Tn] at Ou;obtain⟨Tp,Zh,yG,G8⟩:=Ou;have PW:=hid Tp;have IQ:=hid yG;have Tq:=hid Zh;have WN:args.length=1∧al=false∨args.length=2:=by
      rw[yG];unfold lg at yF;split at yF
      ·left;refine⟨by omega,?_⟩;simp[rN];omega
      ·right;omega
     have H1:=hid h1;have VM:Hid (∀r,(if mK op (args.map (·.2))=false then(0,40)else(lN op,0))=r→pC ⟨op,xv,name,width,A,args.length,c⟩ (args.map (·.2))=r):=fun r hr=>by unfold pC;rw[if_neg (by rw[pY.out];simp),if_neg H1.out];exact hr
     clear Tp yG G8 Zh yF Mq WM Zg Zf hwd h1 pY;rcases WN with ⟨hlen,rfl⟩| hlen
     ·obtain⟨⟨y1,v1⟩,rfl⟩:=WH hlen;clear hlen;simp only[List.map_cons,List.map_nil,List.length_cons,List.length_nil,Nat.zero_add,Nat.reduceAdd] at*;have Eu:=VL.out;clear VL;rcases Eu with Eu |⟨g9,rfl,Sm,Eu⟩
      ·simp at Eu
      have WO:=(PV.out.cell (p:=⟨g9,0,none⟩) Sm).trans (Eu 0 v1 0 _ rfl (by omega) rfl);have PX:=Nat.lt_of_lt_of_le Sm PV.out.size;clear Eu PV;go_wp2_with fail;refine(FH a wa gi nu d PR g9 0 c9 v1 _ PX WO).mono ?_;rintro e w3 ⟨rfl,b3⟩;clear x0 x1 x6 o0 o1 o2 o3 o4 o5;replace eR:=eR.later b3;replace oJ:=oJ.later b3;replace di:=ae.then di b3
      clear b3;have Ts:Hid (mK op [v1]=fq v1 wa):=by have z1:=PW.out;have z2:=IQ.out;show mK _ _=_;simp only[mK,← z1,← z2]
      cases hs:fq v1 wa
      ·have HQ:=hid (VM.out (0,40) (by rw[Ts.out,hs,if_pos rfl]));have x0:=eR.cell 0;have x1:=eR.cell 1;have x6:=eR.cell 6;have o0:=oJ.cell 0;have o1:=oJ.cell 1;have o2:=oJ.cell 2;have o3:=oJ.cell 3;have o4:=oJ.cell 4;have o5:=oJ.cell 5;simp only[List.getElem?_toArray,List.getElem?_cons_zero,List.getElem?_cons_succ] at x0 x1 x6 o0 o1 o2 o3 o4 o5;go_wp2_with fail;exact bodyPost_ret (v:=.tuple #[.int .u8 0,.int .i64 40]) (by simp[results,Tryz.results53,go_sem]) rfl ⟨congrArg (fun r:Int×Int=>Ending.returned (.tuple #[.int .u8 r.1,.int .i64 r.2])) HQ.out.symm,di⟩
      ·have HQ:=hid (VM.out (gi,0) (by rw[Ts.out,hs,if_neg (by simp),Tq.out]));have x0:=eR.cell 0;have x1:=eR.cell 1;have x6:=eR.cell 6;have o0:=oJ.cell 0;have o1:=oJ.cell 1;have o2:=oJ.cell 2;have o3:=oJ.cell 3;have o4:=oJ.cell 4;have o5:=oJ.cell 5;simp only[List.getElem?_toArray,List.getElem?_cons_zero,List.getElem?_cons_succ] at x0 x1 x6 o0 o1 o2 o3 o4 o5;go_wp2_with fail;exact bodyPost_ret (v:=.tuple #[.int .u8 gi,.int .i64 0]) (by simp[results,Tryz.results53,go_sem]) rfl ⟨congrArg (fun r:Int×Int=>Ending.returned (.tuple #[.int .u8 r.1,.int .i64 r.2])) HQ.out.symm,di⟩
     ·obtain⟨⟨y1,v1⟩,⟨y2,v2⟩,rfl⟩:=WI hlen;clear hlen;simp only[List.map_cons,List.map_nil,List.length_cons,List.length_nil,Nat.zero_add,Nat.reduceAdd] at*;have Eu:=VL.out;clear VL;rcases Eu with Eu |⟨g9,rfl,Sm,Eu⟩
      ·simp at Eu
      have WO:=(PV.out.cell (p:=⟨g9,0,none⟩) Sm).trans (Eu 0 v1 0 _ rfl (by omega) rfl);have G9:=(PV.out.cell (p:=⟨g9,1,none⟩) Sm).trans (Eu 1 v2 0 _ rfl (by omega) rfl);have PX:=Nat.lt_of_lt_of_le Sm PV.out.size;clear Eu PV;go_wp2_with fail;refine(FI a wa gi al nu d PR g9 0 c9 v1 v2 _ PX WO G9).mono ?_;rintro e w3 ⟨rfl,b3⟩;clear x0 x1 x6 o0 o1 o2 o3 o4 o5;replace eR:=eR.later b3;replace oJ:=oJ.later b3;replace di:=ae.then di b3
      clear b3;have Ts:Hid (mK op [v1,v2]=(fq v1 wa &&(fq v2 wa &&(!al || fq v1 v2)))):=by have z1:=PW.out;have z2:=IQ.out;show mK _ _=_;simp only[mK,← z1,← z2]
      cases hs:(fq v1 wa &&(fq v2 wa &&(!al || fq v1 v2)))
      ·have HQ:=hid (VM.out (0,40) (by rw[Ts.out,hs,if_pos rfl]));have x0:=eR.cell 0;have x1:=eR.cell 1;have x6:=eR.cell 6;have o0:=oJ.cell 0;have o1:=oJ.cell 1;have o2:=oJ.cell 2;have o3:=oJ.cell 3;have o4:=oJ.cell 4;have o5:=oJ.cell 5;simp only[List.getElem?_toArray,List.getElem?_cons_zero,List.getElem?_cons_succ] at x0 x1 x6 o0 o1 o2 o3 o4 o5;go_wp2_with fail;exact bodyPost_ret (v:=.tuple #[.int .u8 0,.int .i64 40]) (by simp[results,Tryz.results53,go_sem]) rfl ⟨congrArg (fun r:Int×Int=>Ending.returned (.tuple #[.int .u8 r.1,.int .i64 r.2])) HQ.out.symm,di⟩
      ·have HQ:=hid (VM.out (gi,0) (by rw[Ts.out,hs,if_neg (by simp),Tq.out]));have x0:=eR.cell 0;have x1:=eR.cell 1;have x6:=eR.cell 6;have o0:=oJ.cell 0;have o1:=oJ.cell 1;have o2:=oJ.cell 2;have o3:=oJ.cell 3;have o4:=oJ.cell 4;have o5:=oJ.cell 5;simp only[List.getElem?_toArray,List.getElem?_cons_zero,List.getElem?_cons_succ] at x0 x1 x6 o0 o1 o2 o3 o4 o5;go_wp2_with fail;exact bodyPost_ret (v:=.tuple #[.int .u8 gi,.int .i64 0]) (by simp[results,Tryz.results53,go_sem]) rfl ⟨congrArg (fun r:Int×Int=>Ending.returned (.tuple #[.int .u8 r.1,.int .i64 r.2])) HQ.out.symm,di⟩
   ·have HR:=hid (show pC ⟨op,xv,name,width,A,args.length,c⟩ (args.map (·.2))=(0,fe) by unfold pC;rw[if_pos (by rw[pY.out];exact hf),pY.out]);have t1:(fe != 0)=true:=by simpa using hf
    clear hf;go_wp2_with fail;exact bodyPost_ret (v:=.tuple #[.int .u8 0,.int .i64 fe]) (by simp[results,Tryz.results53,go_sem]) rfl ⟨by rw[HR.out],di⟩
def um (w:World)(cV:Value)(y:Ex)(t e:Int):Prop:=∀W,Below w.heap.size w W→Calls Tryz.prog 53 #[.agg #[.int .u8 y.op,.int .u8 y.v.k,.int .i64 y.v.n,.string y.v.s,.string y.name,.int .i64 y.width,.slice y.A y.n y.c],cV] W fun en w'=>en=.returned (.tuple #[.int .u8 t,.int .i64 e])∧Below W.heap.size W w'
theorem IU (op:Int)(xv:Val)(name:ByteArray)(width:Int)(A:Option Addr)(n c:Nat)(cV:Value)(args:List (Ex×Int))(bad:Ex)(bt er:Int)(post:List Ex)(hn:args.length+1+post.length=n)(w:World)(hl:args.length≤1599289640356)(Cl:n≤1599289640356)(hA:RE w w.heap.size A (args.map (·.1)++bad::post))(hE:∀a∈args,IL w cV a.1 a.2)(FO:um w cV bad bt er)(her:er≠0):
  Calls Tryz.prog 53 #[.agg #[.int .u8 op,.int .u8 xv.k,.int .i64 xv.n,.string xv.s,.string name,.int .i64 width,.slice A n c],cV] w fun en w'=>en=.returned (.tuple #[.int .u8 0,.int .i64 er])∧Below w.heap.size w w':=by
 have HN:=hid hn;have WQ:=hid FO;have H0:=hid her;clear hn FO her;have HA:=hid hA;have HE:=hid hE;clear hA hE;go_enter Tryz.func53,Tryz.ntmps53;have hX:=ah.new w 34 #[.int .u8 op,.int .u8 xv.k,.int .i64 xv.n,.string xv.s,.string name,.int .i64 width,.slice A n c];have x6:=hX.cell 6;simp only[List.getElem?_toArray,List.getElem?_cons_zero,List.getElem?_cons_succ] at x6;go_wp2_with fail;have hB:=aa w (.cells #[.int .u8 op,.int .u8 xv.k,.int .i64 xv.n,.string xv.s,.string name,.int .i64 width,.slice A n c] 34);clear x6;generalize w.alloc (.cells #[.int .u8 op,.int .u8 xv.k,.int .i64 xv.n,.string xv.s,.string name,.int .i64 width,.slice A n c] 34)=W at*;go_loopw [6,17] (fun kv i wr=>∃k:Nat,k≤args.length∧i=.int .i64 k∧aW nL 5 1 wr W.heap.size kv ((args.take k).map (·.2))∧Below W.heap.size W wr) (fun _ i _=>args.length - (intOf i).toNat);case atStart=>exact⟨0,Nat.zero_le _,rfl,aW.nil,Below.refl _ _⟩
 case round=>
  obtain⟨k,hk,rfl,hK,hb⟩:=hrel;have HK:=hid hK;clear hK;rcases Nat.lt_or_ge k args.length with hlt | Ck
  ·have H9:k < n:=by have:=HN.out;omega
   obtain⟨b,off,rfl,FM,hex⟩:=(HA.out.below (hB.trans (hb.mono hB.size))).at_ (show k <(args.map (·.1)++bad::post).length by simp;omega);have pD:(args.map (·.1)++bad::post)[k]'(by simp;omega)=args[k].1:=by rw[List.getElem_append_left (by simpa using hlt)];simp
   rw[pD] at hex;clear pD;have mF:=HE.out args[k] (List.getElem_mem hlt);have HT:=hid (show args.take (k+1)=args.take k++ [args[k]] by rw[List.take_add_one,List.getElem?_eq_getElem hlt];rfl);generalize args[k]=yv at*;obtain⟨y,v⟩:=yv;dsimp only at*;unfold bp at hex;go_wp2_with fail;have bY:=aa wr (.cells #[.int .u8 y.op,.int .u8 y.v.k,.int .i64 y.v.n,.string y.v.s,.string y.name,.int .i64 y.width,.slice y.A y.n y.c] 34);refine(mF _ (hB.trans ((ae.then hb bY).mono hB.size))).mono ?_;rintro e w1 ⟨rfl,b1⟩;have hb1:=ae.then bY b1
   have bN:=aa w1 (.cells #[.int .u8 v] 5);have hG:=ah.new w1 5 #[.int .u8 v];have hb2:=ae.then hb1 bN
   replace HK:=hid (HK.out.later hb2);replace hb:=ae.then hb hb2
   have Tm:((args.take k).map (·.2)).length≤1599289640356:=by simp;omega
   generalize Ot:(args.take k).map (·.2)=ks at*;have WL:=hid Ot;have HG:=hid hG;have hbase:=hb.size;clear Ot hG hb2 hb1 b1 bY bN mF hex;go_wp2_with (first
    |(at_builtin
      refine ew rfl (.tmp 30) (.tmp 32) 73 rfl _ 1 Tryz.underlying73 yB rfl (by omega) v rfl (by simp[nL,Value.oneCell']) rfl HK.out w1.heap.size rfl HG.out (by omega) (by omega) hbase ?_
      intro v4 w4 o4 g4
      have b4:=iU HK.out g4 hbase
      have O4:=hid o4
      clear o4 g4 HK HG))
   go_roundw;case rel=>refine⟨k+1,hlt,by go_num,?_,hb.trans b4⟩;rw[HT.out,List.map_append,WL.out];exact O4.out
   case measure=>simp[intOf];omega
  ·have Zi:k=args.length:=by omega
   have H9:k < n:=by have:=HN.out;omega
   obtain⟨b,off,rfl,FM,hex⟩:=(HA.out.below (hB.trans (hb.mono hB.size))).at_ (show k <(args.map (·.1)++bad::post).length by simp;omega);have pD:(args.map (·.1)++bad::post)[k]'(by simp;omega)=bad:=by rw[List.getElem_append_right (by simp;omega)];simp[Zi]
   rw[pD] at hex;clear pD Zi HK;have mF:=WQ.out;unfold bp at hex;go_wp2_with fail;have bY:=aa wr (.cells #[.int .u8 bad.op,.int .u8 bad.v.k,.int .i64 bad.v.n,.string bad.v.s,.string bad.name,.int .i64 bad.width,.slice bad.A bad.n bad.c] 34);refine(mF _ (hB.trans ((ae.then hb bY).mono hB.size))).mono ?_;rintro e w1 ⟨rfl,b1⟩;have di:=ae.then hB (ae.then hb (ae.then bY b1))
   have te:(er != 0)=true:=by have:=H0.out;simpa using this
   clear mF hex bY b1 hX hB hb;go_wp2_with fail;exact bodyPost_ret (v:=.tuple #[.int .u8 0,.int .i64 er]) (by simp[results,Tryz.results53,go_sem]) rfl ⟨rfl,di⟩
def jX (cols:List uk)(name:ByteArray):Int×Int:=if eG name cols < cols.length then((cols.getD (eG name cols) ⟨ByteArray.empty,0⟩).t,0)else(0,41)
theorem IV (xv:Val)(name:ByteArray)(width:Int)(A:Option Addr)(c:Nat)(cols:List uk)(CA:Option Addr)(cc:Nat)(w:World)(hC:RC w w.heap.size CA cols)(hl:cols.length≤140737488355328):
  Calls Tryz.prog 53 #[.agg #[.int .u8 2,.int .u8 xv.k,.int .i64 xv.n,.string xv.s,.string name,.int .i64 width,.slice A 0 c],.slice CA cols.length cc] w fun en w'=>en=.returned (.tuple #[.int .u8 (jX cols name).1,.int .i64 (jX cols name).2])∧Below w.heap.size w w':=by
 have HC:=hid hC;clear hC;go_enter Tryz.func53,Tryz.ntmps53;have eR:=ah.new w 34 #[.int .u8 2,.int .u8 xv.k,.int .i64 xv.n,.string xv.s,.string name,.int .i64 width,.slice A 0 c];have x6:=eR.cell 6;simp only[List.getElem?_toArray,List.getElem?_cons_zero,List.getElem?_cons_succ] at x6;go_wp2_with fail;have di:=aa w (.cells #[.int .u8 2,.int .u8 xv.k,.int .i64 xv.n,.string xv.s,.string name,.int .i64 width,.slice A 0 c] 34);replace HC:=hid (HC.out.later di);clear x6;generalize w.alloc (.cells #[.int .u8 2,.int .u8 xv.k,.int .i64 xv.n,.string xv.s,.string name,.int .i64 width,.slice A 0 c] 34)=W at*;go_loopw [6,17] (fun kv i wr=>kv=.slice none 0 0∧i=.int .i64 0∧wr=W) (fun _ _ _=>0);case atStart=>exact⟨rfl,rfl,rfl⟩
 case round=>
  obtain⟨rfl,rfl,rfl⟩:=hrel;have x0:=eR.cell 0;have x1:=eR.cell 1;have x2:=eR.cell 2;have x3:=eR.cell 3;have x4:=eR.cell 4;have x5:=eR.cell 5;have x6:=eR.cell 6;simp only[List.getElem?_toArray,List.getElem?_cons_zero,List.getElem?_cons_succ] at x0 x1 x2 x3 x4 x5 x6;go_wp2_with fail;refine(Ac ⟨2,xv,name,width,A,0,c⟩ _).mono ?_;rintro e w1 ⟨oo,rfl,Sk,b1⟩;obtain rfl:oo=kF:=by
   rcases Sk with ⟨h,_⟩|⟨_,h⟩
   ·exact absurd h (by simp[gL])
   ·exact h
  have Mp:bJ ⟨2,xv,name,width,A,0,c⟩=0:=by unfold bJ;rw[if_pos (by simp)]
  rw[Mp];clear Mp Sk;clear x0 x1 x2 x3 x4 x5 x6;have b2:=ae.then b1 (aa w1 (.cells #[.int .i64 0,.int .u8 0,.int .u8 0,.bool false,.bool false,.nilFunc] 76))
  replace eR:=eR.later b2;replace di:=ae.then di b2
  replace HC:=hid (HC.out.later b2);clear b1 b2;have hst:=fun(u:Addr) (m:Mode) (w:World)=>run_store Tryz.prog w u .nilFunc m rfl
  unfold kF;have x0:=eR.cell 0;have x1:=eR.cell 1;have x2:=eR.cell 2;have x3:=eR.cell 3;have x4:=eR.cell 4;have x5:=eR.cell 5;have x6:=eR.cell 6;simp only[List.getElem?_toArray,List.getElem?_cons_zero,List.getElem?_cons_succ] at x0 x1 x2 x3 x4 x5 x6;go_wp2_with fail;clear hst;clear x0 x1 x2 x3 x4 x5 x6;refine(FN cols CA cc name _ HC.out hl).mono ?_;rintro e w2 ⟨rfl,b2⟩;replace eR:=eR.later b2;replace di:=ae.then di b2
  replace HC:=hid (HC.out.later b2);clear b2;by_cases hp:eG name cols < cols.length
  ·have HP:=hid (show nM name cols=(eG name cols:Int) by unfold nM;rw[if_pos hp]);rw[HP.out];have Ie:=hid (show jX cols name=((cols.getD (eG name cols) ⟨ByteArray.empty,0⟩).t,0) by unfold jX;rw[if_pos hp]);clear HP;generalize eG name cols=k at*;have hk2:(k:Int)≤140737488355328:=by omega
   have t0:decide (0≤(k:Int))=true:=decide_eq_true (by omega);obtain⟨b,off,rfl,FM,Mo⟩:=HC.out.at_ hp;have HG:=hid (show cols.getD k ⟨ByteArray.empty,0⟩=cols[k] by rw[List.getD_eq_getElem?_getD,List.getElem?_eq_getElem hp];rfl);have HQ:=Ie;rw[HG.out] at HQ;clear Ie;generalize cols[k]=x at*;unfold sW at Mo;have x0:=eR.cell 0;have x1:=eR.cell 1;have x2:=eR.cell 2;have x3:=eR.cell 3;have x4:=eR.cell 4;have x5:=eR.cell 5;have x6:=eR.cell 6;simp only[List.getElem?_toArray,List.getElem?_cons_zero,List.getElem?_cons_succ] at x0 x1 x2 x3 x4 x5 x6;go_wp2_with fail;exact bodyPost_ret (v:=.tuple #[.int .u8 x.t,.int .i64 0]) (by simp[results,Tryz.results53,go_sem]) rfl ⟨by rw[HQ.out],di⟩
  ·have HP:=hid (show nM name cols= -1 by unfold nM;rw[if_neg hp]);rw[HP.out];have HQ:=hid (show jX cols name=(0,41) by unfold jX;rw[if_neg hp]);clear hp;have x0:=eR.cell 0;have x1:=eR.cell 1;have x2:=eR.cell 2;have x3:=eR.cell 3;have x4:=eR.cell 4;have x5:=eR.cell 5;have x6:=eR.cell 6;simp only[List.getElem?_toArray,List.getElem?_cons_zero,List.getElem?_cons_succ] at x0 x1 x2 x3 x4 x5 x6;go_wp2_with fail;exact bodyPost_ret (v:=.tuple #[.int .u8 0,.int .i64 41]) (by simp[results,Tryz.results53,go_sem]) rfl ⟨by rw[HQ.out],di⟩
def ic:List (Int×Int)→Int
 | []=>0
 | r::rs=>if r.2≠0 then r.2 else ic rs
def mf (cols:List uk)(x:Ex)(rs:List (Int×Int)):Int×Int:=
 if ic rs≠0 then(0,ic rs)else if bJ x≠0 then(0,bJ x)else if x.op=1 then(x.v.k,0)else if x.op=2 then jX cols x.name else if mK x.op (rs.map (·.1))=false then(0,40)else(lN x.op,0)
mutual
def Tr.type (cols:List uk):Tr→Int×Int
 | .mk op v name width args=>mf cols ⟨op,v,name,width,none,args.length,0⟩ (Tr.types cols args)
def Tr.types (cols:List uk):List Tr→List (Int×Int)
 | []=> []
 | t::ts=>t.type cols::Tr.types cols ts
end
theorem Tr.qN (cols:List uk):∀ts,(Tr.types cols ts).length=ts.length
 | []=>by simp[Tr.types]
 | t::ts=>by simp[Tr.types,Tr.qN cols ts]
theorem qO:∀(l:List (Ex×(Int×Int))),(∀a∈l,a.2.2=0)∨∃pre bad post,l=pre++bad::post∧(∀a∈pre,a.2.2=0)∧bad.2.2≠0
 | []=> .inl (by simp)
 | a::l=>by
   by_cases h:a.2.2=0
   ·rcases qO l with h1 |⟨pre,bad,post,h1,h2,h3⟩
    ·exact .inl (by intro x hx;rcases List.mem_cons.1 hx with rfl | hx;exact h;exact h1 x hx)
    ·refine .inr ⟨a::pre,bad,post,by rw[h1];rfl,?_,h3⟩;intro x hx;rcases List.mem_cons.1 hx with rfl | hx
     ·exact h
     ·exact h2 x hx
   ·exact .inr ⟨[],a,l,rfl,by simp,h⟩
theorem sX:∀ {l:List (Int×Int)},(∀a∈l,a.2=0)→ic l=0
 | [],_=>rfl
 | a::l,h=>by unfold ic;rw[if_neg (by simp[h a (by simp)])];exact sX fun x hx=>h x (by simp[hx])
theorem xp:∀ {pre post:List (Int×Int)} {bad:Int×Int},(∀a∈pre,a.2=0)→bad.2≠0→ic (pre++bad::post)=bad.2
 | [],post,bad,_,hb=>by unfold ic;simp[hb]
 | a::pre,post,bad,h,hb=>by show ic (a::(pre++bad::post))=_;unfold ic;rw[if_neg (by simp[h a (by simp)])];exact xp (fun x hx=>h x (by simp[hx])) hb
section
variable (cols:List uk) (CA:Option Addr) (cc:Nat)
theorem IW (op:Int)(xv:Val)(name:ByteArray)(width:Int)(A:Option Addr)(c:Nat)(args:List (Ex×(Int×Int)))(w:World)(hl:args.length≤1599289640356)(hA:RE w w.heap.size A (args.map (·.1)))
  (hC:RC w w.heap.size CA cols) (gR:cols.length≤140737488355328) (hE:∀a∈args,um w (.slice CA cols.length cc) a.1 a.2.1 a.2.2):
  Calls Tryz.prog 53 #[.agg #[.int .u8 op,.int .u8 xv.k,.int .i64 xv.n,.string xv.s,.string name,.int .i64 width,.slice A args.length c],.slice CA cols.length cc] w fun en w'=>en=.returned (.tuple #[.int .u8 (mf cols ⟨op,xv,name,width,none,args.length,0⟩ (args.map (·.2))).1,.int .i64 (mf cols ⟨op,xv,name,width,none,args.length,0⟩ (args.map (·.2))).2])∧Below w.heap.size w w':=by
 rcases qO args with h0 |⟨pre,bad,post,rfl,Mr,FO⟩
 ·have hf:ic (args.map (·.2))=0:=sX fun a ha=>by obtain⟨z,hz,rfl⟩:=List.mem_map.1 ha;exact h0 z hz
  by_cases h2:op=2∧args=[]
  ·obtain⟨rfl,rfl⟩:=h2;have k:=IV xv name width A c cols CA cc w hC gR;have e:mf cols ⟨2,xv,name,width,none,0,0⟩ []=jX cols name:=by unfold mf;rw[if_neg (by simp[ic]),if_neg (by simp[bJ]),if_neg (by simp),if_pos (by rfl)]
   show Calls _ _ _ _ fun en w'=>en=.returned (.tuple #[.int .u8 (mf cols ⟨2,xv,name,width,none,0,0⟩ []).1,.int .i64 (mf cols ⟨2,xv,name,width,none,0,0⟩ []).2])∧_
   rw[e];exact k
  ·have k:=IM op xv name width A c (.slice CA cols.length cc) (args.map fun a=>(a.1,a.2.1)) (by
    by_cases ho:op=2
    ·right;intro h;exact h2 ⟨ho,by simpa using h⟩
    ·exact .inl ho) w (by simpa using hl) (by simpa [Function.comp_def] using hA) (fun a ha=>by
    obtain⟨z,hz,rfl⟩:=List.mem_map.1 ha
    have:=hE z hz
    rw[h0 z hz] at this
    exact this)
   rw[List.length_map] at k;have hm:(args.map fun a=>(a.1,a.2.1)).map (·.2)=(args.map (·.2)).map (·.1):=by simp[Function.comp_def]
   rw[hm] at k;have e:mf cols ⟨op,xv,name,width,none,args.length,0⟩ (args.map (·.2))=pC ⟨op,xv,name,width,A,args.length,c⟩ ((args.map (·.2)).map (·.1)):=by
    have WR:bJ ⟨op,xv,name,width,A,args.length,c⟩=bJ ⟨op,xv,name,width,none,args.length,0⟩:=rfl;unfold mf pC;rw[if_neg (by rw[hf];simp),WR];dsimp only;by_cases Mp:bJ ⟨op,xv,name,width,none,args.length,0⟩=0
    ·simp only[Mp,ne_eq,not_true_eq_false,↓reduceIte];by_cases h1:op=1
     ·simp only[h1,↓reduceIte]
     ·simp only[h1,↓reduceIte];rw[if_neg];intro ho;exact h2 ⟨ho,xo (l:=args) Mp ho⟩
    ·simp only[Mp,ne_eq,not_false_eq_true,↓reduceIte]
   rw[e];exact k
 ·have I0:=hE bad (by simp);have k:=IU op xv name width A (pre++bad::post).length c (.slice CA cols.length cc) (pre.map fun a=>(a.1,a.2.1)) bad.1 bad.2.1 bad.2.2 (post.map (·.1)) (by simp;omega) w (by simp at hl ⊢;omega) hl (by simpa [Function.comp_def] using hA) (fun a ha=>by
   obtain⟨z,hz',rfl⟩:=List.mem_map.1 ha
   have:=hE z (by simp[hz'])
   rw[Mr z hz'] at this
   exact this) I0 FO
  have hf:ic ((pre++bad::post).map (·.2))=bad.2.2:=by rw[List.map_append,List.map_cons];exact xp (fun a ha=>by obtain⟨z,hz',rfl⟩:=List.mem_map.1 ha;exact Mr z hz') FO
  have e:mf cols ⟨op,xv,name,width,none,(pre++bad::post).length,0⟩ ((pre++bad::post).map (·.2))=(0,bad.2.2):=by unfold mf;rw[if_pos (by rw[hf];exact FO),hf]
  rw[e];exact k
mutual
theorem Tr.Ev (gR:cols.length≤140737488355328):∀(t:Tr) (y:Ex) (w:World),t.ok→t.at_ w (Old w) y→RC w w.heap.size CA cols→um w (.slice CA cols.length cc) y (t.type cols).1 (t.type cols).2
 | .mk op v name width args,y,w,aS,hat,hC=>by
   intro W hb;have jY:=hat.later hb;unfold Tr.at_ at jY;obtain⟨h1,h2,h3,h4,h5,ys,h6,h7⟩:=jY;unfold Tr.ok at aS;obtain⟨l,dG,hl2,wP⟩:=Tr.Ag gR args ys W aS.2.2.2.2.2 h7 (hC.later hb);obtain⟨lO,yv,ft,dL,yA,yn,yc⟩:=y;dsimp only at h1 h2 h3 h4 h5 h6;subst h1 h2 h3 h4 h5;have hlen:l.length=args.length:=by
    have:(l.map (·.2)).length=(Tr.types cols args).length:=by rw[hl2]
    rw[List.length_map,Tr.qN] at this;exact this
   have k:=IW cols CA cc lO yv ft dL yA yc l W (by rw[hlen];exact aS.2.1) (by rw[dG];exact h6.old) (hC.later hb) gR wP;rw[hl2,hlen] at k;unfold Tr.type;exact k
theorem Tr.Ag (gR:cols.length≤140737488355328):∀(ts:List Tr) (ys:List Ex) (w:World),Tr.iW ts→Tr.bL w (Old w) ts ys→RC w w.heap.size CA cols→∃l:List (Ex×(Int×Int)),l.map (·.1)=ys∧l.map (·.2)=Tr.types cols ts∧∀a∈l,um w (.slice CA cols.length cc) a.1 a.2.1 a.2.2
 | [],ys,w,_,hat,_=>by unfold Tr.bL at hat;subst hat;exact⟨[],rfl,by simp[Tr.types],by simp⟩
 | t::ts,ys,w,aS,hat,hC=>by
   unfold Tr.bL at hat;unfold Tr.iW at aS;obtain⟨y,ys',rfl,h2,h3⟩:=hat;obtain⟨l,dG,hl2,wP⟩:=Tr.Ag gR ts ys' w aS.2 h3 hC;refine⟨(y,t.type cols)::l,by simp[dG],by simp[hl2,Tr.types],fun a ha=>?_⟩;rcases List.mem_cons.1 ha with rfl | ha
   ·exact Tr.Ev gR t y w aS.1 h2 hC
   ·exact wP a ha
end
end
theorem FP (w:World)(g:Nat)(es:Array MapEntry)(c:Nat)(hg:w.heap[g]?=some (.map es c))(k:Int)(i:Nat)(v:Value)(hf:Instr.findNow (.int .u8) (.int .u8 k) es.toList 0=some (some (i,v))):
  (Instr.lookup 94 (.map (some g)) (.int .u8 k) false).run Tryz.prog w=.ok v w:=by
 unfold Instr.lookup;simp only[Sem.run_bind,run_underlying Tryz.underlying94,Result.andThen_ok,MapKept.run_getObj_map hg,uK,Instr.findKey,run_underlying Tryz.underlying5,hf,Sem.run_pure];rfl
theorem IX (w:World)(g:Nat)(es:Array MapEntry)(c:Nat)(hg:w.heap[g]?=some (.map es c))(k:Int)(hf:Instr.findNow (.int .u8) (.int .u8 k) es.toList 0=some none):
  (Instr.lookup 94 (.map (some g)) (.int .u8 k) false).run Tryz.prog w=.ok (.agg kF) w:=by
 unfold Instr.lookup;simp only[Sem.run_bind,run_underlying Tryz.underlying94,Result.andThen_ok,MapKept.run_getObj_map hg,uK,Instr.findKey,run_underlying Tryz.underlying5,hf,Sem.run_pure,Er];rfl
def Ew (B gx:Nat)(op:Int):Nat→World→Value→Prop
 | 0=>fun w v=>Found w op v
 | 1=>fun _ v=>v=.pointer (some ⟨gx,0,none⟩)
 | 2=>fun _ v=>v=.int .u8 op
 | 3=>fun w v=>∃o,v=.agg o∧pU w op o
 | 4=>fun w v=>∃g,v=.pointer (some ⟨g,0,none⟩)∧B≤g∧∃cs,ah w g 76 cs∧cs.size=6
 | _=>fun _ _=>True
theorem Ah (B gx:Nat)(op:Int)(i:Nat)(w w':World)(v:Value)(h:Ew B gx op i w v)(hr:FR op B w w'):Ew B gx op i w' v:=by
 unfold Ew at*;split at h
 ·exact h.fr hr
 ·exact h
 ·exact h
 ·obtain⟨o,h1,h2⟩:=h;exact⟨o,h1,h2.fr hr⟩
 ·obtain⟨g,h1,h2,cs,h3,h4⟩:=h;refine⟨g,h1,h2,?_⟩;rcases hr.blk _ _ _ h3 with h5 |⟨_,_,o,h5,h6⟩
  ·exact⟨cs,h5,h4⟩
  ·obtain⟨a,wa,gi,al,nu,d,rfl,_⟩:=h5.shape;exact⟨_,h6,rfl⟩
 ·trivial
def IY (B:Nat)(op:Int)(i:Nat)(w:World)(ρ:Operand→Value):Prop:=
 i=5→∃g o,ρ (.tmp 3)=.pointer (some ⟨g,0,none⟩)∧B≤g∧pU w op o∧ah w g 76 o
theorem Ai (B:Nat)(op:Int) {w w':World} {ρ ρ':Operand→Value}(i:Nat)(h:IY B op i w ρ)(hr:FR op B w w')(he:i=5→ρ' (.tmp 3)=ρ (.tmp 3)):IY B op i w' ρ':=by
 intro hi;obtain⟨g,o,h1,h2,h3,h4⟩:=h hi;rcases hr.blk _ _ _ h4 with h5 |⟨_,_,o',h6,h7⟩
 ·exact⟨g,o,(he hi).trans h1,h2,h3.fr hr,h5⟩
 ·exact⟨g,o',(he hi).trans h1,h2,h6,h7⟩
def rO (w:World)(y:Ex)(b:Bool):Prop:=∀W,Below w.heap.size w W→Calls Tryz.prog 29 #[.agg #[.int .u8 y.op,.int .u8 y.v.k,.int .i64 y.v.n,.string y.v.s,.string y.name,.int .i64 y.width,.slice y.A y.n y.c]] W fun e w'=>e=.returned (.bool b)∧Below W.heap.size W w'
theorem IZ (y:Ex)(b:Bool)(w:World)(h:rO w y b)(W:World)(hW:Below w.heap.size w W):Calls Tryz.prog 56 #[.agg #[.int .u8 y.op,.int .u8 y.v.k,.int .i64 y.v.n,.string y.v.s,.string y.name,.int .i64 y.width,.slice y.A y.n y.c]] W fun e w'=>e=.returned (.bool (!b))∧Below W.heap.size W w':=by
 have H:=hid h;clear h;have bb:=aa W (.cells #[.int .u8 y.op,.int .u8 y.v.k,.int .i64 y.v.n,.string y.v.s,.string y.name,.int .i64 y.width,.slice y.A y.n y.c] 34);go_enter Tryz.func56,Tryz.ntmps56;go_wp2_with fail;refine(H.out _ (ae.then hW bb)).mono ?_;rintro e w1 ⟨rfl,b1⟩;have hb:=ae.then bb b1
 clear bb b1;go_wp2_with fail;go_ret;exact⟨rfl,hb⟩
def lQ:List (Ex×Bool)→Bool
 | []=>true
 | a::l=>a.2 && lQ l
def Ms (all:Bool)(w:World)(e:Ending)(w':World):Prop:=∃i:Int,e=.returned (.int .i64 i)∧(all=true→i= -1)∧(all=false→0≤i)∧Below w.heap.size w w'
theorem wQ (A:Option Addr)(c:Nat)(args:List (Ex×Bool))(w:World)(hl:args.length≤1599289640356)(hA:RE w w.heap.size A (args.map (·.1)))(hE:∀a∈args,rO w a.1 a.2):
  Calls Tryz.prog 60 #[.slice A args.length c,.func (.func 56) #[] #[]] w (Ms (lQ args) w):=by
 have HA:=hid hA;have HE:=hid hE;clear hA hE;go_enter Tryz.func60,Tryz.ntmps60;go_wp2_with fail;go_loopw [5,8] (fun _ i wr=>∃k:Nat,k≤args.length∧i=.int .i64 k∧lQ args=lQ (args.drop k)∧Below w.heap.size w wr) (fun _ i _=>args.length - (intOf i).toNat);case atStart=>exact⟨0,Nat.zero_le _,rfl,rfl,Below.refl _ _⟩
 case round=>
  obtain⟨k,hk,rfl,hp,hb⟩:=hrel;have HP:=hid hp;clear hp;by_cases hlt:k < args.length
  ·obtain⟨b,off,rfl,FM,hex⟩:=(HA.out.below hb).at_ (show k <(args.map (·.1)).length by simpa using hlt);have pD:(args.map (·.1))[k]'(by simpa using hlt)=args[k].1:=by simp
   rw[pD] at hex;clear pD;have mF:=HE.out args[k] (List.getElem_mem hlt);have HD:=hid (show args.drop k=args[k]::args.drop (k+1)from List.drop_eq_getElem_cons hlt);generalize args[k]=yb at*;obtain⟨y,sb⟩:=yb;dsimp only at*;unfold bp at hex;go_wp2_with fail;refine(IZ y sb w mF _ hb).mono ?_;rintro e w1 ⟨rfl,b1⟩;have hb1:=ae.then hb b1
   clear hex mF b1 hb;cases sb
   ·go_wp2_with fail;go_ret;exact⟨k,rfl,fun h=>by rw[HP.out,HD.out] at h;exact absurd h (by simp[lQ]),fun _=>by omega,hb1⟩
   ·go_wp2_with fail;go_roundw;case rel=>refine⟨k+1,hlt,by go_num,?_,hb1⟩;rw[HP.out,HD.out];simp[lQ]
    case measure=>simp[intOf];omega
  ·go_wp2_with fail;go_ret;exact⟨-1,rfl,fun _=>rfl,fun h=>by rw[HP.out,List.drop_eq_nil_of_le (by omega)] at h;exact absurd h (by simp[lQ]),hb⟩
theorem rP (A:Option Addr)(c:Nat)(args:List (Ex×Bool))(w:World)(hl:args.length≤1599289640356)(hA:RE w w.heap.size A (args.map (·.1)))(hE:∀a∈args,rO w a.1 a.2):
  Calls Tryz.prog 36 #[.slice A args.length c,.func (.func 56) #[] #[]] w fun e w'=>e=.returned (.bool (!lQ args))∧Below w.heap.size w w':=by
 have hi:=wQ A c args w hl hA hE;clear hA hE;go_enter Tryz.func36,Tryz.ntmps36;go_wp2_with fail;refine hi.mono ?_;rintro e w1 ⟨i,rfl,h1,h2,b1⟩;cases ha:lQ args
 ·have h3:0≤i:=h2 ha;have t1:=decide_eq_true h3;clear h1 h2 hi;go_wp2_with fail;go_ret;exact⟨by rw[ha];rfl,b1⟩
 ·have h3:i= -1:=h1 ha;clear h1 h2 hi;subst h3;go_wp2_with fail;go_ret;exact⟨by rw[ha];rfl,b1⟩
def qP (op:Int):Bool:=(gL op && lN op==2)|| decide (0≤fD op)
theorem pU.gives {w:World} {op a wa gi:Int} {al nu:Bool} {d:Value}(h:pU w op (ey a wa gi al nu d)):(gi==2)=(gL op && lN op==2):=by
 rcases h with ⟨h1,h2⟩|⟨h1,h2⟩
 ·have h3:3≤op∧op≤20:=by simpa [gL] using h1
  have:=h2.fields.2.1;rw[show((op.toNat:Nat):Int)=op by omega] at this;rw[h1,this];rfl
 ·rw[h1];simp[ey,kF] at h2;rw[h2.2.2.1];rfl
theorem FQ (op:Int)(v:Val)(name:ByteArray)(width:Int)(A:Option Addr)(c:Nat)(args:List (Ex×Bool))(w:World)(hl:args.length≤1599289640356)(hA:RE w w.heap.size A (args.map (·.1)))(hE:∀a∈args,rO w a.1 a.2):
  Calls Tryz.prog 29 #[.agg #[.int .u8 op,.int .u8 v.k,.int .i64 v.n,.string v.s,.string name,.int .i64 width,.slice A args.length c]] w fun e w'=>e=.returned (.bool (!qP op && lQ args))∧Below w.heap.size w w':=by
 have HA:=hid hA;have HE:=hid hE;clear hA hE;go_enter Tryz.func29,Tryz.ntmps29;go_wp2_with fail;have hX:=ah.new w 34 #[.int .u8 op,.int .u8 v.k,.int .i64 v.n,.string v.s,.string name,.int .i64 width,.slice A args.length c];have hB:=aa w (.cells #[.int .u8 op,.int .u8 v.k,.int .i64 v.n,.string v.s,.string name,.int .i64 width,.slice A args.length c] 34);have hgx:=hX.lt;generalize w.alloc (.cells #[.int .u8 op,.int .u8 v.k,.int .i64 v.n,.string v.s,.string name,.int .i64 width,.slice A args.length c] 34)=W at*;refine uM 6 (FR op W.heap.size) (FR.refl _ _) (fun _ _ _=>FR.trans) (fun u=>?_) (Ew W.heap.size w.heap.size op) (IY W.heap.size op) ?_ (fun i u u' v h hr=>Ah _ _ _ _ _ _ _ h hr) (by kernel_rfl) (by kernel_rfl) (by kernel_rfl) ?_ ?_
 ·exact⟨(Below.refl _ _).drew,fun g t cs h=> .inl h,fun g es c h=>h⟩
 ·intro i o u u' ρ ρ' hi hu hr hk;refine Ai _ _ i hu hr fun e=>?_
  subst e;simp only[List.take_succ_cons,List.take_zero] at hi hk;refine hk 4 ?_ _ 3 rfl rfl;injection hi with hi;subst hi;decide
 ·simp only[List.take_succ_cons,List.take_zero];refine⟨?_,?_,?_,?_,?_,?_,trivial⟩
  ·intro ρ w1 hc hL hr;have e1:=hc.func 54;refine lZ (f:=54) (args:= #[]) (w':=w1) (by simp[go_sem,e1]) ?_;refine(xn op w1).mono ?_;rintro e w2 ⟨v,he,hf,hb⟩;exact⟨v,he,FR.later hb hL.below.size,hf,fun h=>by cases h⟩
  ·intro ρ w1 hc hL hr;have h1:ρ (.tmp 1)=.pointer (some ⟨w.heap.size,0,none⟩):=hr.1;exact cJ (w':=w1) (by simp[go_sem,h1]) ⟨FR.refl _ _ _,rfl,fun h=>by cases h⟩
  ·intro ρ w1 hc hL hr;have h1:ρ (.tmp 5)=.pointer (some ⟨w.heap.size,0,none⟩):=hr.1;have c0:=(hX.below hL.below hgx).cell 0;simp only[List.getElem?_toArray,List.getElem?_cons_zero] at c0;exact cJ (w':=w1) (by simp[go_sem,h1,c0]) ⟨FR.refl _ _ _,rfl,fun h=>by cases h⟩
  ·intro ρ w1 hc hL hr;obtain⟨g,es,h1,hg,PO⟩:Found w1 op (ρ (.tmp 4)):=hr.1;have h2:ρ (.tmp 6)=.int .u8 op:=hr.2.1;rcases PO with ⟨ho,i,o,PQ,hoi⟩|⟨ho,PQ⟩
   ·have hl:=FP _ _ _ _ hg op i _ PQ;exact cJ (v:=.agg o) (w':=w1) (by simp[execOp,h1,h2,hl]) ⟨FR.refl _ _ _,⟨o,rfl,.inl ⟨ho,hoi⟩⟩,fun h=>by cases h⟩
   ·have hl:=IX _ _ _ _ hg op PQ;exact cJ (v:=.agg kF) (w':=w1) (by simp[execOp,h1,h2,hl]) ⟨FR.refl _ _ _,⟨kF,rfl,.inr ⟨ho,rfl⟩⟩,fun h=>by cases h⟩
  ·intro ρ w1 hc hL hr;refine cJ (w':=w1.alloc (.cells #[.int .i64 0,.int .u8 0,.int .u8 0,.bool false,.bool false,.nilFunc] 76)) (by simp[go_sem]) ⟨FR.later (aa w1 _) hL.below.size,⟨w1.heap.size,rfl,hL.below.size,_,ah.new w1 _ _,rfl⟩,fun h=>by cases h⟩
  ·intro ρ w1 hc hL hr;obtain⟨g,h1,II,cs,hcs,hsz⟩:∃g,ρ (.tmp 3)=.pointer (some ⟨g,0,none⟩)∧W.heap.size≤g∧∃cs,ah w1 g 76 cs∧cs.size=6:=hr.1;obtain⟨o,h2,ho⟩:∃o,ρ (.tmp 7)=.agg o∧pU w1 op o:=hr.2.1;obtain⟨a,wa,gi,al,nu,d,rfl,_,hd⟩:=ho.shape;obtain⟨f1,f2⟩:=dt hcs hsz II ho;have IJ:=pV hcs hsz a wa gi al nu d;have c':∀i,(hi:i < 6)→w1.cell? ⟨g,i,none⟩=some (cs[i]'(by omega)):=fun i hi=>(hcs.cell i).trans (Array.getElem?_eq_getElem (by omega))
   have fz:=hcs.frozen;have c0:=c' 0 (by omega);have c1:=c' 1 (by omega);have c2:=c' 2 (by omega);have c3:=c' 3 (by omega);have c4:=c' 4 (by omega);have c5:=c' 5 (by omega);refine uI (w':=nK w1 g a wa gi al nu d) ?_ ⟨f1,trivial,fun _=>⟨g,_,h1,II,f2,IJ⟩⟩;unfold nK;rcases hd with rfl |⟨F,C,rfl⟩
   ·simp[go_sem,h1,h2,ey,c0,c1,c2,c3,c4,c5,fz]
   ·simp[go_sem,h1,h2,ey,c0,c1,c2,c3,c4,c5,fz]
 ·intro w1 hL;simp only[List.take_succ_cons,List.take_zero,List.drop_succ_cons,List.drop_zero];rintro _ ⟨gm,es,rfl,WD,PO⟩ _ rfl _ rfl _ ⟨o3,rfl,h3⟩ _ ⟨g4,rfl,hg4,cs,hcs,hsz⟩ hu;obtain⟨g,o,hg,II,ho,ui⟩:=hu 5 _ rfl rfl;have cU:g4=g:=by simpa [Act.put,Act.eval] using hg
  subst cU;clear hu hg hcs hsz cs PO WD es h3 hg4;replace hX:=hX.below hL.below hgx;replace hB:=hB.trans (hL.below.mono hB.size);clear hL hgx;obtain⟨a,wa,gi,al,nu,d,rfl,_,_⟩:=ho.shape;have Tq:=hid ho.gives;have x0:=hX.cell 0;have x6:=hX.cell 6;have o2:=ui.cell 2;unfold ey at o2;simp only[List.getElem?_toArray,List.getElem?_cons_zero,List.getElem?_cons_succ] at x0 x6 o2;clear ho;simp only[dr,Act.put,List.setIfInBounds_toArray,List.set_cons_succ,List.set_cons_zero];cases hg2:(gi==2)
  ·have HR:=hid (show qP op=decide (0≤fD op) by unfold qP;rw[← Tq.out,hg2];rfl);go_wp2_with fail;refine(eF op _).mono ?_;rintro e w2 ⟨rfl,rfl⟩;by_cases ha:0≤fD op
   ·have CF:=hid (HR.out.trans (decide_eq_true ha));have t1:=decide_eq_true ha;go_wp2_with fail;go_ret;exact⟨by rw[CF.out];rfl,hB⟩
   ·have CF:=hid (HR.out.trans (decide_eq_false ha));have t1:=decide_eq_false ha;go_wp2_with fail;refine(rP A c args _ hl ((HA.out.below hB).more hB.size) (fun z hz W hW=>HE.out z hz W (ae.then hB hW))).mono ?_;rintro e w2 ⟨rfl,b2⟩;go_wp2_with fail;go_ret;exact⟨by rw[CF.out];simp,ae.then hB b2⟩
  ·have HR:=hid (show qP op=true by unfold qP;rw[← Tq.out,hg2];rfl);go_wp2_with fail;go_ret;exact⟨by rw[HR.out];rfl,hB⟩
mutual
def Tr.safe:Tr→Bool
 | .mk op v name width args=> !qP op && Tr.sY args
def Tr.sY:List Tr→Bool
 | []=>true
 | t::ts=>t.safe && Tr.sY ts
end
mutual
theorem Tr.Ey:∀(t:Tr) (y:Ex) (w:World),t.ok→t.at_ w (Old w) y→rO w y t.safe
 | .mk op v name width args,y,w,aS,hat=>by
   intro W hb;have jY:=hat.later hb;unfold Tr.at_ at jY;obtain⟨h1,h2,h3,h4,h5,ys,h6,h7⟩:=jY;unfold Tr.ok at aS;obtain⟨l,dG,hl2,wP⟩:=Tr.Aj args ys W aS.2.2.2.2.2 h7;obtain⟨lO,yv,ft,dL,yA,yn,yc⟩:=y;dsimp only at h1 h2 h3 h4 h5 h6;subst h1 h2 h3 h4 h5;have hlen:l.length=args.length:=by
    have:(l.map (·.1)).length=ys.length:=by rw[dG]
    rw[List.length_map,h7.length] at this;exact this
   have k:=FQ lO yv ft dL yA yc l W (by rw[hlen];exact aS.2.1) (by rw[dG];exact h6.old) wP;rw[hl2,hlen] at k;unfold Tr.safe;exact k
theorem Tr.Aj:∀(ts:List Tr) (ys:List Ex) (w:World),Tr.iW ts→Tr.bL w (Old w) ts ys→∃l:List (Ex×Bool),l.map (·.1)=ys∧lQ l=Tr.sY ts∧∀a∈l,rO w a.1 a.2
 | [],ys,w,_,hat=>by unfold Tr.bL at hat;subst hat;exact⟨[],rfl,by simp[Tr.sY,lQ],by simp⟩
 | t::ts,ys,w,aS,hat=>by
   unfold Tr.bL at hat;unfold Tr.iW at aS;obtain⟨y,ys',rfl,h2,h3⟩:=hat;obtain⟨l,dG,hl2,wP⟩:=Tr.Aj ts ys' w aS.2 h3;refine⟨(y,t.safe)::l,by simp[dG],by simp[hl2,Tr.sY,lQ],fun a ha=>?_⟩;rcases List.mem_cons.1 ha with rfl | ha
   ·exact Tr.Ey t y w aS.1 h2
   ·exact wP a ha
end
end Go.Proofs.YtfmbcoeallmnnaaGreatDoor
