/- Parts of the proof. -/
import Derived.Laws.CopyOwn
import Derived.Test.YtehhdlgjfdnafaaGreatDoorXF35
import Derived.Test.YtehhdlgjfdnafaaGreatDoorXF37
import Derived.Test.YtehhdlgjfdnafaaGreatDoorXF38
import Derived.Test.YtehhdlgjfdnafaaGreatDoorXF39
namespace Go.Proofs.YtehhdlgjfdnafaaGreatDoor
set_option maxHeartbeats 90000000
set_option maxRecDepth 100000
open Go.Lib (hid)
open Go.ChangeShapes Go.WideShapes Go.ChangeAt Go.RowKit Go.Shelf List
set_option linter.unusedVariables false
set_option linter.unusedSimpArgs false
def kS:St:= { kind:=8,query:= { items:=[(.mk 5 ⟨0,0,⟨#[]⟩⟩ ⟨#[]⟩ 0 [.mk 2 ⟨0,0,⟨#[]⟩⟩ ⟨#[97]⟩ 0 [],.mk 7 ⟨0,0,⟨#[]⟩⟩ ⟨#[]⟩ 0 [.mk 1 ⟨2,1,⟨#[]⟩⟩ ⟨#[]⟩ 0 [],.mk 1 ⟨2,2,⟨#[]⟩⟩ ⟨#[]⟩ 0 []]],⟨#[120]⟩)],aP:=⟨#[116]⟩,aS:=[.mk 4 ⟨0,0,⟨#[]⟩⟩ ⟨#[]⟩ 0 [.mk 18 ⟨0,0,⟨#[]⟩⟩ ⟨#[]⟩ 0 [.mk 2 ⟨0,0,⟨#[]⟩⟩ ⟨#[98]⟩ 0 []]]] } }
theorem ane:JB kcQ=kS:=by kernel_rfl
theorem abX:zI kS=([83,69,76,69,67,84,32,97,32,43,32,40,49,32,42,32,50,41,32,65,83,32,120,32,70,82,79,77,32,116,32,87,72,69,82,69,32,78,79,84,32,40,98,32,73,83,32,78,85,76,76,41],0):=by kernel_rfl
theorem abY:kS.mB 1048576:=by refine⟨?_,?_,?_,?_,?_,?_,?_,?_,?_,?_,?_,?_,?_,⟨?_,?_,?_,?_,?_,?_,?_,?_⟩,?_,?_⟩<;> simp[kS,Tr.fine,Tr.sU,Tr.thin,Tr.iP,Val.Ok,Tr.aG,Tr.nodes,St.exprs,Qu.exprs,aV] <;> decide
def kE:Ex:=⟨1,⟨2, -1,ByteArray.empty⟩,ByteArray.empty,0,none,0,0⟩
theorem abZ:ajK (.mk 1 ⟨2, -1,ByteArray.empty⟩ ByteArray.empty 0 [])=([],21):=by kernel_rfl
theorem Sb:(Tr.mk 1 ⟨2, -1,ByteArray.empty⟩ ByteArray.empty 0 []).fine/\(Tr.mk 1 ⟨2, -1,ByteArray.empty⟩ ByteArray.empty 0 []).thin:=by simp[Tr.fine,Tr.sU,Tr.thin,Tr.iP,Val.Ok]
theorem MJ (w:World):Calls Tryz.prog 18 #[] w λ e w'=>∃y,e=.returned (mK y)/\kS.at_ w' (eI 0 w') y/\Below w.heap.size w w':=by
 have hB:=aa w (.cells (cd {}).toArray 34);have HB:=hid hB;have K0:=av.new w 34 (cd {}).toArray;go_enter Tryz.func18,Tryz.ntmps18;go_upto_region 1 with fail;change Code.wp _ _ _ _ (w.alloc (.cells (cd {}).toArray 34));generalize w.alloc _=W at*;obtain⟨gz,hgz⟩:∃gz,gz=w.heap.size:=⟨_,rfl⟩;rw[<- hgz] at K0 ⊢;have HZ:=hid hgz;have HK:=hid K0;clear hgz hB K0;go_wp2_with fail;refine(abb W).mono ?_;rintro e w1 ⟨qy,rfl,hq,hb⟩;obtain⟨y,hy⟩:∃y:gT,y= { kind:=8,query:=qy }:=⟨_,rfl⟩;have hat:kS.at_ w1 (eI W.heap.size w1) y:=by rw[hy,<- ane];exact RB hq
 rw[<- hy];clear hq hy;obtain⟨cs,hcs⟩:∃cs,cs=(cd y).toArray:=⟨_,rfl⟩;have dS:=hid (show(Tryz.prog.info? 34).map (·.size)=some cs.size by rw[hcs];exact kD y);have mF:=hid (show cK.size=cs.size by rw[hcs,bB];exact bB _);have jN:=hid (show cs.all (·.oneCell')=true by rw[hcs];exact cW _);have HCS:=hid hcs;unfold mK;rw[<- hcs];clear hcs;have jx:=hid (St.at_.keep (eJ (aa w1 (.cells cs 34))) hat);have HLT:=hid (show gz < W.heap.size from HK.out.lt);have Rs:=hid ((HK.out.later hb).later (aa w1 (.cells cs 34)));have vT:=hid (af.then (af.then HB.out hb) (aa w1 (.cells cs 34)));have HBL:=hid (av.new w1 34 cs);clear hat hb HK HB;go_upto_region 2 with (first
  |(refine wpList_store_row rfl 34 (.tmp 1) (.tmp 6) rfl w1.heap.size cs rfl rfl 34 cK (av.new w1 34 cK) dS.out mF.out jN.out ?_
    rw[iG]))
 change Code.wp _ _ _ _ (w1.alloc (.cells cs 34));generalize w1.heap.size=q1 at*;generalize (World.alloc w1 _)=W2 at*;go_wp2_with (first
  |(refine wpList_load_row rfl 34 (.tmp 1) rfl q1 rfl 34 cs (0,0) _ HBL.out Tryz.underlying34 rfl dS.out ?_)
  |(refine wpList_store_row rfl 34 (.tmp 0) (.tmp 9) rfl gz cs rfl rfl 34 cK Rs.out dS.out mF.out jN.out ?_))
 exact bodyPost_ret (v:=.agg cs) (results_cell_row Tryz.results18 _ _ gz 34 _ (0,0) _ rfl (av.row Rs.out cs) Tryz.underlying34 rfl dS.out) rfl ⟨y,by rw[HCS.out];rfl,St.at_.keep (λ b hb=>⟨λ _=>rfl,Nat.zero_le _,hb.2⟩) (St.at_.keep (iZ W2 HLT.out cs) jx.out),below_setRow vT.out (Nat.le_of_eq HZ.out.symm) cs⟩
theorem qu (w:World)(hE:dM w):Calls Tryz.prog 9 #[] w λ e w'=>e=.returned (.bool true)/\Below w.heap.size w w':=by have HE:=hid hE;clear hE;go_enter Tryz.func9,Tryz.ntmps9;go_wp2_with fail;refine(MJ w).mono ?_;rintro e w1 ⟨y,rfl,hat,b1⟩;have jx:=hid hat;have pQ:=hid b1;have wX:=hid (show dM w1 from⟨HE.out.lex.later b1,HE.out.val.later b1⟩);clear hat b1;go_wp2_with fail;refine(DB wX.out (λ b hb=>hb.2) jx.out abY Tab).mono ?_;rintro e w2 ⟨rfl,b2⟩;have vT:=hid (af.then pQ.out b2);have zq:=hid (show dM w2 from⟨wX.out.lex.later b2,wX.out.val.later b2⟩);clear b2;rw[abX];unfold UL strOf;dsimp only;go_wp2_with fail;refine(Pu zq.out (S:=λ _=>False) (λ b hb=>hb.elim) (t:=.mk 1 ⟨2, -1,ByteArray.empty⟩ ByteArray.empty 0 []) (y:=kE) ⟨rfl,rfl,rfl,rfl,rfl,[],.inl rfl,rfl⟩ Sb.1 Sb.2 Tab).mono ?_;rintro e w3 ⟨rfl,b3⟩;have IW:=hid (af.then vT.out b3);clear b3;rw[abZ];unfold UL strOf;dsimp only;go_wp2_with fail;go_ret;exact⟨rfl,IW.out⟩
variable{P:Program}{ops:Array Oper}{rest:List Oper}{o:Oper}{a:Act}{w:World}{Q:Exit->Act->World->Prop}
theorem rM(hw:Region.wanted o (yielded ops a.tmps)=true)(ty:TypeId)(x:Operand)(ho:o.op=.load ty x)
  (g:Nat) (hx:a.eval x=.pointer (some ⟨g,0,none⟩)) (t:TypeId) (cs:Array Value) (fr:Nat×Nat) (d:TypeDesc) (hg:w.heap[g]?=some (.cells cs t fr))
  (hu:P.underlying ty=some d) (hd:(match d with | .struct _ | .array _ _=>true | _=>false)=true) (hi:(P.info? ty).map (·.size)=some cs.size)
  (h:wpList P ops Q rest (a.put o.dst (.agg cs)) w):wpList P ops Q (o::rest) a w:=
 wpList_step λ K hK=>by simp only[hw,if_true];exact wp_load_row ty x ho g hx t cs fr d hg hu hd hi (hK _ _ h)
variable{s:St}
theorem Wt:s.exprs.length=s.rows.flatten.length+s.bF.length+s.aS.length+(s.query.items.length+s.query.aS.length+s.query.group.length+s.query.having.length+s.query.order.length):=by simp only[St.exprs,Qu.exprs,length_append,length_map]
variable{m:Nat}
theorem Wu(h:s.mB m)(hm:m<=1048576):s.N8:=by obtain⟨l1,l2,l3,l4,l5,l6,l7⟩:=St.lens h hm;rw[Wt] at l1;refine⟨by omega,by omega,by omega,by omega,oP _ λ t ht=>(h.aS t ht).2,λ r hr=>⟨oP _ λ t ht=>((h.rows r hr).1 t ht).2,Nat.le_trans (h.rows r hr).2 Tab⟩,λ t ht=>(h.bF t ht).2.1,⟨by omega,by omega,by omega,by omega,by omega,by omega,λ t ht=>(h.query.items t ht).2.1,λ t ht=>(h.query.order t ht).2,oP _ λ t ht=>(h.query.aS t ht).2,oP _ λ t ht=>(h.query.group t ht).2,oP _ λ t ht=>(h.query.having t ht).2⟩⟩
theorem R3(h:s.mB m):s.Lxs:=by
 refine⟨h.every.2,h.parts.2,h.a.2,h.b.2,h.aP.1,h.dx.1,λ t ht=>?_,λ n hn=>(h.query.aN n hn).2⟩;unfold St.exprs Qu.exprs at ht;simp only[mem_append,mem_flatten,mem_map] at ht;rcases ht with ((⟨r,hr,ht⟩|⟨x,hx,rfl⟩)| ht)|((((⟨x,hx,rfl⟩| ht)| ht)| ht)|⟨x,hx,rfl⟩)
 ·exact(((h.rows r hr).1) t ht).1
 ·exact(h.bF x hx).1
 ·exact(h.aS t ht).1
 ·exact(h.query.items x hx).1
 ·exact(h.query.aS t ht).1
 ·exact(h.query.group t ht).1
 ·exact(h.query.having t ht).1
 ·exact(h.query.order x hx).1
theorem acH (o:Option aX):(∃t,qc o=(t,0)/\t.length<=4096)\/qc o=([],21)\/qc o=([],2):=by
 cases o with
 | none=>exact .inr (.inl rfl)
 | some t=>
   unfold qc;dsimp only;split
   ·exact .inr (.inr rfl)
   ·exact .inl ⟨t,rfl,by omega⟩
variable{x:Nat}
theorem QK{s:List UInt8} {p:Nat}(h:gw s=.error (p,x)):((x:Int) != 0)=true:=by
 unfold gw at h;split at h
 ·rename_i y hy;injection h with h;subst h;rcases GN hy with rfl | rfl <;> rfl
 ·split at h
  ·exact Zfd
  ·split at h
   ·exact Zfd
   ·split at h
    ·exact Zfd
    ·cases h
variable{d:St}
theorem WT{s:List UInt8} (h:gw s=.ok d):(∃t,zI d=(t,0)/\t.length<=4096/\gw t=.ok d)\/zI d=([],2):=by
 have h1:=WH h;obtain⟨t,ht⟩:=Option.isSome_iff_exists.1 h1;rcases acH (ct d)with ⟨u,h2,h3⟩| h2 | h2
 ·exact .inl ⟨u,h2,h3,QC (R3 (Ij h)) h2⟩
 ·rw[ht] at h2;unfold qc at h2;dsimp only at h2;split at h2 <;> simp at h2
 ·exact .inr h2
theorem printForm_any(q:ByteArray) (hE:dM w):Calls Tryz.prog 5 #[.string q] w λ e w'=>e=.returned (.bool true)/\Below w.heap.size w w':=by
 have QL:=hid (λ W (hW:Below w.heap.size w W)=>(show dM W from⟨hE.lex.later hW,hE.val.later hW⟩));clear hE;have HB0:=hid (Below.refl w.heap.size w);by_cases Lr:2000 < q.size
 ·have t1:decide ((2000:Int)<(q.size:Int))=true:=decide_eq_true Taa;clear Lr;go_enter Tryz.func5,Tryz.ntmps5;go_wp2_with fail;refine(qu w (QL.out w HB0.out)).mono ?_;rintro e w3 ⟨rfl,b3⟩;go_wp2_with fail;go_ret;exact⟨rfl,b3⟩
 have t1:decide ((2000:Int)<(q.size:Int))=false:=decide_eq_false Taa;have Xr:=hid (Eg q w (QL.out w HB0.out).lex Taa);clear Lr;unfold mn at Xr
 cases hp:gw q.data.toList with
 | error px=>
   obtain⟨p,x⟩:=px;rw[hp] at Xr;have hx:=QK hp;clear hp;go_enter Tryz.func5,Tryz.ntmps5;go_wp2_with fail;refine Xr.out.mono ?_;rintro e w4 ⟨rfl,b4⟩;have HB4:=hid b4;clear b4 Xr;obtain⟨cs,hcs⟩:∃cs,cs=(cd {}).toArray:=⟨_,rfl⟩;have dS:=hid (show(Tryz.prog.info? 34).map (·.size)=some cs.size by rw[hcs];exact kD _);have mF:=hid (show cK.size=cs.size by rw[hcs,bB];exact bB _);have jN:=hid (show cs.all (·.oneCell')=true by rw[hcs];exact cW _);have Va:=hid (af.then HB4.out (aa w4 (.cells cs 34)));unfold mK;rw[<- hcs];clear hcs;go_upto_region 4 with (first
    |(refine wpList_store_row rfl 34 (.tmp 3) (.tmp 18) rfl w4.heap.size cs rfl rfl 34 cK (av.new w4 34 cK) dS.out mF.out jN.out ?_
      rw[iG]))
   change Code.wp _ _ _ _ (w4.alloc (.cells cs 34));generalize w4.heap.size=q1 at*;generalize (World.alloc w4 _)=W5 at*;go_wp2_with fail;refine(qu W5 (QL.out W5 Va.out)).mono ?_;rintro e w3 ⟨rfl,b3⟩;have Sa:=hid (Below.trans Va.out (b3.mono Va.out.size));clear b3;go_wp2_with fail;go_ret;exact⟨rfl,Sa.out⟩
 | ok d=>
   rw[hp] at Xr;have hf:=Ij hp;have hrt:=WT hp;clear hp;have HFI:=hid hf;have HPR:=hid (λ W W0 y2 (hW:Below w.heap.size w W) (h2:d.at_ W (eI W0 W) y2)=>DB (QL.out W hW) (λ b hb=>hb.2) h2 hf (Nat.le_refl _));have HST:=hid (λ W W0 W1 y y2 (h1:d.at_ W (eI W0 W) y) (h2:d.at_ W (eI W1 W) y2)=>VU (λ b hb=>hb.2) (λ b hb=>hb.2) h1 h2 (Wu hf (Nat.le_refl _)) W (Below.refl _ _));clear hf;unfold mK at HPR HST;go_enter Tryz.func5,Tryz.ntmps5;go_wp2_with fail;refine Xr.out.mono ?_;rintro e w4 ⟨y,rfl,h2,b4⟩;have HB4:=hid b4;clear b4 Xr;obtain⟨cs,hcs⟩:∃cs,cs=(cd y).toArray:=⟨_,rfl⟩;have dS:=hid (show(Tryz.prog.info? 34).map (·.size)=some cs.size by rw[hcs];exact kD _);have mF:=hid (show cK.size=cs.size by rw[hcs,bB];exact bB _);have jN:=hid (show cs.all (·.oneCell')=true by rw[hcs];exact cW _);have HCS:=hid hcs;have Va:=hid (af.then HB4.out (aa w4 (.cells cs 34)));have jx:=hid (St.at_.keep (eJ (aa w4 (.cells cs 34))) h2);have HK:=hid (av.new w4 34 cs);unfold mK;rw[<- hcs];clear hcs h2;go_upto_region 4 with (first
    |(refine wpList_store_row rfl 34 (.tmp 3) (.tmp 18) rfl w4.heap.size cs rfl rfl 34 cK (av.new w4 34 cK) dS.out mF.out jN.out ?_
      rw[iG]))
   change Code.wp _ _ _ _ (w4.alloc (.cells cs 34));generalize w4.heap.size=q1 at*;generalize (World.alloc w4 _)=W5 at*;go_wp2_with (first
    |(refine wpList_load_row rfl 34 (.tmp 3) rfl q1 rfl 34 cs (0,0) _ HK.out Tryz.underlying34 rfl dS.out ?_))
   have hpr:=HPR.out W5 _ y Va.out jx.out;rw[<- HCS.out] at hpr;refine hpr.mono ?_;rintro e w6 ⟨rfl,b6⟩;have Sa:=hid (Below.trans Va.out (b6.mono Va.out.size));have HK6:=hid (HK.out.later b6);have anM:=hid (St.at_.keep (eJ b6) jx.out);clear b6 Va HK jx hpr HPR;rcases hrt with ⟨t,ht,htl,hpl⟩| ht;rotate_left
   ·rw[ht];unfold UL strOf;dsimp only;clear ht;go_wp2_with fail;refine(qu w6 (QL.out w6 Sa.out)).mono ?_;rintro e w7 ⟨rfl,b7⟩;have UX:=hid (Below.trans Sa.out (b7.mono Sa.out.size));clear b7;go_wp2_with fail;go_ret;exact⟨rfl,UX.out⟩
   rw[ht];unfold UL strOf;dsimp only;clear ht;obtain⟨ts,hts⟩:∃ts:ByteArray,ts=⟨t.toArray⟩:=⟨_,rfl⟩;rw[<- hts];have anN:gw ts.data.toList=.ok d:=by rw[hts];simpa using hpl
   have nA:ts.size<=4294967280:=by rw[hts];show t.toArray.size<=_;simp;omega
   clear hts hpl htl;have Xr:=hid (Eg ts w6 (QL.out w6 Sa.out).lex nA);clear nA;unfold mn at Xr;rw[anN] at Xr;clear anN;go_wp2_with fail;refine Xr.out.mono ?_;rintro e w7 ⟨y2,rfl,h2,b7⟩;have UX:=hid (Below.trans Sa.out (b7.mono Sa.out.size));have HK7:=hid ((HK6.out.later b7));have anO:=hid (St.at_.keep (eJ b7) anM.out);clear b7 Sa HK6 anM Xr;obtain⟨U9,WU⟩:∃cs,cs=(cd y2).toArray:=⟨_,rfl⟩;have anP:=hid (show(Tryz.prog.info? 34).map (·.size)=some U9.size by rw[WU];exact kD _);have asL:=hid (show cK.size=U9.size by rw[WU,bB];exact bB _);have asM:=hid (show U9.all (·.oneCell')=true by rw[WU];exact cW _);have asN:=hid WU;have HB8:=hid (af.then UX.out (aa w7 (.cells U9 34)));have asP:=hid (St.at_.keep (eJ (aa w7 (.cells U9 34))) anO.out);have HAU:=hid (St.at_.keep (eJ (aa w7 (.cells U9 34))) h2);have HK8:=hid (HK7.out.later (aa w7 (.cells U9 34)));have HBL:=hid (av.new w7 34 U9);unfold mK;rw[<- WU];clear WU h2 UX HK7 anO;go_upto_region 10 with (first
    |(refine wpList_store_row rfl 34 (.tmp 8) (.tmp 39) rfl w7.heap.size U9 rfl rfl 34 cK (av.new w7 34 cK) anP.out asL.out asM.out ?_
      rw[iG]))
   change Code.wp _ _ _ _ (w7.alloc (.cells U9 34));generalize w7.heap.size=q2 at*;generalize (World.alloc w7 _)=W8 at*;go_wp2_with (first
    |(refine rM rfl 34 (.tmp 3) rfl q1 rfl 34 cs (0,0) _ HK8.out Tryz.underlying34 rfl dS.out ?_)
    |(refine rM rfl 34 (.tmp 8) rfl q2 rfl 34 U9 (0,0) _ HBL.out Tryz.underlying34 rfl anP.out ?_))
   have hst:=HST.out W8 _ _ y y2 asP.out HAU.out;rw[<- HCS.out,<- asN.out] at hst;refine hst.mono ?_;rintro e w9 ⟨rfl,b9⟩;have HB9:=hid (Below.trans HB8.out (b9.mono HB8.out.size));clear b9 HB8 hst;go_wp2_with fail;refine(qu w9 (QL.out w9 HB9.out)).mono ?_;rintro e wa ⟨rfl,ba⟩;have HBA:=hid (Below.trans HB9.out (ba.mono HB9.out.size));clear ba;go_wp2_with fail;go_ret;exact⟨rfl,HBA.out⟩
end Go.Proofs.YtehhdlgjfdnafaaGreatDoor
