/- Parts of the proof. -/
import Derived.Test.YtehhdlgjfdnafaaGreatDoorXB15
namespace Go.Proofs.YtehhdlgjfdnafaaGreatDoor
variable{p:Prop}
set_option maxHeartbeats 90000000
set_option maxRecDepth 100000
open Go.Lib (hid)
open Go.ChangeShapes Go.WideShapes Go.ChangeAt Go.RowKit Go.Shelf List
set_option linter.unusedVariables false
set_option linter.unusedSimpArgs false
variable{os:List (Option aV)}{o:Option aV}
theorem mf(h:os[0]?=some o):dM (os.take 1)=o:=by rw[show(1:Nat)=0+1 from rfl,take_add_one,h];simp[pX]
variable{i:Nat}
theorem nP(h:os[i]?=some o)(hi:0 < i):dM (os.take (i+1))=aq (dM (os.take i)) (aq (some [44,32]) o):=by
 rw[take_add_one,h];refine Cl o _ λ e=>?_
 have:=congrArg List.length e
 have hl:i < os.length:=by
  rcases Nat.lt_or_ge i os.length with h' | h'
  ·exact h'
  ·exact ZgP
 rw[length_take,Nat.min_eq_left (Nat.le_of_lt hl)] at this;simp at this;omega
variable{w0:World}{b:Nat}{s:Option aV}{n:Nat}
theorem zhf.Kcc(h:p:=by simp only[Uaa] at x0 x1 x2 x3 x4 x5 x6;exact ZaG):p:=h
theorem zdA.KaQ(h:p:=by open zhf in exact ZeC):p:=h
theorem zhZ.Kcy(h:p:=by simp only[Uaa] at x0 x1 x2 x3 x4 x5 x6;exact ZaH):p:=h
theorem zhm.Kcf(h:p:=by
 clear k0 k1 k2 k3 k4 k5 k6 HS HD;generalize wr.alloc _=W1 at*;clear bx lx;rcases Nat.eq_zero_or_pos i with nd | nd
 ·open zhZ in exact Zgj
 ·open zdA in exact Zbi):p:=h
theorem ziO.KcV(h:p:=by have HX:=hid (av.new wr 36 #[.int .u8 z.op,.int .u8 z.v.k,.int .i64 z.v.n,.string z.v.s,.string z.name,.int .i64 z.width,.slice z.A z.n z.c]);have bx:=aa wr (.cells #[.int .u8 z.op,.int .u8 z.v.k,.int .i64 z.v.n,.string z.v.s,.string z.name,.int .i64 z.width,.slice z.A z.n z.c] 36);open zhm in exact ZeK):p:=h
theorem zgh.KbP(h:p:=by open ziO in exact Zg4):p:=h
theorem zbY.Kar(h:p:=by
 have hcell:=λ j u hu=>(hwr.cell (p:=⟨q,off+i*7+j,none⟩) (hS q jP)).trans (hc i z j u hz hu)
 open zgh in exact ZdB):p:=h
theorem zbA.Kan(h:p:=by
 go_loopw [20] (λ u wr=>∃i:Nat,i<=k/\u=.int .i64 i/\eI w0.heap.size b (aq (aq s (bg ok)) (dM (os.take i))) (n+m i) wr/\cy w0.heap.size b w wr) (λ u _=>k - (intOf u).toNat);case atStart=>exact Zbx
 case round=>
  obtain⟨i,hi,rfl,hs,hd⟩:=hrel;have HS:=hid hs;have HD:=hid hd;clear hs hd H1 D1;by_cases hlt:i < k
  ·open zbY in exact ZaB
  ·exact ZaY):p:=h
theorem zbp.Kak(h:p:=by go_enter Tryz.func43,Tryz.ntmps43;open zbA in exact Zaw):p:=h
theorem xm(ci m:Nat->Nat)(fK:FuncId)(recv lD:Array Value)(en:∀args w,(callFunc fK args).run Tryz.prog w=.ok (.enter fK args) w)(A:Option Addr)(cap k:Nat)(ys:List (Ex))(os:List (Option aV))(S:Nat->Prop)(hS:∀b,S b->b < w0.heap.size)
  (hk:ys.length=k) (ho:os.length=k) (hA:RL aT 7 w0 S A ys) (w:World) (h:eI w0.heap.size b s n w) (hw:Below w0.heap.size w0 w) (m0:m 0=0) (hm:∀i,i < k->m i+(ci i+1)<=m (i+1)) (Bl:∀i,i<=k->m i<=m k) (hn:n+m k<=50000000) (hkm:k<=1000000)
  (hO:∀(i:Nat) z o,ys[i]?=some z->os[i]?=some o->∀W s' n',cy w0.heap.size b w W->eI w0.heap.size b s' n' W->n'+ci i<=50000000->Calls Tryz.prog fK (recv++ #[dN z]++lD) W (ba w0.heap.size b (aq s' o) (n'+ci i) W)):
  Calls Tryz.prog 43 #[.pointer (some ⟨b,0,none⟩),.slice A k cap,.func (.func fK) recv lD] w (ba w0.heap.size b (aq s (dC os)) (n+m k) w):=by
 open zbp in exact Zao
theorem aer (op:Int)(h:kQ op=true):(nB op).1.length<=6/\1<=(nB op).2/\(nB op).2<=2:=by
 have h2:op=20\/op=22\/op=23\/op=24\/op=25\/op=26\/op=27\/op=28:=by unfold kQ at h;simp only[Bool.or_eq_true,Bool.and_eq_true,decide_eq_true_eq,beq_iff_eq] at h;omega
 rcases h2 with rfl | rfl | rfl | rfl | rfl | rfl | rfl | rfl <;> decide
theorem vu (o:Option aV):aq (some []) o=o:=by cases o <;> rfl
theorem Fv(h1:1<=os.length)(h2:os.length<=2):dC os=dM os:=by unfold dC;rw[decide_eq_true (show 0 < os.length by omega),decide_eq_true (show os.length<=64 by omega)];exact vu _
variable{ws W:World}{gx gf:Nat}{op:Int}{v:Val}{name:ByteArray}{width:Int}{A:Option Addr}{k cp:Nat}{T:Array Value}{ci m:Nat->Nat}{ys:List Ex}
theorem zhi.Kce(h:p:=by have:=H8.out.st.more (show n+2+m k+1<=n+5+m k by omega);rw[show dC os=dM os from Fv TaP TaP] at this;simp only[aD,toList_toArray,vu] at this ⊢;exact this):p:=h
theorem zhW.Kcx(h:p:=by
 refine(xm ci m 60 #[.pointer (some ⟨b,0,none⟩)] #[] en A cp k ys os S hS HY.out HO.out HA.out w2 H2.out.st (hw.trans H2.out.did.below) m0 hm Bl TaZ TaA (λ i z o hz hoi W s' n' dW hW hc=>?_)).mono ?_
 ·exact HI.out i z o hz hoi W s' n' hW ((hw.trans H2.out.did.below).trans dW.below) hc
 rintro e w7 ⟨rfl,h7,d7⟩;have H7:=hid (H2.out.next hx hf h7 d7);clear h7 d7 H2 x0 x1 x2 x3 x4 x5 x6;open zhi in exact ZeE):p:=h
theorem zf7.KbL(h:p:=by refine(Xc ⟨(nB op).1.toArray⟩ ⟨#[40]⟩ wc HW.out.st (by show(nB op).1.toArray.size<=_;simp;omega) Tab Taa).mono ?_;open zhW in exact Zgi):p:=h
theorem zeI.Kbe(h:p:=by
 go_upto_region 30 with fail;go_cut [223] (λ _ wx=>qg w0 b (aq s (bg C)) n ws wx gx gf ⟨op,⟨vk,vn,vs⟩,name,width,A,k,cp⟩)
 case first=>
  have Kr:∀(q:Bool) W',q=C->qg w0 b s n ws W' gx gf ⟨op,⟨vk,vn,vs⟩,name,width,A,k,cp⟩->Calls Tryz.prog 36 #[.pointer (some ⟨b,0,none⟩),.bool q] W' λ e w'=>e=.returned (.tuple #[])/\qg w0 b (aq s (bg C)) n ws w' gx gf ⟨op,⟨vk,vn,vs⟩,name,width,A,k,cp⟩:=λ q W' hq h1=>(bh q W' h1.st).mono λ e w' h2=>by subst hq;exact⟨h2.1,h1.next hx hf h2.2.1 h2.2.2⟩
  have MS:=hid Kr;clear Kr en Ey tk;by_cases c2:vk=0
  ·subst c2;by_cases c3:vn=0
   ·subst c3;by_cases c4:vs.toList=[]
    ·skip;by_cases c6:name.toList=[]
     ·skip;by_cases c5:width=0
      ·subst c5;have jL:=hid (show true=C by rw[HC.out];simp[oP,t20,c4,c6]);exact Zas
      ·skip;have t5:(width==0)=false:=by simpa using c5
       have jL:=hid (show false=C by rw[HC.out];simp[oP,t20,c4,c6,c5]);exact Zas
     ·skip;have jL:=hid (show false=C by rw[HC.out];simp[oP,t20,c4,c6]);exact Zas
    ·skip;have jL:=hid (show false=C by rw[HC.out];simp[oP,t20,c4]);exact Zas
   ·skip;have t3_:(vn==0)=false:=by simpa using c3
    have jL:=hid (show false=C by rw[HC.out];simp[oP,t20,c3]);exact Zas
  ·skip;have t2_:(vk==0)=false:=by simpa using c2
   have jL:=hid (show false=C by rw[HC.out];simp[oP,t20,c2]);exact Zas
 case rest=>
 open zf7 in exact Zdu):p:=h
theorem zcg.Kau(h:p:=by obtain⟨C,hC⟩:∃C:Bool,C=(oP ⟨vk,vn,vs⟩&&(name.toList== [] &&(op==20 || width==0))):=⟨_,rfl⟩;rw[<- hC];have HC:=hid hC;clear hC;open zeI in exact Zb9):p:=h
theorem zft.Kbt(h:p:=by
 rw[ME] at h5;rw[VX] at h7;simp only[uC,List.range,List.range.loop,List.map,h0,h3,h4,h5,h6,h7];clear hT ME VX h0 h3 h4 h5 h6 h7;have hsz:=Nat.le_trans hw.size (Nat.le_refl ws.heap.size);obtain⟨vk,vn,vs⟩:=v;have HH:=hid h;clear h;have HI:=hid hI;have HA:=hid hA;have HY:=hid hy;have HO:=hid ho;have HN:=hid hn;have VQ:(nB op).1.length<=6/\1<=(nB op).2/\(nB op).2<=2:=aoF;have HK:=hid hk;have tk:((k:Int)==((nB op).2:Nat))=true:=by rw[hk];simp
 clear hI hA hy ho hn hk;have en:∀args w,(callFunc 60 args).run Tryz.prog w=.ok (.enter 60 args) w:=enters_of Tryz.func60 Tac rfl;open zcg in exact ZaJ):p:=h
theorem ajF(hE:dy w0)(hw:Below w0.heap.size w0 ws)(t1:(op==1)=false)(t2:(op==2)=false)(t21:(op==21)=false)(t3:(op==3)=false)(t4:(op==4)=false)(t18:(op==18)=false)(t19:(op==19)=false)(t20:(op==20)=false)(ME:dc op=false)(VX:kQ op=true) (m0:m 0=0)(hm:∀i,i < k->m i+(ci i+1)<=m (i+1))(Bl:∀i,i<=k->m i<=m k)  (S:Nat->Prop)(hS:∀b,S b->b < w0.heap.size)(hk:k=(nB op).2)(hy:ys.length=k)(ho:os.length=k)(hA:RL aT 7 w0 S A ys)(hI:∀(i:Nat) z o,ys[i]?=some z->os[i]?=some o->fZ 60 b w0 z o (ci i))(hw0: -9223372036854775808<=width)(Bn:width<=9223372036854775807)(hn:n+5+m k<=50000000)(hT:Hx T b gx gf (op))(h:qg w0 b s n ws W gx gf ⟨op,v,name,width,A,k,cp⟩)(hx:gx≠b)(hf:gf≠b):
  (ja sk 3).wp Tryz.prog (bodyPost Tryz.prog Tryz.f60 (ba w0.heap.size b (aq s (aq (bg (oP v &&(name.toList== [] &&(op==20 || width==0)))) (aq (some ((nB op).1++ [40])) (aq (some []) (aq (dM os) (some [41])))))) (n+5+m k) ws)) { tmps:=T,defers:=[] } W:=by obtain⟨u,rfl⟩:=dQ T hT.sz;have aoF:=aer op VX;open zft in exact ZcL
theorem zhj.Kce(h:p:=by have:=H8.out.st.more (show n+4+m k+1<=n+5+m k by omega);rw[show dC os=dM os from Fv TaP TaP] at this;exact Zcg):p:=h
theorem zhX.Kcx(h:p:=by
 refine(gD hE width hw0 Bn w2 H2.out.st (hw.trans H2.out.did.below) Taa).mono ?_;rintro e w3 ⟨rfl,h3,d3⟩;have H3:=hid (H2.out.next hx hf h3 d3);clear h3 d3 H2 x0 x1 x2 x3 x4 x5 x6;go_wp2_with fail;refine(cA ⟨#[44,32]⟩ w3 H3.out.st Tab Taa).mono ?_;rintro e w4 ⟨rfl,h4,d4⟩;have H4:=hid (H3.out.next hx hf h4 d4);clear h4 d4 H3;obtain⟨x0,x1,x2,x3,x4,x5,x6⟩:=H4.out.x.cells;dsimp only at x0 x1 x2 x3 x4 x5 x6;go_wp2_with fail;refine(xm ci m 60 #[.pointer (some ⟨b,0,none⟩)] #[] en A cp k ys os S hS HY.out HO.out HA.out w4 H4.out.st (hw.trans H4.out.did.below) m0 hm Bl TaZ TaA (λ i z o hz hoi W s' n' dW hW hc=>?_)).mono ?_
 ·exact HI.out i z o hz hoi W s' n' hW ((hw.trans H4.out.did.below).trans dW.below) hc
 rintro e w7 ⟨rfl,h7,d7⟩;have H7:=hid (H4.out.next hx hf h7 d7);clear h7 d7 H4 x0 x1 x2 x3 x4 x5 x6;open zhj in exact ZeE):p:=h
theorem zf8.KbL(h:p:=by refine(Xc ⟨(nB 20).1.toArray⟩ ⟨#[40]⟩ wc HW.out.st (by show(nB 20).1.toArray.size<=_;simp;omega) Tab Taa).mono ?_;open zhX in exact Zgi):p:=h
theorem zeJ.Kbe(h:p:=by
 go_upto_region 30 with fail;go_cut [223] (λ _ wx=>qg w0 b (aq s (bg C)) n ws wx gx gf ⟨20,⟨vk,vn,vs⟩,name,width,A,k,cp⟩)
 case first=>
  have Kr:∀(q:Bool) W',q=C->qg w0 b s n ws W' gx gf ⟨20,⟨vk,vn,vs⟩,name,width,A,k,cp⟩->Calls Tryz.prog 36 #[.pointer (some ⟨b,0,none⟩),.bool q] W' λ e w'=>e=.returned (.tuple #[])/\qg w0 b (aq s (bg C)) n ws w' gx gf ⟨20,⟨vk,vn,vs⟩,name,width,A,k,cp⟩:=λ q W' hq h1=>(bh q W' h1.st).mono λ e w' h2=>by subst hq;exact⟨h2.1,h1.next hx hf h2.2.1 h2.2.2⟩
  have MS:=hid Kr;clear Kr en Ey tk;by_cases c2:vk=0
  ·subst c2;by_cases c3:vn=0
   ·subst c3;by_cases c4:vs.toList=[]
    ·skip;by_cases c6:name.toList=[]
     ·skip;have jL:=hid (show true=C by rw[HC.out];simp[oP,c4,c6]);exact Zas
     ·skip;have jL:=hid (show false=C by rw[HC.out];simp[oP,c4,c6]);exact Zas
    ·exact Zg3
   ·skip;have t3_:(vn==0)=false:=by simpa using c3
    exact Zhl
  ·skip;have t2_:(vk==0)=false:=by simpa using c2
   exact Zhm
 case rest=>
 open zf8 in exact Zdu):p:=h
theorem zcn.Kau(h:p:=by obtain⟨C,hC⟩:∃C:Bool,C=(oP ⟨vk,vn,vs⟩&&(name.toList== [] &&(20==20 || width==0))):=⟨_,rfl⟩;rw[<- hC];have HC:=hid hC;clear hC;open zeJ in exact Zb9):p:=h
theorem zeT.Kbh(h:p:=by
 obtain⟨vk,vn,vs⟩:=v;have HH:=hid h;clear h;have HI:=hid hI;have HA:=hid hA;have HY:=hid hy;have HO:=hid ho;have HN:=hid hn;have VQ:(nB 20).1.length<=6/\1<=(nB 20).2/\(nB 20).2<=2:=by decide
 have HK:=hid hk;have tk:((k:Int)==((nB 20).2:Nat))=true:=by rw[hk];simp
 clear hI hA hy ho hn hk;have en:∀args w,(callFunc 60 args).run Tryz.prog w=.ok (.enter 60 args) w:=enters_of Tryz.func60 Tac rfl;open zcn in exact ZaJ):p:=h
theorem zaA.Kac(h:p:=by rw[show dc 20=false from rfl] at h5;rw[show kQ 20=true from rfl] at h7;open zeT in exact Zcf):p:=h
theorem SY(hE:dy w0)(hw:Below w0.heap.size w0 ws) (m0:m 0=0)(hm:∀i,i < k->m i+(ci i+1)<=m (i+1))(Bl:∀i,i<=k->m i<=m k)  (S:Nat->Prop)(hS:∀b,S b->b < w0.heap.size)(hk:k=(nB 20).2)(hy:ys.length=k)(ho:os.length=k)(hA:RL aT 7 w0 S A ys)(hI:∀(i:Nat) z o,ys[i]?=some z->os[i]?=some o->fZ 60 b w0 z o (ci i))(hw0: -9223372036854775808<=width)(Bn:width<=9223372036854775807)(hn:n+5+m k<=50000000)(hT:Hx T b gx gf (20))(h:qg w0 b s n ws W gx gf ⟨20,v,name,width,A,k,cp⟩)(hx:gx≠b)(hf:gf≠b):
  (ja sk 3).wp Tryz.prog (bodyPost Tryz.prog Tryz.f60 (ba w0.heap.size b (aq s (aq (bg (oP v &&(name.toList== [] &&(20==20 || width==0)))) (aq (some ((nB 20).1++ [40])) (aq (aq (tj width) (some [44,32])) (aq (dM os) (some [41])))))) (n+5+m k) ws)) { tmps:=T,defers:=[] } W:=by
 open zaA in exact Zac
theorem zdM.KaW(h:p:=by have HX:=hid (av.new wr 51 #[.int .u8 z.1.op,.int .u8 z.1.v.k,.int .i64 z.1.v.n,.string z.1.v.s,.string z.1.name,.int .i64 z.1.width,.slice z.1.A z.1.n z.1.c,.string z.2]);have bx:=aa wr (.cells #[.int .u8 z.1.op,.int .u8 z.1.v.k,.int .i64 z.1.v.n,.string z.1.v.s,.string z.1.name,.int .i64 z.1.width,.slice z.1.A z.1.n z.1.c,.string z.2] 51);exact Zad):p:=h
theorem zbZ.Kar(h:p:=by open zdM in exact Zbp):p:=h
theorem zbB.Kan(h:p:=by
 go_loopw [20] (λ u wr=>∃i:Nat,i<=k/\u=.int .i64 i/\eI w0.heap.size b (aq (aq s (bg ok)) (dM (os.take i))) (n+m i) wr/\cy w0.heap.size b w wr) (λ u _=>k - (intOf u).toNat);case atStart=>exact Zbx
 case round=>
  obtain⟨i,hi,rfl,hs,hd⟩:=hrel;have HS:=hid hs;have HD:=hid hd;clear hs hd H1 D1;by_cases hlt:i < k
  ·open zbZ in exact ZaB
  ·exact ZaY):p:=h
theorem zbq.Kak(h:p:=by go_enter Tryz.func84,Tryz.ntmps84;open zbB in exact Zaw):p:=h
theorem Oe(ci m:Nat->Nat)(fK:FuncId)(recv lD:Array Value)(en:∀args w,(callFunc fK args).run Tryz.prog w=.ok (.enter fK args) w)(A:Option Addr)(cap k:Nat)(ys:List (Ex×ByteArray))(os:List (Option aV))(S:Nat->Prop)(hS:∀b,S b->b < w0.heap.size)
  (hk:ys.length=k) (ho:os.length=k) (hA:RL (λ y:Ex×ByteArray=>aT y.1++ [.string y.2]) 8 w0 S A ys) (w:World) (h:eI w0.heap.size b s n w) (hw:Below w0.heap.size w0 w) (m0:m 0=0) (hm:∀i,i < k->m i+(ci i+1)<=m (i+1)) (Bl:∀i,i<=k->m i<=m k) (hn:n+m k<=50000000) (hkm:k<=1000000)
  (hO:∀(i:Nat) z o,ys[i]?=some z->os[i]?=some o->∀W s' n',cy w0.heap.size b w W->eI w0.heap.size b s' n' W->n'+ci i<=50000000->Calls Tryz.prog fK (recv++ #[.agg (aT z.1++ [Value.string z.2]).toArray]++lD) W (ba w0.heap.size b (aq s' o) (n'+ci i) W)):
  Calls Tryz.prog 84 #[.pointer (some ⟨b,0,none⟩),.slice A k cap,.func (.func fK) recv lD] w (ba w0.heap.size b (aq s (dC os)) (n+m k) w):=by
 open zbq in exact Zao
theorem zdN.KaW(h:p:=by have HX:=hid (av.new wr 86 #[.int .u8 z.1.op,.int .u8 z.1.v.k,.int .i64 z.1.v.n,.string z.1.v.s,.string z.1.name,.int .i64 z.1.width,.slice z.1.A z.1.n z.1.c,.bool z.2]);have bx:=aa wr (.cells #[.int .u8 z.1.op,.int .u8 z.1.v.k,.int .i64 z.1.v.n,.string z.1.v.s,.string z.1.name,.int .i64 z.1.width,.slice z.1.A z.1.n z.1.c,.bool z.2] 86);exact Zad):p:=h
theorem zb0.Kar(h:p:=by open zdN in exact Zbp):p:=h
theorem zbC.Kan(h:p:=by
 go_loopw [20] (λ u wr=>∃i:Nat,i<=k/\u=.int .i64 i/\eI w0.heap.size b (aq (aq s (bg ok)) (dM (os.take i))) (n+m i) wr/\cy w0.heap.size b w wr) (λ u _=>k - (intOf u).toNat);case atStart=>exact Zbx
 case round=>
  obtain⟨i,hi,rfl,hs,hd⟩:=hrel;have HS:=hid hs;have HD:=hid hd;clear hs hd H1 D1;by_cases hlt:i < k
  ·open zb0 in exact ZaB
  ·exact ZaY):p:=h
theorem zbr.Kak(h:p:=by go_enter Tryz.func86,Tryz.ntmps86;open zbC in exact Zaw):p:=h
theorem KP(ci m:Nat->Nat)(fK:FuncId)(recv lD:Array Value)(en:∀args w,(callFunc fK args).run Tryz.prog w=.ok (.enter fK args) w)(A:Option Addr)(cap k:Nat)(ys:List (Ex×Bool))(os:List (Option aV))(S:Nat->Prop)(hS:∀b,S b->b < w0.heap.size)
  (hk:ys.length=k) (ho:os.length=k) (hA:RL (λ y:Ex×Bool=>aT y.1++ [.bool y.2]) 8 w0 S A ys) (w:World) (h:eI w0.heap.size b s n w) (hw:Below w0.heap.size w0 w) (m0:m 0=0) (hm:∀i,i < k->m i+(ci i+1)<=m (i+1)) (Bl:∀i,i<=k->m i<=m k) (hn:n+m k<=50000000) (hkm:k<=1000000)
  (hO:∀(i:Nat) z o,ys[i]?=some z->os[i]?=some o->∀W s' n',cy w0.heap.size b w W->eI w0.heap.size b s' n' W->n'+ci i<=50000000->Calls Tryz.prog fK (recv++ #[.agg (aT z.1++ [Value.bool z.2]).toArray]++lD) W (ba w0.heap.size b (aq s' o) (n'+ci i) W)):
  Calls Tryz.prog 86 #[.pointer (some ⟨b,0,none⟩),.slice A k cap,.func (.func fK) recv lD] w (ba w0.heap.size b (aq s (dC os)) (n+m k) w):=by
 open zbr in exact Zao
theorem zdB.KaQ(h:p:=by simp only[Uaa] at x0 x1;exact ZaG):p:=h
theorem zhl.Kcf(h:p:=by
 clear k0 k1 HS HD;generalize wr.alloc _=W1 at*;clear bx lx;rcases Nat.eq_zero_or_pos i with nd | nd
 ·subst nd;have HT:=hid (mf HJ.out);have x0:=HX.out.cell 0;have x1:=HX.out.cell 1;simp only[Uaa] at x0 x1;exact ZaH
 ·open zdB in exact Zbi):p:=h
theorem ziN.KcV(h:p:=by have HX:=hid (av.new wr 53 #[.string z.1,.int .u8 z.2]);have bx:=aa wr (.cells #[.string z.1,.int .u8 z.2] 53);open zhl in exact ZeK):p:=h
theorem zb1.Kar(h:p:=by
 have hcell:=λ j u hu=>(hwr.cell (p:=⟨q,off+i*2+j,none⟩) (hS q jP)).trans (hc i z j u hz hu)
 have k0:=hcell 0 _ rfl;have k1:=hcell 1 _ rfl;open ziN in exact Zg4):p:=h
theorem zbD.Kan(h:p:=by
 go_loopw [20] (λ u wr=>∃i:Nat,i<=k/\u=.int .i64 i/\eI w0.heap.size b (aq (aq s (bg ok)) (dM (os.take i))) (n+m i) wr/\cy w0.heap.size b w wr) (λ u _=>k - (intOf u).toNat);case atStart=>exact Zbx
 case round=>
  obtain⟨i,hi,rfl,hs,hd⟩:=hrel;have HS:=hid hs;have HD:=hid hd;clear hs hd H1 D1;by_cases hlt:i < k
  ·open zb1 in exact ZaB
  ·exact ZaY):p:=h
theorem zbs.Kak(h:p:=by go_enter Tryz.func79,Tryz.ntmps79;open zbD in exact Zaw):p:=h
theorem TD(ci m:Nat->Nat)(fK:FuncId)(recv lD:Array Value)(en:∀args w,(callFunc fK args).run Tryz.prog w=.ok (.enter fK args) w)(A:Option Addr)(cap k:Nat)(ys:List (ByteArray×Int))(os:List (Option aV))(S:Nat->Prop)(hS:∀b,S b->b < w0.heap.size)
  (hk:ys.length=k) (ho:os.length=k) (hA:RL (λ y:ByteArray×Int=> [.string y.1,.int .u8 y.2]) 2 w0 S A ys) (w:World) (h:eI w0.heap.size b s n w) (hw:Below w0.heap.size w0 w) (m0:m 0=0) (hm:∀i,i < k->m i+(ci i+1)<=m (i+1)) (Bl:∀i,i<=k->m i<=m k) (hn:n+m k<=50000000) (hkm:k<=2000000)
  (hO:∀(i:Nat) z o,ys[i]?=some z->os[i]?=some o->∀W s' n',cy w0.heap.size b w W->eI w0.heap.size b s' n' W->n'+ci i<=50000000->Calls Tryz.prog fK (recv++ #[.agg #[.string z.1,.int .u8 z.2]]++lD) W (ba w0.heap.size b (aq s' o) (n'+ci i) W)):
  Calls Tryz.prog 79 #[.pointer (some ⟨b,0,none⟩),.slice A k cap,.func (.func fK) recv lD] w (ba w0.heap.size b (aq s (dC os)) (n+m k) w):=by
 open zbs in exact Zao
theorem zdO.KaW(h:p:=by have HX:=hid (av.new wr 55 #[.string z.1,.int .u8 z.2.op,.int .u8 z.2.v.k,.int .i64 z.2.v.n,.string z.2.v.s,.string z.2.name,.int .i64 z.2.width,.slice z.2.A z.2.n z.2.c]);have bx:=aa wr (.cells #[.string z.1,.int .u8 z.2.op,.int .u8 z.2.v.k,.int .i64 z.2.v.n,.string z.2.v.s,.string z.2.name,.int .i64 z.2.width,.slice z.2.A z.2.n z.2.c] 55);exact Zad):p:=h
theorem zb2.Kar(h:p:=by open zdO in exact Zbp):p:=h
theorem zbE.Kan(h:p:=by
 go_loopw [20] (λ u wr=>∃i:Nat,i<=k/\u=.int .i64 i/\eI w0.heap.size b (aq (aq s (bg ok)) (dM (os.take i))) (n+m i) wr/\cy w0.heap.size b w wr) (λ u _=>k - (intOf u).toNat);case atStart=>exact Zbx
 case round=>
  obtain⟨i,hi,rfl,hs,hd⟩:=hrel;have HS:=hid hs;have HD:=hid hd;clear hs hd H1 D1;by_cases hlt:i < k
  ·open zb2 in exact ZaB
  ·exact ZaY):p:=h
theorem zbt.Kak(h:p:=by go_enter Tryz.func44,Tryz.ntmps44;open zbE in exact Zaw):p:=h
theorem TE(ci m:Nat->Nat)(fK:FuncId)(recv lD:Array Value)(en:∀args w,(callFunc fK args).run Tryz.prog w=.ok (.enter fK args) w)(A:Option Addr)(cap k:Nat)(ys:List (ByteArray×Ex))(os:List (Option aV))(S:Nat->Prop)(hS:∀b,S b->b < w0.heap.size)
  (hk:ys.length=k) (ho:os.length=k) (hA:RL (λ y:ByteArray×Ex=> .string y.1::aT y.2) 8 w0 S A ys) (w:World) (h:eI w0.heap.size b s n w) (hw:Below w0.heap.size w0 w) (m0:m 0=0) (hm:∀i,i < k->m i+(ci i+1)<=m (i+1)) (Bl:∀i,i<=k->m i<=m k) (hn:n+m k<=50000000) (hkm:k<=1000000)
  (hO:∀(i:Nat) z o,ys[i]?=some z->os[i]?=some o->∀W s' n',cy w0.heap.size b w W->eI w0.heap.size b s' n' W->n'+ci i<=50000000->Calls Tryz.prog fK (recv++ #[.agg (.string z.1::aT z.2).toArray]++lD) W (ba w0.heap.size b (aq s' o) (n'+ci i) W)):
  Calls Tryz.prog 44 #[.pointer (some ⟨b,0,none⟩),.slice A k cap,.func (.func fK) recv lD] w (ba w0.heap.size b (aq s (dC os)) (n+m k) w):=by
 open zbt in exact Zao
end Go.Proofs.YtehhdlgjfdnafaaGreatDoor
