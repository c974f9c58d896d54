/- Parts of the proof. -/
import Derived.Test.YtehhdlgjfdnafaaGreatDoorXF15
namespace Go.Proofs.YtehhdlgjfdnafaaGreatDoor
variable{p:Prop}
set_option maxHeartbeats 90000000
set_option maxRecDepth 100000
open Go.Lib (hid)
open Go.ChangeShapes Go.WideShapes Go.ChangeAt Go.RowKit Go.Shelf List
set_option linter.unusedVariables false
set_option linter.unusedSimpArgs false
variable{os:List (Option aX)}{o:Option aX}
theorem mL(h:os[0]?=some o):dV (os.take 1)=o:=by rw[show(1:Nat)=0+1 from rfl,take_add_one,h];simp[jT]
variable{i:Nat}
theorem oM(h:os[i]?=some o)(hi:0 < i):dV (os.take (i+1))=aq (dV (os.take i)) (aq (some [44,32]) o):=by
 rw[take_add_one,h];refine CT o _ λ e=>?_
 have:=congrArg List.length e
 have hl:i < os.length:=by
  rcases Nat.lt_or_ge i os.length with h' | h'
  ·exact h'
  ·exact ZgF
 rw[length_take,Nat.min_eq_left (Nat.le_of_lt hl)] at this;simp at this;omega
variable{w0:World}{b:Nat}{s:Option aX}{n:Nat}
theorem zgM.Kb5(h:p:=by simp only[Uaa] at x0 x1 x2 x3 x4 x5 x6;exact ZaD):p:=h
theorem zdh.KaM(h:p:=by open zgM in exact Zes):p:=h
theorem zhw.Kcr(h:p:=by simp only[Uaa] at x0 x1 x2 x3 x4 x5 x6;exact ZaE):p:=h
theorem zgT.Kb8(h:p:=by
 clear k0 k1 k2 k3 k4 k5 k6 HS HD;generalize wr.alloc _=W1 at*;clear bx lx;rcases Nat.eq_zero_or_pos i with nR | nR
 ·open zhw in exact Zgb
 ·open zdh in exact Zbd):p:=h
theorem zig.KcM(h:p:=by have HX:=hid (av.new wr 36 #[.int .u8 z.op,.int .u8 z.v.k,.int .i64 z.v.n,.string z.v.s,.string z.name,.int .i64 z.width,.slice z.A z.n z.c]);have bx:=aa wr (.cells #[.int .u8 z.op,.int .u8 z.v.k,.int .i64 z.v.n,.string z.v.s,.string z.name,.int .i64 z.width,.slice z.A z.n z.c] 36);open zgT in exact ZeA):p:=h
theorem zfP.KbI(h:p:=by open zig in exact ZgS):p:=h
theorem zbJ.Kao(h:p:=by
 have hcell:=λ j u hu=>(hwr.cell (p:=⟨q,off+i*7+j,none⟩) (hS q kM)).trans (hc i z j u hz hu)
 open zfP in exact Zdr):p:=h
theorem zbs.Kal(h:p:=by
 go_loopw [20] (λ u wr=>∃i:Nat,i<=k/\u=.int .i64 i/\eR w0.heap.size b (aq (aq s (bl ok)) (dV (os.take i))) (n+m i) wr/\cF w0.heap.size b w wr) (λ u _=>k - (intOf u).toNat);case atStart=>exact Zbs
 case round=>
  obtain⟨i,hi,rfl,hs,hd⟩:=hrel;have HS:=hid hs;have HD:=hid hd;clear hs hd H1 D1;by_cases hlt:i < k
  ·open zbJ in exact Zay
  ·exact ZaV):p:=h
theorem zbj.Kaj(h:p:=by go_enter Tryz.func43,Tryz.ntmps43;open zbs in exact Zau):p:=h
theorem xQ(ci m:Nat->Nat)(fK:FuncId)(recv mf:Array Value)(en:∀args w,(callFunc fK args).run Tryz.prog w=.ok (.enter fK args) w)(A:Option Addr)(cap k:Nat)(ys:List (Ex))(os:List (Option aX))(S:Nat->Prop)(hS:∀b,S b->b < w0.heap.size)
  (hk:ys.length=k) (ho:os.length=k) (hA:RL aU 7 w0 S A ys) (w:World) (h:eR w0.heap.size b s n w) (hw:Below w0.heap.size w0 w) (m0:m 0=0) (hm:∀i,i < k->m i+(ci i+1)<=m (i+1)) (BW:∀i,i<=k->m i<=m k) (hn:n+m k<=50000000) (hkm:k<=1000000)
  (hO:∀(i:Nat) z o,ys[i]?=some z->os[i]?=some o->∀W s' n',cF w0.heap.size b w W->eR w0.heap.size b s' n' W->n'+ci i<=50000000->Calls Tryz.prog fK (recv++ #[eb z]++mf) W (bk w0.heap.size b (aq s' o) (n'+ci i) W)):
  Calls Tryz.prog 43 #[.pointer (some ⟨b,0,none⟩),.slice A k cap,.func (.func fK) recv mf] w (bk w0.heap.size b (aq s (dL os)) (n+m k) w):=by
 open zbj in exact Zan
theorem afL (op:Int)(h:ko op=true):(nS op).1.length<=6/\1<=(nS op).2/\(nS op).2<=2:=by
 have h2:op=20\/op=22\/op=23\/op=24\/op=25\/op=26\/op=27\/op=28:=by unfold ko at h;simp only[Bool.or_eq_true,Bool.and_eq_true,decide_eq_true_eq,beq_iff_eq] at h;omega
 rcases h2 with rfl | rfl | rfl | rfl | rfl | rfl | rfl | rfl <;> decide
theorem wj (o:Option aX):aq (some []) o=o:=by cases o <;> rfl
theorem Gl(h1:1<=os.length)(h2:os.length<=2):dL os=dV os:=by unfold dL;rw[decide_eq_true (show 0 < os.length by omega),decide_eq_true (show os.length<=64 by omega)];exact wj _
variable{ws W:World}{gx gf:Nat}{op:Int}{v:Val}{name:ByteArray}{width:Int}{A:Option Addr}{k cp:Nat}{T:Array Value}{ci m:Nat->Nat}{ys:List Ex}
theorem zgP.Kb7(h:p:=by have:=H8.out.st.more (show n+2+m k+1<=n+5+m k by omega);rw[show dL os=dV os from Gl TaN TaN] at this;simp only[aH,toList_toArray,wj] at this ⊢;exact this):p:=h
theorem zht.Kcq(h:p:=by
 refine(xQ ci m 60 #[.pointer (some ⟨b,0,none⟩)] #[] en A cp k ys os S hS HY.out HO.out HA.out w2 H2.out.st (hw.trans H2.out.did.below) m0 hm BW Ta2 TaB (λ i z o hz hoi W s' n' dW hW hc=>?_)).mono ?_
 ·exact HI.out i z o hz hoi W s' n' hW ((hw.trans H2.out.did.below).trans dW.below) hc
 rintro e w7 ⟨rfl,h7,d7⟩;have H7:=hid (H2.out.next hx hf h7 d7);clear h7 d7 H2 x0 x1 x2 x3 x4 x5 x6;open zgP in exact Zeu):p:=h
theorem zfF.KbE(h:p:=by refine(Ya ⟨(nS op).1.toArray⟩ ⟨#[40]⟩ wc HW.out.st (by show(nS op).1.toArray.size<=_;simp;omega) Tab Taa).mono ?_;open zht in exact Zga):p:=h
theorem zei.Ka8(h:p:=by
 go_upto_region 30 with fail;go_cut [223] (λ _ wx=>qW w0 b (aq s (bl C)) n ws wx gx gf ⟨op,⟨vk,vn,vs⟩,name,width,A,k,cp⟩)
 case first=>
  have Ld:∀(q:Bool) W',q=C->qW w0 b s n ws W' gx gf ⟨op,⟨vk,vn,vs⟩,name,width,A,k,cp⟩->Calls Tryz.prog 36 #[.pointer (some ⟨b,0,none⟩),.bool q] W' λ e w'=>e=.returned (.tuple #[])/\qW w0 b (aq s (bl C)) n ws w' gx gf ⟨op,⟨vk,vn,vs⟩,name,width,A,k,cp⟩:=λ q W' hq h1=>(bp q W' h1.st).mono λ e w' h2=>by subst hq;exact⟨h2.1,h1.next hx hf h2.2.1 h2.2.2⟩
  have MS:=hid Ld;clear Ld en Fo tk;by_cases c2:vk=0
  ·subst c2;by_cases c3:vn=0
   ·subst c3;by_cases c4:vs.toList=[]
    ·skip;by_cases c6:name.toList=[]
     ·skip;by_cases c5:width=0
      ·subst c5;have kh:=hid (show true=C by rw[HC.out];simp[kX,t20,c4,c6]);exact Zaq
      ·skip;have t5:(width==0)=false:=by simpa using c5
       have kh:=hid (show false=C by rw[HC.out];simp[kX,t20,c4,c6,c5]);exact Zaq
     ·skip;have kh:=hid (show false=C by rw[HC.out];simp[kX,t20,c4,c6]);exact Zaq
    ·skip;have kh:=hid (show false=C by rw[HC.out];simp[kX,t20,c4]);exact Zaq
   ·skip;have t3_:(vn==0)=false:=by simpa using c3
    have kh:=hid (show false=C by rw[HC.out];simp[kX,t20,c3]);exact Zaq
  ·skip;have t2_:(vk==0)=false:=by simpa using c2
   have kh:=hid (show false=C by rw[HC.out];simp[kX,t20,c2]);exact Zaq
 case rest=>
 open zfF in exact Zdk):p:=h
theorem zb1.Kar(h:p:=by obtain⟨C,hC⟩:∃C:Bool,C=(kX ⟨vk,vn,vs⟩&&(name.toList== [] &&(op==20 || width==0))):=⟨_,rfl⟩;rw[<- hC];have HC:=hid hC;clear hC;open zei in exact Zb1):p:=h
theorem ze3.Kbn(h:p:=by
 rw[Ny] at h5;rw[Xf] at h7;simp only[vo,List.range,List.range.loop,List.map,h0,h3,h4,h5,h6,h7];clear hT Ny Xf h0 h3 h4 h5 h6 h7;have hsz:=Nat.le_trans hw.size (Nat.le_refl ws.heap.size);obtain⟨vk,vn,vs⟩:=v;have HH:=hid h;clear h;have HI:=hid hI;have HA:=hid hA;have HY:=hid hy;have HO:=hid ho;have HN:=hid hn;have Xa:(nS op).1.length<=6/\1<=(nS op).2/\(nS op).2<=2:=apV;have HK:=hid hk;have tk:((k:Int)==((nS op).2:Nat))=true:=by rw[hk];simp
 clear hI hA hy ho hn hk;have en:∀args w,(callFunc 60 args).run Tryz.prog w=.ok (.enter 60 args) w:=enters_of Tryz.func60 Tac rfl;open zb1 in exact ZaG):p:=h
theorem akW(hE:dM w0)(hw:Below w0.heap.size w0 ws)(t1:(op==1)=false)(t2:(op==2)=false)(t21:(op==21)=false)(t3:(op==3)=false)(t4:(op==4)=false)(t18:(op==18)=false)(t19:(op==19)=false)(t20:(op==20)=false)(Ny:cL op=false)(Xf:ko op=true) (m0:m 0=0)(hm:∀i,i < k->m i+(ci i+1)<=m (i+1))(BW:∀i,i<=k->m i<=m k)  (S:Nat->Prop)(hS:∀b,S b->b < w0.heap.size)(hk:k=(nS op).2)(hy:ys.length=k)(ho:os.length=k)(hA:RL aU 7 w0 S A ys)(hI:∀(i:Nat) z o,ys[i]?=some z->os[i]?=some o->gy 60 b w0 z o (ci i))(hw0: -9223372036854775808<=width)(BX:width<=9223372036854775807)(hn:n+5+m k<=50000000)(hT:IX T b gx gf (op))(h:qW w0 b s n ws W gx gf ⟨op,v,name,width,A,k,cp⟩)(hx:gx≠b)(hf:gf≠b):
  (jq tx 3).wp Tryz.prog (bodyPost Tryz.prog Tryz.f60 (bk w0.heap.size b (aq s (aq (bl (kX v &&(name.toList== [] &&(op==20 || width==0)))) (aq (some ((nS op).1++ [40])) (aq (some []) (aq (dV os) (some [41])))))) (n+5+m k) ws)) { tmps:=T,defers:=[] } W:=by obtain⟨u,rfl⟩:=ei T hT.sz;have apV:=afL op Xf;open ze3 in exact ZcD
theorem zgQ.Kb7(h:p:=by have:=H8.out.st.more (show n+4+m k+1<=n+5+m k by omega);rw[show dL os=dV os from Gl TaN TaN] at this;exact Zb8):p:=h
theorem zhu.Kcq(h:p:=by
 refine(gO hE width hw0 BX w2 H2.out.st (hw.trans H2.out.did.below) Taa).mono ?_;rintro e w3 ⟨rfl,h3,d3⟩;have H3:=hid (H2.out.next hx hf h3 d3);clear h3 d3 H2 x0 x1 x2 x3 x4 x5 x6;go_wp2_with fail;refine(cH ⟨#[44,32]⟩ w3 H3.out.st Tab Taa).mono ?_;rintro e w4 ⟨rfl,h4,d4⟩;have H4:=hid (H3.out.next hx hf h4 d4);clear h4 d4 H3;obtain⟨x0,x1,x2,x3,x4,x5,x6⟩:=H4.out.x.cells;dsimp only at x0 x1 x2 x3 x4 x5 x6;go_wp2_with fail;refine(xQ ci m 60 #[.pointer (some ⟨b,0,none⟩)] #[] en A cp k ys os S hS HY.out HO.out HA.out w4 H4.out.st (hw.trans H4.out.did.below) m0 hm BW Ta2 TaB (λ i z o hz hoi W s' n' dW hW hc=>?_)).mono ?_
 ·exact HI.out i z o hz hoi W s' n' hW ((hw.trans H4.out.did.below).trans dW.below) hc
 rintro e w7 ⟨rfl,h7,d7⟩;have H7:=hid (H4.out.next hx hf h7 d7);clear h7 d7 H4 x0 x1 x2 x3 x4 x5 x6;open zgQ in exact Zeu):p:=h
theorem zfG.KbE(h:p:=by refine(Ya ⟨(nS 20).1.toArray⟩ ⟨#[40]⟩ wc HW.out.st (by show(nS 20).1.toArray.size<=_;simp;omega) Tab Taa).mono ?_;open zhu in exact Zga):p:=h
theorem zej.Ka8(h:p:=by
 go_upto_region 30 with fail;go_cut [223] (λ _ wx=>qW w0 b (aq s (bl C)) n ws wx gx gf ⟨20,⟨vk,vn,vs⟩,name,width,A,k,cp⟩)
 case first=>
  have Ld:∀(q:Bool) W',q=C->qW w0 b s n ws W' gx gf ⟨20,⟨vk,vn,vs⟩,name,width,A,k,cp⟩->Calls Tryz.prog 36 #[.pointer (some ⟨b,0,none⟩),.bool q] W' λ e w'=>e=.returned (.tuple #[])/\qW w0 b (aq s (bl C)) n ws w' gx gf ⟨20,⟨vk,vn,vs⟩,name,width,A,k,cp⟩:=λ q W' hq h1=>(bp q W' h1.st).mono λ e w' h2=>by subst hq;exact⟨h2.1,h1.next hx hf h2.2.1 h2.2.2⟩
  have MS:=hid Ld;clear Ld en Fo tk;by_cases c2:vk=0
  ·subst c2;by_cases c3:vn=0
   ·subst c3;by_cases c4:vs.toList=[]
    ·skip;by_cases c6:name.toList=[]
     ·skip;have kh:=hid (show true=C by rw[HC.out];simp[kX,c4,c6]);exact Zaq
     ·skip;have kh:=hid (show false=C by rw[HC.out];simp[kX,c4,c6]);exact Zaq
    ·exact ZgR
   ·skip;have t3_:(vn==0)=false:=by simpa using c3
    exact Zg8
  ·skip;have t2_:(vk==0)=false:=by simpa using c2
   exact Zg9
 case rest=>
 open zfG in exact Zdk):p:=h
theorem zb8.Kar(h:p:=by obtain⟨C,hC⟩:∃C:Bool,C=(kX ⟨vk,vn,vs⟩&&(name.toList== [] &&(20==20 || width==0))):=⟨_,rfl⟩;rw[<- hC];have HC:=hid hC;clear hC;open zej in exact Zb1):p:=h
theorem zet.Kbb(h:p:=by
 obtain⟨vk,vn,vs⟩:=v;have HH:=hid h;clear h;have HI:=hid hI;have HA:=hid hA;have HY:=hid hy;have HO:=hid ho;have HN:=hid hn;have Xa:(nS 20).1.length<=6/\1<=(nS 20).2/\(nS 20).2<=2:=by decide
 have HK:=hid hk;have tk:((k:Int)==((nS 20).2:Nat))=true:=by rw[hk];simp
 clear hI hA hy ho hn hk;have en:∀args w,(callFunc 60 args).run Tryz.prog w=.ok (.enter 60 args) w:=enters_of Tryz.func60 Tac rfl;open zb8 in exact ZaG):p:=h
theorem zaA.Kac(h:p:=by rw[show cL 20=false from rfl] at h5;rw[show ko 20=true from rfl] at h7;open zet in exact Zb7):p:=h
theorem TS(hE:dM w0)(hw:Below w0.heap.size w0 ws) (m0:m 0=0)(hm:∀i,i < k->m i+(ci i+1)<=m (i+1))(BW:∀i,i<=k->m i<=m k)  (S:Nat->Prop)(hS:∀b,S b->b < w0.heap.size)(hk:k=(nS 20).2)(hy:ys.length=k)(ho:os.length=k)(hA:RL aU 7 w0 S A ys)(hI:∀(i:Nat) z o,ys[i]?=some z->os[i]?=some o->gy 60 b w0 z o (ci i))(hw0: -9223372036854775808<=width)(BX:width<=9223372036854775807)(hn:n+5+m k<=50000000)(hT:IX T b gx gf (20))(h:qW w0 b s n ws W gx gf ⟨20,v,name,width,A,k,cp⟩)(hx:gx≠b)(hf:gf≠b):
  (jq tx 3).wp Tryz.prog (bodyPost Tryz.prog Tryz.f60 (bk w0.heap.size b (aq s (aq (bl (kX v &&(name.toList== [] &&(20==20 || width==0)))) (aq (some ((nS 20).1++ [40])) (aq (aq (se width) (some [44,32])) (aq (dV os) (some [41])))))) (n+5+m k) ws)) { tmps:=T,defers:=[] } W:=by
 open zaA in exact Zac
theorem zdt.KaS(h:p:=by have HX:=hid (av.new wr 51 #[.int .u8 z.1.op,.int .u8 z.1.v.k,.int .i64 z.1.v.n,.string z.1.v.s,.string z.1.name,.int .i64 z.1.width,.slice z.1.A z.1.n z.1.c,.string z.2]);have bx:=aa wr (.cells #[.int .u8 z.1.op,.int .u8 z.1.v.k,.int .i64 z.1.v.n,.string z.1.v.s,.string z.1.name,.int .i64 z.1.width,.slice z.1.A z.1.n z.1.c,.string z.2] 51);exact Zad):p:=h
theorem zbK.Kao(h:p:=by open zdt in exact Zbk):p:=h
theorem zbt.Kal(h:p:=by
 go_loopw [20] (λ u wr=>∃i:Nat,i<=k/\u=.int .i64 i/\eR w0.heap.size b (aq (aq s (bl ok)) (dV (os.take i))) (n+m i) wr/\cF w0.heap.size b w wr) (λ u _=>k - (intOf u).toNat);case atStart=>exact Zbs
 case round=>
  obtain⟨i,hi,rfl,hs,hd⟩:=hrel;have HS:=hid hs;have HD:=hid hd;clear hs hd H1 D1;by_cases hlt:i < k
  ·open zbK in exact Zay
  ·exact ZaV):p:=h
theorem zbk.Kaj(h:p:=by go_enter Tryz.func84,Tryz.ntmps84;open zbt in exact Zau):p:=h
theorem Pa(ci m:Nat->Nat)(fK:FuncId)(recv mf:Array Value)(en:∀args w,(callFunc fK args).run Tryz.prog w=.ok (.enter fK args) w)(A:Option Addr)(cap k:Nat)(ys:List (Ex×ByteArray))(os:List (Option aX))(S:Nat->Prop)(hS:∀b,S b->b < w0.heap.size)
  (hk:ys.length=k) (ho:os.length=k) (hA:RL (λ y:Ex×ByteArray=>aU y.1++ [.string y.2]) 8 w0 S A ys) (w:World) (h:eR w0.heap.size b s n w) (hw:Below w0.heap.size w0 w) (m0:m 0=0) (hm:∀i,i < k->m i+(ci i+1)<=m (i+1)) (BW:∀i,i<=k->m i<=m k) (hn:n+m k<=50000000) (hkm:k<=1000000)
  (hO:∀(i:Nat) z o,ys[i]?=some z->os[i]?=some o->∀W s' n',cF w0.heap.size b w W->eR w0.heap.size b s' n' W->n'+ci i<=50000000->Calls Tryz.prog fK (recv++ #[.agg (aU z.1++ [Value.string z.2]).toArray]++mf) W (bk w0.heap.size b (aq s' o) (n'+ci i) W)):
  Calls Tryz.prog 84 #[.pointer (some ⟨b,0,none⟩),.slice A k cap,.func (.func fK) recv mf] w (bk w0.heap.size b (aq s (dL os)) (n+m k) w):=by
 open zbk in exact Zan
theorem zdu.KaS(h:p:=by have HX:=hid (av.new wr 86 #[.int .u8 z.1.op,.int .u8 z.1.v.k,.int .i64 z.1.v.n,.string z.1.v.s,.string z.1.name,.int .i64 z.1.width,.slice z.1.A z.1.n z.1.c,.bool z.2]);have bx:=aa wr (.cells #[.int .u8 z.1.op,.int .u8 z.1.v.k,.int .i64 z.1.v.n,.string z.1.v.s,.string z.1.name,.int .i64 z.1.width,.slice z.1.A z.1.n z.1.c,.bool z.2] 86);exact Zad):p:=h
theorem zbL.Kao(h:p:=by open zdu in exact Zbk):p:=h
theorem zbu.Kal(h:p:=by
 go_loopw [20] (λ u wr=>∃i:Nat,i<=k/\u=.int .i64 i/\eR w0.heap.size b (aq (aq s (bl ok)) (dV (os.take i))) (n+m i) wr/\cF w0.heap.size b w wr) (λ u _=>k - (intOf u).toNat);case atStart=>exact Zbs
 case round=>
  obtain⟨i,hi,rfl,hs,hd⟩:=hrel;have HS:=hid hs;have HD:=hid hd;clear hs hd H1 D1;by_cases hlt:i < k
  ·open zbL in exact Zay
  ·exact ZaV):p:=h
theorem zbl.Kaj(h:p:=by go_enter Tryz.func86,Tryz.ntmps86;open zbu in exact Zau):p:=h
theorem LD(ci m:Nat->Nat)(fK:FuncId)(recv mf:Array Value)(en:∀args w,(callFunc fK args).run Tryz.prog w=.ok (.enter fK args) w)(A:Option Addr)(cap k:Nat)(ys:List (Ex×Bool))(os:List (Option aX))(S:Nat->Prop)(hS:∀b,S b->b < w0.heap.size)
  (hk:ys.length=k) (ho:os.length=k) (hA:RL (λ y:Ex×Bool=>aU y.1++ [.bool y.2]) 8 w0 S A ys) (w:World) (h:eR w0.heap.size b s n w) (hw:Below w0.heap.size w0 w) (m0:m 0=0) (hm:∀i,i < k->m i+(ci i+1)<=m (i+1)) (BW:∀i,i<=k->m i<=m k) (hn:n+m k<=50000000) (hkm:k<=1000000)
  (hO:∀(i:Nat) z o,ys[i]?=some z->os[i]?=some o->∀W s' n',cF w0.heap.size b w W->eR w0.heap.size b s' n' W->n'+ci i<=50000000->Calls Tryz.prog fK (recv++ #[.agg (aU z.1++ [Value.bool z.2]).toArray]++mf) W (bk w0.heap.size b (aq s' o) (n'+ci i) W)):
  Calls Tryz.prog 86 #[.pointer (some ⟨b,0,none⟩),.slice A k cap,.func (.func fK) recv mf] w (bk w0.heap.size b (aq s (dL os)) (n+m k) w):=by
 open zbl in exact Zan
theorem zdi.KaM(h:p:=by simp only[Uaa] at x0 x1;exact ZaD):p:=h
theorem zgS.Kb8(h:p:=by
 clear k0 k1 HS HD;generalize wr.alloc _=W1 at*;clear bx lx;rcases Nat.eq_zero_or_pos i with nR | nR
 ·subst nR;have HT:=hid (mL HJ.out);have x0:=HX.out.cell 0;have x1:=HX.out.cell 1;simp only[Uaa] at x0 x1;exact ZaE
 ·open zdi in exact Zbd):p:=h
theorem zif.KcM(h:p:=by have HX:=hid (av.new wr 53 #[.string z.1,.int .u8 z.2]);have bx:=aa wr (.cells #[.string z.1,.int .u8 z.2] 53);open zgS in exact ZeA):p:=h
theorem zbM.Kao(h:p:=by
 have hcell:=λ j u hu=>(hwr.cell (p:=⟨q,off+i*2+j,none⟩) (hS q kM)).trans (hc i z j u hz hu)
 have k0:=hcell 0 _ rfl;have k1:=hcell 1 _ rfl;open zif in exact ZgS):p:=h
theorem zbv.Kal(h:p:=by
 go_loopw [20] (λ u wr=>∃i:Nat,i<=k/\u=.int .i64 i/\eR w0.heap.size b (aq (aq s (bl ok)) (dV (os.take i))) (n+m i) wr/\cF w0.heap.size b w wr) (λ u _=>k - (intOf u).toNat);case atStart=>exact Zbs
 case round=>
  obtain⟨i,hi,rfl,hs,hd⟩:=hrel;have HS:=hid hs;have HD:=hid hd;clear hs hd H1 D1;by_cases hlt:i < k
  ·open zbM in exact Zay
  ·exact ZaV):p:=h
theorem zbm.Kaj(h:p:=by go_enter Tryz.func79,Tryz.ntmps79;open zbv in exact Zau):p:=h
theorem Uu(ci m:Nat->Nat)(fK:FuncId)(recv mf:Array Value)(en:∀args w,(callFunc fK args).run Tryz.prog w=.ok (.enter fK args) w)(A:Option Addr)(cap k:Nat)(ys:List (ByteArray×Int))(os:List (Option aX))(S:Nat->Prop)(hS:∀b,S b->b < w0.heap.size)
  (hk:ys.length=k) (ho:os.length=k) (hA:RL (λ y:ByteArray×Int=> [.string y.1,.int .u8 y.2]) 2 w0 S A ys) (w:World) (h:eR w0.heap.size b s n w) (hw:Below w0.heap.size w0 w) (m0:m 0=0) (hm:∀i,i < k->m i+(ci i+1)<=m (i+1)) (BW:∀i,i<=k->m i<=m k) (hn:n+m k<=50000000) (hkm:k<=2000000)
  (hO:∀(i:Nat) z o,ys[i]?=some z->os[i]?=some o->∀W s' n',cF w0.heap.size b w W->eR w0.heap.size b s' n' W->n'+ci i<=50000000->Calls Tryz.prog fK (recv++ #[.agg #[.string z.1,.int .u8 z.2]]++mf) W (bk w0.heap.size b (aq s' o) (n'+ci i) W)):
  Calls Tryz.prog 79 #[.pointer (some ⟨b,0,none⟩),.slice A k cap,.func (.func fK) recv mf] w (bk w0.heap.size b (aq s (dL os)) (n+m k) w):=by
 open zbm in exact Zan
theorem zdv.KaS(h:p:=by have HX:=hid (av.new wr 55 #[.string z.1,.int .u8 z.2.op,.int .u8 z.2.v.k,.int .i64 z.2.v.n,.string z.2.v.s,.string z.2.name,.int .i64 z.2.width,.slice z.2.A z.2.n z.2.c]);have bx:=aa wr (.cells #[.string z.1,.int .u8 z.2.op,.int .u8 z.2.v.k,.int .i64 z.2.v.n,.string z.2.v.s,.string z.2.name,.int .i64 z.2.width,.slice z.2.A z.2.n z.2.c] 55);exact Zad):p:=h
theorem zbN.Kao(h:p:=by open zdv in exact Zbk):p:=h
theorem zbw.Kal(h:p:=by
 go_loopw [20] (λ u wr=>∃i:Nat,i<=k/\u=.int .i64 i/\eR w0.heap.size b (aq (aq s (bl ok)) (dV (os.take i))) (n+m i) wr/\cF w0.heap.size b w wr) (λ u _=>k - (intOf u).toNat);case atStart=>exact Zbs
 case round=>
  obtain⟨i,hi,rfl,hs,hd⟩:=hrel;have HS:=hid hs;have HD:=hid hd;clear hs hd H1 D1;by_cases hlt:i < k
  ·open zbN in exact Zay
  ·exact ZaV):p:=h
theorem zbn.Kaj(h:p:=by go_enter Tryz.func44,Tryz.ntmps44;open zbw in exact Zau):p:=h
theorem Uv(ci m:Nat->Nat)(fK:FuncId)(recv mf:Array Value)(en:∀args w,(callFunc fK args).run Tryz.prog w=.ok (.enter fK args) w)(A:Option Addr)(cap k:Nat)(ys:List (ByteArray×Ex))(os:List (Option aX))(S:Nat->Prop)(hS:∀b,S b->b < w0.heap.size)
  (hk:ys.length=k) (ho:os.length=k) (hA:RL (λ y:ByteArray×Ex=> .string y.1::aU y.2) 8 w0 S A ys) (w:World) (h:eR w0.heap.size b s n w) (hw:Below w0.heap.size w0 w) (m0:m 0=0) (hm:∀i,i < k->m i+(ci i+1)<=m (i+1)) (BW:∀i,i<=k->m i<=m k) (hn:n+m k<=50000000) (hkm:k<=1000000)
  (hO:∀(i:Nat) z o,ys[i]?=some z->os[i]?=some o->∀W s' n',cF w0.heap.size b w W->eR w0.heap.size b s' n' W->n'+ci i<=50000000->Calls Tryz.prog fK (recv++ #[.agg (.string z.1::aU z.2).toArray]++mf) W (bk w0.heap.size b (aq s' o) (n'+ci i) W)):
  Calls Tryz.prog 44 #[.pointer (some ⟨b,0,none⟩),.slice A k cap,.func (.func fK) recv mf] w (bk w0.heap.size b (aq s (dL os)) (n+m k) w):=by
 open zbn in exact Zan
end Go.Proofs.YtehhdlgjfdnafaaGreatDoor
