/- Parts of the proof. -/
import Derived.Test.YtehhdlgjfdnafaaGreatDoorXE15
namespace Go.Proofs.YtehhdlgjfdnafaaGreatDoor
variable{p:Prop}
set_option maxHeartbeats 90000000
set_option maxRecDepth 100000
open Go.Lib (hid)
open Go.ChangeShapes Go.WideShapes Go.ChangeAt Go.RowKit Go.Shelf List
set_option linter.unusedVariables false
set_option linter.unusedSimpArgs false
variable{os:List (Option aT)}{o:Option aT}
theorem kX(h:os[0]?=some o):dE (os.take 1)=o:=by rw[show(1:Nat)=0+1 from rfl,take_add_one,h];simp[na]
variable{i:Nat}
theorem nc(h:os[i]?=some o)(hi:0 < i):dE (os.take (i+1))=aq (dE (os.take i)) (aq (some [44,32]) o):=by
 rw[take_add_one,h];refine zV o _ λ e=>?_
 have:=congrArg List.length e
 have hl:i < os.length:=by
  rcases Nat.lt_or_ge i os.length with h' | h'
  ·exact h'
  ·exact Zgx
 rw[length_take,Nat.min_eq_left (Nat.le_of_lt hl)] at this;simp at this;omega
variable{w0:World}{b:Nat}{s:Option aT}{n:Nat}
theorem zgA.Kb1(h:p:=by simp only[Uaa] at x0 x1 x2 x3 x4 x5 x6;exact ZaE):p:=h
theorem zdh.KaM(h:p:=by open zgA in exact Zem):p:=h
theorem zhk.Kcn(h:p:=by simp only[Uaa] at x0 x1 x2 x3 x4 x5 x6;exact ZaF):p:=h
theorem zgH.Kb4(h:p:=by
 clear k0 k1 k2 k3 k4 k5 k6 HS HD;generalize wr.alloc _=W1 at*;clear bx lx;rcases Nat.eq_zero_or_pos i with mm | mm
 ·open zhk in exact Zf3
 ·open zdh in exact Zbc):p:=h
theorem zh2.KcH(h:p:=by have HX:=hid (av.new wr 36 #[.int .u8 z.op,.int .u8 z.v.k,.int .i64 z.v.n,.string z.v.s,.string z.name,.int .i64 z.width,.slice z.A z.n z.c]);have bx:=aa wr (.cells #[.int .u8 z.op,.int .u8 z.v.k,.int .i64 z.v.n,.string z.v.s,.string z.name,.int .i64 z.width,.slice z.A z.n z.c] 36);open zgH in exact Zev):p:=h
theorem zfG.KbF(h:p:=by open zh2 in exact ZgJ):p:=h
theorem zbL.Kap(h:p:=by
 have hcell:=λ j u hu=>(hwr.cell (p:=⟨q,off+i*7+j,none⟩) (hS q lH)).trans (hc i z j u hz hu)
 open zfG in exact Zdn):p:=h
theorem zbu.Kam(h:p:=by
 go_loopw [20] (λ u wr=>∃i:Nat,i<=k/\u=.int .i64 i/\eu w0.heap.size b (aq (aq s (bc ok)) (dE (os.take i))) (n+m i) wr/\ck w0.heap.size b w wr) (λ u _=>k - (intOf u).toNat);case atStart=>exact Zbq
 case round=>
  obtain⟨i,hi,rfl,hs,hd⟩:=hrel;have HS:=hid hs;have HD:=hid hd;clear hs hd H1 D1;by_cases hlt:i < k
  ·open zbL in exact Zaz
  ·exact ZaV):p:=h
theorem zbl.Kak(h:p:=by go_enter Tryz.func43,Tryz.ntmps43;open zbu in exact Zav):p:=h
theorem vt(ci m:Nat->Nat)(fK:FuncId)(recv kt:Array Value)(en:∀args w,(callFunc fK args).run Tryz.prog w=.ok (.enter fK args) w)(A:Option Addr)(cap k:Nat)(ys:List (Ex))(os:List (Option aT))(S:Nat->Prop)(hS:∀b,S b->b < w0.heap.size)
  (hk:ys.length=k) (ho:os.length=k) (hA:RL aL 7 w0 S A ys) (w:World) (h:eu w0.heap.size b s n w) (hw:Below w0.heap.size w0 w) (m0:m 0=0) (hm:∀i,i < k->m i+(ci i+1)<=m (i+1)) (yV:∀i,i<=k->m i<=m k) (hn:n+m k<=50000000) (hkm:k<=1000000)
  (hO:∀(i:Nat) z o,ys[i]?=some z->os[i]?=some o->∀W s' n',ck w0.heap.size b w W->eu w0.heap.size b s' n' W->n'+ci i<=50000000->Calls Tryz.prog fK (recv++ #[dA z]++kt) W (aW w0.heap.size b (aq s' o) (n'+ci i) W)):
  Calls Tryz.prog 43 #[.pointer (some ⟨b,0,none⟩),.slice A k cap,.func (.func fK) recv kt] w (aW w0.heap.size b (aq s (dt os)) (n+m k) w):=by
 open zbl in exact Zao
theorem N9 (op:Int)(h:jV op=true):(mL op).1.length<=6/\1<=(mL op).2/\(mL op).2<=2:=by
 have h2:op=20\/op=22\/op=23\/op=24\/op=25\/op=26\/op=27\/op=28:=by unfold jV at h;simp only[Bool.or_eq_true,Bool.and_eq_true,decide_eq_true_eq,beq_iff_eq] at h;omega
 rcases h2 with rfl | rfl | rfl | rfl | rfl | rfl | rfl | rfl <;> decide
theorem tQ (o:Option aT):aq (some []) o=o:=by cases o <;> rfl
theorem CY(h1:1<=os.length)(h2:os.length<=2):dt os=dE os:=by unfold dt;rw[decide_eq_true (show 0 < os.length by omega),decide_eq_true (show os.length<=64 by omega)];exact tQ _
variable{ws W:World}{gx gf:Nat}{op:Int}{v:Val}{name:ByteArray}{width:Int}{A:Option Addr}{k cp:Nat}{T:Array Value}{ci m:Nat->Nat}{ys:List Ex}
theorem zgD.Kb3(h:p:=by have:=H8.out.st.more (show n+2+m k+1<=n+5+m k by omega);rw[show dt os=dE os from CY TaP TaP] at this;simp only[aB,toList_toArray,tQ] at this ⊢;exact this):p:=h
theorem zhh.Kcm(h:p:=by
 refine(vt ci m 60 #[.pointer (some ⟨b,0,none⟩)] #[] en A cp k ys os S hS HY.out HO.out HA.out w2 H2.out.st (hw.trans H2.out.did.below) m0 hm yV TaZ TaA (λ i z o hz hoi W s' n' dW hW hc=>?_)).mono ?_
 ·exact HI.out i z o hz hoi W s' n' hW ((hw.trans H2.out.did.below).trans dW.below) hc
 rintro e w7 ⟨rfl,h7,d7⟩;have H7:=hid (H2.out.next hx hf h7 d7);clear h7 d7 H2 x0 x1 x2 x3 x4 x5 x6;open zgD in exact Zeo):p:=h
theorem zfw.KbB(h:p:=by refine(RT ⟨(mL op).1.toArray⟩ ⟨#[40]⟩ wc HW.out.st (by show(mL op).1.toArray.size<=_;simp;omega) Tac Taa).mono ?_;open zhh in exact Zf2):p:=h
theorem zee.Ka6(h:p:=by
 go_upto_region 30 with fail;go_cut [223] (λ _ wx=>py w0 b (aq s (bc C)) n ws wx gx gf ⟨op,⟨vk,vn,vs⟩,name,width,A,k,cp⟩)
 case first=>
  have GR:∀(q:Bool) W',q=C->py w0 b s n ws W' gx gf ⟨op,⟨vk,vn,vs⟩,name,width,A,k,cp⟩->Calls Tryz.prog 36 #[.pointer (some ⟨b,0,none⟩),.bool q] W' λ e w'=>e=.returned (.tuple #[])/\py w0 b (aq s (bc C)) n ws w' gx gf ⟨op,⟨vk,vn,vs⟩,name,width,A,k,cp⟩:=λ q W' hq h1=>(aX q W' h1.st).mono λ e w' h2=>by subst hq;exact⟨h2.1,h1.next hx hf h2.2.1 h2.2.2⟩
  have MS:=hid GR;clear GR en Ci tk;by_cases c2:vk=0
  ·subst c2;by_cases c3:vn=0
   ·subst c3;by_cases c4:vs.toList=[]
    ·skip;by_cases c6:name.toList=[]
     ·skip;by_cases c5:width=0
      ·subst c5;have jo:=hid (show true=C by rw[HC.out];simp[nB,t20,c4,c6]);exact Zar
      ·skip;have t5:(width==0)=false:=by simpa using c5
       have jo:=hid (show false=C by rw[HC.out];simp[nB,t20,c4,c6,c5]);exact Zar
     ·skip;have jo:=hid (show false=C by rw[HC.out];simp[nB,t20,c4,c6]);exact Zar
    ·skip;have jo:=hid (show false=C by rw[HC.out];simp[nB,t20,c4]);exact Zar
   ·skip;have t3_:(vn==0)=false:=by simpa using c3
    have jo:=hid (show false=C by rw[HC.out];simp[nB,t20,c3]);exact Zar
  ·skip;have t2_:(vk==0)=false:=by simpa using c2
   have jo:=hid (show false=C by rw[HC.out];simp[nB,t20,c2]);exact Zar
 case rest=>
 open zfw in exact Zdg):p:=h
theorem zb3.Kas(h:p:=by obtain⟨C,hC⟩:∃C:Bool,C=(nB ⟨vk,vn,vs⟩&&(name.toList== [] &&(op==20 || width==0))):=⟨_,rfl⟩;rw[<- hC];have HC:=hid hC;clear hC;open zee in exact ZbY):p:=h
theorem zeW.Kbl(h:p:=by
 rw[Jw] at h5;rw[QR] at h7;simp only[sT,List.range,List.range.loop,List.map,h0,h3,h4,h5,h6,h7];clear hT Jw QR h0 h3 h4 h5 h6 h7;have hsz:=Nat.le_trans hw.size (Nat.le_refl ws.heap.size);obtain⟨vk,vn,vs⟩:=v;have HH:=hid h;clear h;have HI:=hid hI;have HA:=hid hA;have HY:=hid hy;have HO:=hid ho;have HN:=hid hn;have QO:(mL op).1.length<=6/\1<=(mL op).2/\(mL op).2<=2:=ahv;have HK:=hid hk;have tk:((k:Int)==((mL op).2:Nat))=true:=by rw[hk];simp
 clear hI hA hy ho hn hk;have en:∀args w,(callFunc 60 args).run Tryz.prog w=.ok (.enter 60 args) w:=enters_of Tryz.func60 Tab rfl;open zb3 in exact ZaH):p:=h
theorem acm(hE:di w0)(hw:Below w0.heap.size w0 ws)(t1:(op==1)=false)(t2:(op==2)=false)(t21:(op==21)=false)(t3:(op==3)=false)(t4:(op==4)=false)(t18:(op==18)=false)(t19:(op==19)=false)(t20:(op==20)=false)(Jw:cT op=false)(QR:jV op=true) (m0:m 0=0)(hm:∀i,i < k->m i+(ci i+1)<=m (i+1))(yV:∀i,i<=k->m i<=m k)  (S:Nat->Prop)(hS:∀b,S b->b < w0.heap.size)(hk:k=(mL op).2)(hy:ys.length=k)(ho:os.length=k)(hA:RL aL 7 w0 S A ys)(hI:∀(i:Nat) z o,ys[i]?=some z->os[i]?=some o->fC 60 b w0 z o (ci i))(hw0: -9223372036854775808<=width)(yY:width<=9223372036854775807)(hn:n+5+m k<=50000000)(hT:EH T b gx gf (op))(h:py w0 b s n ws W gx gf ⟨op,v,name,width,A,k,cp⟩)(hx:gx≠b)(hf:gf≠b):
  (iz qX 3).wp Tryz.prog (bodyPost Tryz.prog Tryz.f60 (aW w0.heap.size b (aq s (aq (bc (nB v &&(name.toList== [] &&(op==20 || width==0)))) (aq (some ((mL op).1++ [40])) (aq (some []) (aq (dE os) (some [41])))))) (n+5+m k) ws)) { tmps:=T,defers:=[] } W:=by obtain⟨u,rfl⟩:=dJ T hT.sz;have ahv:=N9 op QR;open zeW in exact Zcz
theorem zgE.Kb3(h:p:=by have:=H8.out.st.more (show n+4+m k+1<=n+5+m k by omega);rw[show dt os=dE os from CY TaP TaP] at this;exact Zb6):p:=h
theorem zhi.Kcm(h:p:=by
 refine(fN hE width hw0 yY w2 H2.out.st (hw.trans H2.out.did.below) Taa).mono ?_;rintro e w3 ⟨rfl,h3,d3⟩;have H3:=hid (H2.out.next hx hf h3 d3);clear h3 d3 H2 x0 x1 x2 x3 x4 x5 x6;go_wp2_with fail;refine(cn ⟨#[44,32]⟩ w3 H3.out.st Tac Taa).mono ?_;rintro e w4 ⟨rfl,h4,d4⟩;have H4:=hid (H3.out.next hx hf h4 d4);clear h4 d4 H3;obtain⟨x0,x1,x2,x3,x4,x5,x6⟩:=H4.out.x.cells;dsimp only at x0 x1 x2 x3 x4 x5 x6;go_wp2_with fail;refine(vt ci m 60 #[.pointer (some ⟨b,0,none⟩)] #[] en A cp k ys os S hS HY.out HO.out HA.out w4 H4.out.st (hw.trans H4.out.did.below) m0 hm yV TaZ TaA (λ i z o hz hoi W s' n' dW hW hc=>?_)).mono ?_
 ·exact HI.out i z o hz hoi W s' n' hW ((hw.trans H4.out.did.below).trans dW.below) hc
 rintro e w7 ⟨rfl,h7,d7⟩;have H7:=hid (H4.out.next hx hf h7 d7);clear h7 d7 H4 x0 x1 x2 x3 x4 x5 x6;open zgE in exact Zeo):p:=h
theorem zfx.KbB(h:p:=by refine(RT ⟨(mL 20).1.toArray⟩ ⟨#[40]⟩ wc HW.out.st (by show(mL 20).1.toArray.size<=_;simp;omega) Tac Taa).mono ?_;open zhi in exact Zf2):p:=h
theorem zef.Ka6(h:p:=by
 go_upto_region 30 with fail;go_cut [223] (λ _ wx=>py w0 b (aq s (bc C)) n ws wx gx gf ⟨20,⟨vk,vn,vs⟩,name,width,A,k,cp⟩)
 case first=>
  have GR:∀(q:Bool) W',q=C->py w0 b s n ws W' gx gf ⟨20,⟨vk,vn,vs⟩,name,width,A,k,cp⟩->Calls Tryz.prog 36 #[.pointer (some ⟨b,0,none⟩),.bool q] W' λ e w'=>e=.returned (.tuple #[])/\py w0 b (aq s (bc C)) n ws w' gx gf ⟨20,⟨vk,vn,vs⟩,name,width,A,k,cp⟩:=λ q W' hq h1=>(aX q W' h1.st).mono λ e w' h2=>by subst hq;exact⟨h2.1,h1.next hx hf h2.2.1 h2.2.2⟩
  have MS:=hid GR;clear GR en Ci tk;by_cases c2:vk=0
  ·subst c2;by_cases c3:vn=0
   ·subst c3;by_cases c4:vs.toList=[]
    ·skip;by_cases c6:name.toList=[]
     ·skip;have jo:=hid (show true=C by rw[HC.out];simp[nB,c4,c6]);exact Zar
     ·skip;have jo:=hid (show false=C by rw[HC.out];simp[nB,c4,c6]);exact Zar
    ·exact ZgI
   ·skip;have t3_:(vn==0)=false:=by simpa using c3
    exact ZgZ
  ·skip;have t2_:(vk==0)=false:=by simpa using c2
   exact Zg0
 case rest=>
 open zfx in exact Zdg):p:=h
theorem zca.Kas(h:p:=by obtain⟨C,hC⟩:∃C:Bool,C=(nB ⟨vk,vn,vs⟩&&(name.toList== [] &&(20==20 || width==0))):=⟨_,rfl⟩;rw[<- hC];have HC:=hid hC;clear hC;open zef in exact ZbY):p:=h
theorem zer.Kba(h:p:=by
 obtain⟨vk,vn,vs⟩:=v;have HH:=hid h;clear h;have HI:=hid hI;have HA:=hid hA;have HY:=hid hy;have HO:=hid ho;have HN:=hid hn;have QO:(mL 20).1.length<=6/\1<=(mL 20).2/\(mL 20).2<=2:=by decide
 have HK:=hid hk;have tk:((k:Int)==((mL 20).2:Nat))=true:=by rw[hk];simp
 clear hI hA hy ho hn hk;have en:∀args w,(callFunc 60 args).run Tryz.prog w=.ok (.enter 60 args) w:=enters_of Tryz.func60 Tab rfl;open zca in exact ZaH):p:=h
theorem zaA.Kac(h:p:=by rw[show cT 20=false from rfl] at h5;rw[show jV 20=true from rfl] at h7;open zer in exact Zb5):p:=h
theorem Ow(hE:di w0)(hw:Below w0.heap.size w0 ws) (m0:m 0=0)(hm:∀i,i < k->m i+(ci i+1)<=m (i+1))(yV:∀i,i<=k->m i<=m k)  (S:Nat->Prop)(hS:∀b,S b->b < w0.heap.size)(hk:k=(mL 20).2)(hy:ys.length=k)(ho:os.length=k)(hA:RL aL 7 w0 S A ys)(hI:∀(i:Nat) z o,ys[i]?=some z->os[i]?=some o->fC 60 b w0 z o (ci i))(hw0: -9223372036854775808<=width)(yY:width<=9223372036854775807)(hn:n+5+m k<=50000000)(hT:EH T b gx gf (20))(h:py w0 b s n ws W gx gf ⟨20,v,name,width,A,k,cp⟩)(hx:gx≠b)(hf:gf≠b):
  (iz qX 3).wp Tryz.prog (bodyPost Tryz.prog Tryz.f60 (aW w0.heap.size b (aq s (aq (bc (nB v &&(name.toList== [] &&(20==20 || width==0)))) (aq (some ((mL 20).1++ [40])) (aq (aq (vq width) (some [44,32])) (aq (dE os) (some [41])))))) (n+5+m k) ws)) { tmps:=T,defers:=[] } W:=by
 open zaA in exact Zac
theorem zdp.KaQ(h:p:=by have HX:=hid (av.new wr 51 #[.int .u8 z.1.op,.int .u8 z.1.v.k,.int .i64 z.1.v.n,.string z.1.v.s,.string z.1.name,.int .i64 z.1.width,.slice z.1.A z.1.n z.1.c,.string z.2]);have bx:=aa wr (.cells #[.int .u8 z.1.op,.int .u8 z.1.v.k,.int .i64 z.1.v.n,.string z.1.v.s,.string z.1.name,.int .i64 z.1.width,.slice z.1.A z.1.n z.1.c,.string z.2] 51);exact Zad):p:=h
theorem zbM.Kap(h:p:=by open zdp in exact Zbh):p:=h
theorem zbv.Kam(h:p:=by
 go_loopw [20] (λ u wr=>∃i:Nat,i<=k/\u=.int .i64 i/\eu w0.heap.size b (aq (aq s (bc ok)) (dE (os.take i))) (n+m i) wr/\ck w0.heap.size b w wr) (λ u _=>k - (intOf u).toNat);case atStart=>exact Zbq
 case round=>
  obtain⟨i,hi,rfl,hs,hd⟩:=hrel;have HS:=hid hs;have HD:=hid hd;clear hs hd H1 D1;by_cases hlt:i < k
  ·open zbM in exact Zaz
  ·exact ZaV):p:=h
theorem zbm.Kak(h:p:=by go_enter Tryz.func84,Tryz.ntmps84;open zbv in exact Zav):p:=h
theorem KU(ci m:Nat->Nat)(fK:FuncId)(recv kt:Array Value)(en:∀args w,(callFunc fK args).run Tryz.prog w=.ok (.enter fK args) w)(A:Option Addr)(cap k:Nat)(ys:List (Ex×ByteArray))(os:List (Option aT))(S:Nat->Prop)(hS:∀b,S b->b < w0.heap.size)
  (hk:ys.length=k) (ho:os.length=k) (hA:RL (λ y:Ex×ByteArray=>aL y.1++ [.string y.2]) 8 w0 S A ys) (w:World) (h:eu w0.heap.size b s n w) (hw:Below w0.heap.size w0 w) (m0:m 0=0) (hm:∀i,i < k->m i+(ci i+1)<=m (i+1)) (yV:∀i,i<=k->m i<=m k) (hn:n+m k<=50000000) (hkm:k<=1000000)
  (hO:∀(i:Nat) z o,ys[i]?=some z->os[i]?=some o->∀W s' n',ck w0.heap.size b w W->eu w0.heap.size b s' n' W->n'+ci i<=50000000->Calls Tryz.prog fK (recv++ #[.agg (aL z.1++ [Value.string z.2]).toArray]++kt) W (aW w0.heap.size b (aq s' o) (n'+ci i) W)):
  Calls Tryz.prog 84 #[.pointer (some ⟨b,0,none⟩),.slice A k cap,.func (.func fK) recv kt] w (aW w0.heap.size b (aq s (dt os)) (n+m k) w):=by
 open zbm in exact Zao
theorem zdq.KaQ(h:p:=by have HX:=hid (av.new wr 86 #[.int .u8 z.1.op,.int .u8 z.1.v.k,.int .i64 z.1.v.n,.string z.1.v.s,.string z.1.name,.int .i64 z.1.width,.slice z.1.A z.1.n z.1.c,.bool z.2]);have bx:=aa wr (.cells #[.int .u8 z.1.op,.int .u8 z.1.v.k,.int .i64 z.1.v.n,.string z.1.v.s,.string z.1.name,.int .i64 z.1.width,.slice z.1.A z.1.n z.1.c,.bool z.2] 86);exact Zad):p:=h
theorem zbN.Kap(h:p:=by open zdq in exact Zbh):p:=h
theorem zbw.Kam(h:p:=by
 go_loopw [20] (λ u wr=>∃i:Nat,i<=k/\u=.int .i64 i/\eu w0.heap.size b (aq (aq s (bc ok)) (dE (os.take i))) (n+m i) wr/\ck w0.heap.size b w wr) (λ u _=>k - (intOf u).toNat);case atStart=>exact Zbq
 case round=>
  obtain⟨i,hi,rfl,hs,hd⟩:=hrel;have HS:=hid hs;have HD:=hid hd;clear hs hd H1 D1;by_cases hlt:i < k
  ·open zbN in exact Zaz
  ·exact ZaV):p:=h
theorem zbn.Kak(h:p:=by go_enter Tryz.func86,Tryz.ntmps86;open zbw in exact Zav):p:=h
theorem Ig(ci m:Nat->Nat)(fK:FuncId)(recv kt:Array Value)(en:∀args w,(callFunc fK args).run Tryz.prog w=.ok (.enter fK args) w)(A:Option Addr)(cap k:Nat)(ys:List (Ex×Bool))(os:List (Option aT))(S:Nat->Prop)(hS:∀b,S b->b < w0.heap.size)
  (hk:ys.length=k) (ho:os.length=k) (hA:RL (λ y:Ex×Bool=>aL y.1++ [.bool y.2]) 8 w0 S A ys) (w:World) (h:eu w0.heap.size b s n w) (hw:Below w0.heap.size w0 w) (m0:m 0=0) (hm:∀i,i < k->m i+(ci i+1)<=m (i+1)) (yV:∀i,i<=k->m i<=m k) (hn:n+m k<=50000000) (hkm:k<=1000000)
  (hO:∀(i:Nat) z o,ys[i]?=some z->os[i]?=some o->∀W s' n',ck w0.heap.size b w W->eu w0.heap.size b s' n' W->n'+ci i<=50000000->Calls Tryz.prog fK (recv++ #[.agg (aL z.1++ [Value.bool z.2]).toArray]++kt) W (aW w0.heap.size b (aq s' o) (n'+ci i) W)):
  Calls Tryz.prog 86 #[.pointer (some ⟨b,0,none⟩),.slice A k cap,.func (.func fK) recv kt] w (aW w0.heap.size b (aq s (dt os)) (n+m k) w):=by
 open zbn in exact Zao
theorem zdi.KaM(h:p:=by simp only[Uaa] at x0 x1;exact ZaE):p:=h
theorem zgG.Kb4(h:p:=by
 clear k0 k1 HS HD;generalize wr.alloc _=W1 at*;clear bx lx;rcases Nat.eq_zero_or_pos i with mm | mm
 ·subst mm;have HT:=hid (kX HJ.out);have x0:=HX.out.cell 0;have x1:=HX.out.cell 1;simp only[Uaa] at x0 x1;exact ZaF
 ·open zdi in exact Zbc):p:=h
theorem zh1.KcH(h:p:=by have HX:=hid (av.new wr 53 #[.string z.1,.int .u8 z.2]);have bx:=aa wr (.cells #[.string z.1,.int .u8 z.2] 53);open zgG in exact Zev):p:=h
theorem zbO.Kap(h:p:=by
 have hcell:=λ j u hu=>(hwr.cell (p:=⟨q,off+i*2+j,none⟩) (hS q lH)).trans (hc i z j u hz hu)
 have k0:=hcell 0 _ rfl;have k1:=hcell 1 _ rfl;open zh1 in exact ZgJ):p:=h
theorem zbx.Kam(h:p:=by
 go_loopw [20] (λ u wr=>∃i:Nat,i<=k/\u=.int .i64 i/\eu w0.heap.size b (aq (aq s (bc ok)) (dE (os.take i))) (n+m i) wr/\ck w0.heap.size b w wr) (λ u _=>k - (intOf u).toNat);case atStart=>exact Zbq
 case round=>
  obtain⟨i,hi,rfl,hs,hd⟩:=hrel;have HS:=hid hs;have HD:=hid hd;clear hs hd H1 D1;by_cases hlt:i < k
  ·open zbO in exact Zaz
  ·exact ZaV):p:=h
theorem zbo.Kak(h:p:=by go_enter Tryz.func79,Tryz.ntmps79;open zbx in exact Zav):p:=h
theorem Pz(ci m:Nat->Nat)(fK:FuncId)(recv kt:Array Value)(en:∀args w,(callFunc fK args).run Tryz.prog w=.ok (.enter fK args) w)(A:Option Addr)(cap k:Nat)(ys:List (ByteArray×Int))(os:List (Option aT))(S:Nat->Prop)(hS:∀b,S b->b < w0.heap.size)
  (hk:ys.length=k) (ho:os.length=k) (hA:RL (λ y:ByteArray×Int=> [.string y.1,.int .u8 y.2]) 2 w0 S A ys) (w:World) (h:eu w0.heap.size b s n w) (hw:Below w0.heap.size w0 w) (m0:m 0=0) (hm:∀i,i < k->m i+(ci i+1)<=m (i+1)) (yV:∀i,i<=k->m i<=m k) (hn:n+m k<=50000000) (hkm:k<=2000000)
  (hO:∀(i:Nat) z o,ys[i]?=some z->os[i]?=some o->∀W s' n',ck w0.heap.size b w W->eu w0.heap.size b s' n' W->n'+ci i<=50000000->Calls Tryz.prog fK (recv++ #[.agg #[.string z.1,.int .u8 z.2]]++kt) W (aW w0.heap.size b (aq s' o) (n'+ci i) W)):
  Calls Tryz.prog 79 #[.pointer (some ⟨b,0,none⟩),.slice A k cap,.func (.func fK) recv kt] w (aW w0.heap.size b (aq s (dt os)) (n+m k) w):=by
 open zbo in exact Zao
theorem zdr.KaQ(h:p:=by have HX:=hid (av.new wr 55 #[.string z.1,.int .u8 z.2.op,.int .u8 z.2.v.k,.int .i64 z.2.v.n,.string z.2.v.s,.string z.2.name,.int .i64 z.2.width,.slice z.2.A z.2.n z.2.c]);have bx:=aa wr (.cells #[.string z.1,.int .u8 z.2.op,.int .u8 z.2.v.k,.int .i64 z.2.v.n,.string z.2.v.s,.string z.2.name,.int .i64 z.2.width,.slice z.2.A z.2.n z.2.c] 55);exact Zad):p:=h
theorem zbP.Kap(h:p:=by open zdr in exact Zbh):p:=h
theorem zby.Kam(h:p:=by
 go_loopw [20] (λ u wr=>∃i:Nat,i<=k/\u=.int .i64 i/\eu w0.heap.size b (aq (aq s (bc ok)) (dE (os.take i))) (n+m i) wr/\ck w0.heap.size b w wr) (λ u _=>k - (intOf u).toNat);case atStart=>exact Zbq
 case round=>
  obtain⟨i,hi,rfl,hs,hd⟩:=hrel;have HS:=hid hs;have HD:=hid hd;clear hs hd H1 D1;by_cases hlt:i < k
  ·open zbP in exact Zaz
  ·exact ZaV):p:=h
theorem zbp.Kak(h:p:=by go_enter Tryz.func44,Tryz.ntmps44;open zby in exact Zav):p:=h
theorem PA(ci m:Nat->Nat)(fK:FuncId)(recv kt:Array Value)(en:∀args w,(callFunc fK args).run Tryz.prog w=.ok (.enter fK args) w)(A:Option Addr)(cap k:Nat)(ys:List (ByteArray×Ex))(os:List (Option aT))(S:Nat->Prop)(hS:∀b,S b->b < w0.heap.size)
  (hk:ys.length=k) (ho:os.length=k) (hA:RL (λ y:ByteArray×Ex=> .string y.1::aL y.2) 8 w0 S A ys) (w:World) (h:eu w0.heap.size b s n w) (hw:Below w0.heap.size w0 w) (m0:m 0=0) (hm:∀i,i < k->m i+(ci i+1)<=m (i+1)) (yV:∀i,i<=k->m i<=m k) (hn:n+m k<=50000000) (hkm:k<=1000000)
  (hO:∀(i:Nat) z o,ys[i]?=some z->os[i]?=some o->∀W s' n',ck w0.heap.size b w W->eu w0.heap.size b s' n' W->n'+ci i<=50000000->Calls Tryz.prog fK (recv++ #[.agg (.string z.1::aL z.2).toArray]++kt) W (aW w0.heap.size b (aq s' o) (n'+ci i) W)):
  Calls Tryz.prog 44 #[.pointer (some ⟨b,0,none⟩),.slice A k cap,.func (.func fK) recv kt] w (aW w0.heap.size b (aq s (dt os)) (n+m k) w):=by
 open zbp in exact Zao
end Go.Proofs.YtehhdlgjfdnafaaGreatDoor
