/- Parts of the proof. -/
import Derived.Test.YtehhdlgjfdnafaaGreatDoorXB25
namespace Go.Proofs.YtehhdlgjfdnafaaGreatDoor
variable{p:Prop}
set_option maxHeartbeats 90000000
set_option maxRecDepth 100000
open Go.Lib (hid)
open Go.ChangeShapes Go.WideShapes Go.ChangeAt Go.RowKit Go.Shelf List
set_option linter.unusedVariables false
set_option linter.unusedSimpArgs false
def Am:List (Int×Value):=[(9,dv [114,101,102,114,101,115,104]),(10,dv [99,111,109,112,114,101,115,115]),(11,dv [100,101,99,111,109,112,114,101,115,115]),(12,dv [100,114,111,112,95,99,104,117,110,107,115])]
def nv (b g:Nat)(y:fl)(vb:Bool):Nat->World->Value->Prop
 | 0,_,v=>v=.pointer (some ⟨b,0,none⟩)
 | 1,_,v=>v=.pointer (some ⟨g,22,none⟩)
 | 2,_,v=>v=.agg #[.int .u8 y.aK.k,.int .i64 y.aK.n,.string y.aK.s]
 | 3,_,v=>v=.agg #[.int .u8 0,.int .i64 0,.string ⟨#[]⟩]
 | 4,_,v=>v=.bool vb
 | _,_,_=>False
theorem CU (b g:Nat)(y:fl)(vb:Bool):∀i w w' v,nv b g y vb i w v->af w w'->nv b g y vb i w' v:=by
 intro i w w' v h hl
 match i with
 | 0 | 1 | 2 | 3 | 4=>exact h
 | n+5=>exact h
theorem zt:Tryz.prog.built 32 []=some #[.int .u8 0,.int .i64 0,.string ⟨#[]⟩]:=by exact Zhj
variable{w0:World}{b n m:Nat}{s0:Option aV}{S:Nat->Prop}{s:St}{y:fl}
theorem zdc.KaG(h:p:=by have:=sq.out.st.more (show n+3+1+1+1+1+1+1<=n+(13*Tr.aQ s.exprs+4*s.aJ.length+3*s.rows.length+80) by omega);rw[HA.out.name,yK.out,HA.out.cP,HA.out.aK] at this;exact Zf2):p:=h
theorem zbU.Kaq(h:p:=by rw[show y.kind=9 from Yn.out] at x0;have x22:w6.cell? ⟨g1,22,none⟩=some (.int .u8 y.aK.k):=H6.out.q.cell 22;have x23:w6.cell? ⟨g1,23,none⟩=some (.int .i64 y.aK.n):=H6.out.q.cell 23;have Wa:w6.cell? ⟨g1,24,none⟩=some (.string y.aK.s):=H6.out.q.cell 24;have p0:w6.cell? ⟨g0,0,none⟩=some (.pointer (some ⟨b,0,none⟩)):=H6.out.p.cell 0;go_wp2_with fail;refine(tu hE y.aK (by rw[HA.out.aK];exact HF.out.aK.1) (by rw[HA.out.aK];exact HF.out.aK.2) w6 H6.out.st H6.out.hw Taa).mono ?_;rintro e w7 ⟨rfl,h2,d2⟩;have H7:=hid (H6.out.next hg0 hg1 h2 d2);clear h2 d2 H6 p0 x0 x22 x23 Wa;have p0:w7.cell? ⟨g0,0,none⟩=some (.pointer (some ⟨b,0,none⟩)):=H7.out.p.cell 0;go_wp2_with fail;refine(cA ⟨#[44,32]⟩ w7 H7.out.st Tab Taa).mono ?_;rintro e w8 ⟨rfl,h2,d2⟩;have H8:=hid (H7.out.next hg0 hg1 h2 d2);clear h2 d2 H7 p0;open zdc in exact Za3):p:=h
theorem zev.Ka9(h:p:=by refine(Cs ⟨#[67,65,76,76,32]⟩ ⟨#[114,101,102,114,101,115,104]⟩ ⟨#[40]⟩ w3 H3.out.st Tab Tab Tab Taa).mono ?_;open zbU in exact ZaA):p:=h
theorem zb4.Kas(h:p:=by rw[ky Tryz.underlying92 Tryz.underlying5 hM 9 (z:=dv []) (λ w=>by kernel_rfl),show(Am.lookup 9).getD (dv [])=dv [114,101,102,114,101,115,104] from rfl];open zev in exact ZbR):p:=h
theorem zbl.Kaj(h:p:=by
 have x0:w2.cell? ⟨g1,0,none⟩=some (.int .u8 9):=by have:=H2.out.q.cell 0;rw[show(bD y).toArray[0]?=some (.int .u8 y.kind)from rfl,show y.kind=9 from Yn.out] at this;exact this
 open zb4 in exact ZaD):p:=h
theorem zaa.Kaa(h:p:=by
 have x0:nR.cell? ⟨g1,0,none⟩=some (.int .u8 9):=by have:=H0.out.q.cell 0;rw[show(bD y).toArray[0]?=some (.int .u8 y.kind)from rfl,mS] at this;exact this
 open zbl in exact Zan):p:=h
theorem zc7.KaF(h:p:=by clear oy;open zaa in exact Zaa):p:=h
theorem TR(hE:dy w0) (hS:∀b,S b->b < w0.heap.size)  (h:s.at_ w0 S y)(hf:s.jb m)(hm:m<=1048576)(w:World)(hst:eI w0.heap.size b s0 n w)(hw:Below w0.heap.size w0 w)(hk:s.kind=9)(hn:n+s.cost<=49999000):
  Calls Tryz.prog 19 #[.pointer (some ⟨b,0,none⟩),ji y] w (ba w0.heap.size b (aq s0 (cF s)) (n+s.cost) w):=by
 rw[show cF s=aq (bg (dJ s false false false false false false false false true)) (aq (some ([67,65,76,76,32]++ [114,101,102,114,101,115,104]++ [40])) (aq (dx s.name) (aq (some [44,32]) (aq (aq (xi s.aK) (some [44,32])) (aq (xi s.cP) (some [41])))))) by unfold cF;rw[hk];rfl];have mS:y.kind=9:=by rw[h.kind,hk]
 open zc7 in exact Za2
theorem zbV.Kaq(h:p:=by rw[show y.kind=10 from Yn.out] at x0;exact Zau):p:=h
theorem zew.Ka9(h:p:=by refine(Cs ⟨#[67,65,76,76,32]⟩ ⟨#[99,111,109,112,114,101,115,115]⟩ ⟨#[40]⟩ w3 H3.out.st Tab Tab Tab Taa).mono ?_;open zbV in exact ZaA):p:=h
theorem zb5.Kas(h:p:=by rw[ky Tryz.underlying92 Tryz.underlying5 hM 10 (z:=dv []) (λ w=>by kernel_rfl),show(Am.lookup 10).getD (dv [])=dv [99,111,109,112,114,101,115,115] from rfl];open zew in exact ZbR):p:=h
theorem zbm.Kaj(h:p:=by
 have x0:w2.cell? ⟨g1,0,none⟩=some (.int .u8 10):=by have:=H2.out.q.cell 0;rw[show(bD y).toArray[0]?=some (.int .u8 y.kind)from rfl,show y.kind=10 from Yn.out] at this;exact this
 open zb5 in exact ZaD):p:=h
theorem zab.Kaa(h:p:=by
 have x0:nR.cell? ⟨g1,0,none⟩=some (.int .u8 10):=by have:=H0.out.q.cell 0;rw[show(bD y).toArray[0]?=some (.int .u8 y.kind)from rfl,mS] at this;exact this
 open zbm in exact Zan):p:=h
theorem zc8.KaF(h:p:=by clear oy;open zab in exact Zaa):p:=h
theorem Oy(hE:dy w0) (hS:∀b,S b->b < w0.heap.size)  (h:s.at_ w0 S y)(hf:s.jb m)(hm:m<=1048576)(w:World)(hst:eI w0.heap.size b s0 n w)(hw:Below w0.heap.size w0 w)(hk:s.kind=10)(hn:n+s.cost<=49999000):
  Calls Tryz.prog 19 #[.pointer (some ⟨b,0,none⟩),ji y] w (ba w0.heap.size b (aq s0 (cF s)) (n+s.cost) w):=by
 rw[show cF s=aq (bg (dJ s false false false false false false false false true)) (aq (some ([67,65,76,76,32]++ [99,111,109,112,114,101,115,115]++ [40])) (aq (dx s.name) (aq (some [44,32]) (aq (bg (oP s.aK)) (aq (xi s.cP) (some [41])))))) by unfold cF;rw[hk];rfl];have mS:y.kind=10:=by rw[h.kind,hk]
 open zc8 in exact Za2
theorem zbW.Kaq(h:p:=by rw[show y.kind=11 from Yn.out] at x0;exact Zau):p:=h
theorem zex.Ka9(h:p:=by refine(Cs ⟨#[67,65,76,76,32]⟩ ⟨#[100,101,99,111,109,112,114,101,115,115]⟩ ⟨#[40]⟩ w3 H3.out.st Tab Tab Tab Taa).mono ?_;open zbW in exact ZaA):p:=h
theorem zb6.Kas(h:p:=by rw[ky Tryz.underlying92 Tryz.underlying5 hM 11 (z:=dv []) (λ w=>by kernel_rfl),show(Am.lookup 11).getD (dv [])=dv [100,101,99,111,109,112,114,101,115,115] from rfl];open zex in exact ZbR):p:=h
theorem zbn.Kaj(h:p:=by
 have x0:w2.cell? ⟨g1,0,none⟩=some (.int .u8 11):=by have:=H2.out.q.cell 0;rw[show(bD y).toArray[0]?=some (.int .u8 y.kind)from rfl,show y.kind=11 from Yn.out] at this;exact this
 open zb6 in exact ZaD):p:=h
theorem zac.Kaa(h:p:=by
 have x0:nR.cell? ⟨g1,0,none⟩=some (.int .u8 11):=by have:=H0.out.q.cell 0;rw[show(bD y).toArray[0]?=some (.int .u8 y.kind)from rfl,mS] at this;exact this
 open zbn in exact Zan):p:=h
theorem zc9.KaF(h:p:=by clear oy;open zac in exact Zaa):p:=h
theorem Oz(hE:dy w0) (hS:∀b,S b->b < w0.heap.size)  (h:s.at_ w0 S y)(hf:s.jb m)(hm:m<=1048576)(w:World)(hst:eI w0.heap.size b s0 n w)(hw:Below w0.heap.size w0 w)(hk:s.kind=11)(hn:n+s.cost<=49999000):
  Calls Tryz.prog 19 #[.pointer (some ⟨b,0,none⟩),ji y] w (ba w0.heap.size b (aq s0 (cF s)) (n+s.cost) w):=by
 rw[show cF s=aq (bg (dJ s false false false false false false false false true)) (aq (some ([67,65,76,76,32]++ [100,101,99,111,109,112,114,101,115,115]++ [40])) (aq (dx s.name) (aq (some [44,32]) (aq (bg (oP s.aK)) (aq (xi s.cP) (some [41])))))) by unfold cF;rw[hk];rfl];have mS:y.kind=11:=by rw[h.kind,hk]
 open zc9 in exact Za2
theorem zbX.Kaq(h:p:=by rw[show y.kind=12 from Yn.out] at x0;exact Zau):p:=h
theorem zey.Ka9(h:p:=by refine(Cs ⟨#[67,65,76,76,32]⟩ ⟨#[100,114,111,112,95,99,104,117,110,107,115]⟩ ⟨#[40]⟩ w3 H3.out.st Tab Tab Tab Taa).mono ?_;open zbX in exact ZaA):p:=h
theorem zb7.Kas(h:p:=by rw[ky Tryz.underlying92 Tryz.underlying5 hM 12 (z:=dv []) (λ w=>by kernel_rfl),show(Am.lookup 12).getD (dv [])=dv [100,114,111,112,95,99,104,117,110,107,115] from rfl];open zey in exact ZbR):p:=h
theorem zbo.Kaj(h:p:=by
 have x0:w2.cell? ⟨g1,0,none⟩=some (.int .u8 12):=by have:=H2.out.q.cell 0;rw[show(bD y).toArray[0]?=some (.int .u8 y.kind)from rfl,show y.kind=12 from Yn.out] at this;exact this
 open zb7 in exact ZaD):p:=h
theorem zad.Kaa(h:p:=by
 have x0:nR.cell? ⟨g1,0,none⟩=some (.int .u8 12):=by have:=H0.out.q.cell 0;rw[show(bD y).toArray[0]?=some (.int .u8 y.kind)from rfl,mS] at this;exact this
 open zbo in exact Zan):p:=h
theorem zda.KaF(h:p:=by clear oy;open zad in exact Zaa):p:=h
theorem OA(hE:dy w0) (hS:∀b,S b->b < w0.heap.size)  (h:s.at_ w0 S y)(hf:s.jb m)(hm:m<=1048576)(w:World)(hst:eI w0.heap.size b s0 n w)(hw:Below w0.heap.size w0 w)(hk:s.kind=12)(hn:n+s.cost<=49999000):
  Calls Tryz.prog 19 #[.pointer (some ⟨b,0,none⟩),ji y] w (ba w0.heap.size b (aq s0 (cF s)) (n+s.cost) w):=by
 rw[show cF s=aq (bg (dJ s false false false false false false false false true)) (aq (some ([67,65,76,76,32]++ [100,114,111,112,95,99,104,117,110,107,115]++ [40])) (aq (dx s.name) (aq (some [44,32]) (aq (bg (oP s.aK)) (aq (xi s.cP) (some [41])))))) by unfold cF;rw[hk];rfl];have mS:y.kind=12:=by rw[h.kind,hk]
 open zda in exact Za2
section
variable {w0:World} {b:Nat} {s:Option aV} {n:Nat}
theorem mj (hE:dy w0)(wd nm:ByteArray)(w:World)(h:eI w0.heap.size b s n w)(hw:Below w0.heap.size w0 w)(hl:wd.size<=1000)(hs:nm.size<=1048576)(hn:n+3<=50000000):
  Calls Tryz.prog 38 #[.pointer (some ⟨b,0,none⟩),.string wd,.string nm] w (ba w0.heap.size b (aq s (aq (some (wd.data.toList++ [32])) (dx nm))) (n+3) w):=by have HH:=hid h;clear h;go_enter Tryz.func38,Tryz.ntmps38;go_wp2_with fail;refine(Xc wd ⟨#[32]⟩ w HH.out Taa Tab Taa).mono ?_;rintro e w2 ⟨rfl,h2,d2⟩;have H2:=hid h2;have D2:=hid d2;clear h2 d2 HH;go_wp2_with fail;refine(ey hE nm w2 H2.out (hw.trans D2.out.below) hs Taa).mono ?_;rintro e w3 ⟨rfl,h3,d3⟩;have H3:=hid h3;have D3:=hid (D2.out.trans d3);clear h3 d3 H2 D2;go_wp2_with fail;go_end0;refine⟨rfl,?_,D3.out⟩;have:=H3.out;exact Zeu
theorem zhc.Kcb(h:p:=by
 have hcg:(l.map Tr.cost).getD i 0=x.cost:=by simp[List.getD,hx]
 rw[hcg] at hc ⊢;rw[Nat.add_zero];exact Tr.vZ hE hS x z hr AQ.1 AQ.2 Taa Wr s' n' hW ((hw.trans D2.out.below).trans dW.below) (by simpa using hc)):p:=h
theorem zch.Kau(h:p:=by
 have en:∀args w,(callFunc 23 args).run Tryz.prog w=.ok (.enter 23 args) w:=enters_of Tryz.func23 Tac rfl;have EN:=hid en;clear hc fW vg hR hA hf h hp en hlen;go_enter Tryz.func42,Tryz.ntmps42;have p0:=HP.out.cell 0;simp only[getElem?_toArray,getElem?_cons_zero] at p0;go_wp2_with fail;refine(cA ⟨#[40]⟩ w HH.out Tab Taa).mono ?_;rintro e w2 ⟨rfl,h2,d2⟩;have H2:=hid h2;have D2:=hid d2;have HP2:=hid (d2.blk HP.out Ie Tab);clear h2 d2 HH HP p0;have p0:=HP2.out.cell 0;simp only[getElem?_toArray,getElem?_cons_zero] at p0;go_wp2_with fail;refine(xm (λ i=>(l.map Tr.cost).getD i 0+0) (gb (l.map Tr.cost)) 23 #[.pointer (some ⟨b,0,none⟩)] #[] EN.out A cp k ys (l.map Tr.whole) S hS (by rw[HYL.out,HL.out]) Tas HR.out w2 H2.out (hw.trans D2.out.below) (jE _) (λ i hi=>uN _ 0 Tab i Tap) (λ i hi=>by have:=qu (l.map Tr.cost) i Tap;rw[CL.out] at this;exact this) Ta2 XT ?_).mono ?_
 ·open zhc in exact ZeA
 rintro e w3 ⟨rfl,h3,d3⟩;rw[HC.out] at h3;have H3:=hid h3;have D3:=hid (D2.out.trans d3);have HP3:=hid (d3.blk HP2.out Ie Tab);clear h3 d3 H2 D2 HP2 p0;have p0:=HP3.out.cell 0;simp only[getElem?_toArray,getElem?_cons_zero] at p0;go_wp2_with fail;refine(cA ⟨#[41]⟩ w3 H3.out Tab Taa).mono ?_;rintro e w4 ⟨rfl,h4,d4⟩;have H4:=hid h4;have D4:=hid (D3.out.trans d4);clear h4 d4 H3 D3 HP3 p0;go_wp2_with fail;go_end0;refine⟨rfl,?_,D4.out⟩;have:=H4.out.more (show n+1+Tr.costs l+1<=n+Tr.costs l+2 by omega);unfold AE;exact Zeu):p:=h
theorem XW {p:Nat}(hE:dy w0) {S:Nat->Prop}(hS:∀b,S b->b < w0.heap.size)(z:Sl)(l:List Tr)(hl:eE.sl w0 S z l)(hf:∀x∈l,x.fine/\x.thin)(hN:Tr.aQ l<=1000000)(w:World)(h:eI w0.heap.size b s n w)(hw:Below w0.heap.size w0 w)(hp:av w p 87 #[.pointer (some ⟨b,0,none⟩)])(Ie:p≠b)(hn:n+Tr.costs l+2<=50000000):
  Calls Tryz.prog 42 #[.slice z.A z.n z.c,.pointer (some ⟨p,0,none⟩)] w (ba w0.heap.size b (aq s (AE l)) (n+Tr.costs l+2) w):=by
 obtain⟨vg,ys,hR,hA⟩:=hl;obtain⟨A,k,cp⟩:=z;replace vg:k=l.length:=vg;have hlen:List.length (α:=Ex) ys=l.length:=hA.len;have XT:k<=1000000:=by have:=fg l;omega
 have hc:=oq l;have fW:(l.map Tr.cost).length=k:=by rw[length_map,vg]
 rw[fW] at hc;have HC:=hid hc;have CL:=hid fW;have HL:=hid vg;have HYL:=hid hlen;have HR:=hid hR;have HA:=hid hA;have HF:=hid hf;have HH:=hid h;have HP:=hid hp;open zch in exact ZaJ
theorem ziB.KcP(h:p:=by have:=H3.out.more (show n+1+1+c<=n+c+2 by omega);exact Zeu):p:=h
theorem zgB.KbW(h:p:=by refine(HX.out w2 _ _ H2.out (hw.trans D2.out.below) Taa).mono ?_;open ziB in exact ZgO):p:=h
theorem zgY.Kb5(h:p:=by go_wp2_with fail;refine(cA ⟨#[32,61,32]⟩ w1 H1.out Tab Taa).mono ?_;open zgB in exact Zd9):p:=h
theorem zfg.Kbn(h:p:=by obtain⟨x0,x1,x2,x3,x4,x5,x6,x7⟩:=p8 HB.out;have p0:=HP.out.cell 0;simp only[getElem?_toArray,getElem?_cons_zero] at p0;go_wp2_with fail;refine(ey hE nm W1 HS.out (hw.trans HD.out.below) HL.out Taa).mono ?_;open zgY in exact Zeq):p:=h
theorem XX {p:Nat}(hE:dy w0)(z:ByteArray×Ex) {o:Option aV} {c:Nat}(hl:z.1.size<=1048576)(hx:fZ 23 b w0 z.2 o c)(w:World)(h:eI w0.heap.size b s n w)(hw:Below w0.heap.size w0 w)(hp:av w p 87 #[.pointer (some ⟨b,0,none⟩)])(Ie:p≠b)(hn:n+c+2<=50000000):
  Calls Tryz.prog 45 #[.agg (Value.string z.1::aT z.2).toArray,.pointer (some ⟨p,0,none⟩)] w (ba w0.heap.size b (aq s (aq (dx z.1) (aq (some [32,61,32]) o))) (n+c+2) w):=by obtain⟨nm,⟨op,v,name,width,A,k,cp⟩⟩:=z;have HX:=hid hx;have HH:=hid h;have hsz:=h.size;have hlt:=h.lt;have HL:=hid hl;clear hx h hl;unfold aT;go_enter Tryz.func45,Tryz.ntmps45;have bx:=aa w (.cells #[.string nm,.int .u8 op,.int .u8 v.k,.int .i64 v.n,.string v.s,.string name,.int .i64 width,.slice A k cp] 55);have HB:=hid (av.new w 55 #[.string nm,.int .u8 op,.int .u8 v.k,.int .i64 v.n,.string v.s,.string name,.int .i64 width,.slice A k cp]);open zfg in exact Zcs
theorem V7 (t:Int)(h0:0<=t):t.tmod 4=0\/t.tmod 4=1\/t.tmod 4=2\/t.tmod 4=3:=by rw[Int.tmod_eq_emod_of_nonneg h0];omega
end
end Go.Proofs.YtehhdlgjfdnafaaGreatDoor
