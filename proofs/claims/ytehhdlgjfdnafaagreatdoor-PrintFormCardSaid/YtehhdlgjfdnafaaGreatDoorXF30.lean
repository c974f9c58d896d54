/- Parts of the proof. -/
import Derived.Test.YtehhdlgjfdnafaaGreatDoorXF25
namespace Go.Proofs.YtehhdlgjfdnafaaGreatDoor
variable{p:Prop}
set_option maxHeartbeats 90000000
set_option maxRecDepth 100000
open Go.Lib (hid)
open Go.ChangeShapes Go.WideShapes Go.ChangeAt Go.RowKit Go.Shelf List
set_option linter.unusedVariables false
set_option linter.unusedSimpArgs false
def Bh:List (Int×Value):=[(9,dI [114,101,102,114,101,115,104]),(10,dI [99,111,109,112,114,101,115,115]),(11,dI [100,101,99,111,109,112,114,101,115,115]),(12,dI [100,114,111,112,95,99,104,117,110,107,115])]
def nv (b g:Nat)(y:gT)(vb:Bool):Nat->World->Value->Prop
 | 0,_,v=>v=.pointer (some ⟨b,0,none⟩)
 | 1,_,v=>v=.pointer (some ⟨g,22,none⟩)
 | 2,_,v=>v=.agg #[.int .u8 y.aP.k,.int .i64 y.aP.n,.string y.aP.s]
 | 3,_,v=>v=.agg #[.int .u8 0,.int .i64 0,.string ⟨#[]⟩]
 | 4,_,v=>v=.bool vb
 | _,_,_=>False
theorem DA (b g:Nat)(y:gT)(vb:Bool):∀i w w' v,nv b g y vb i w v->af w w'->nv b g y vb i w' v:=by
 intro i w w' v h hl
 match i with
 | 0 | 1 | 2 | 3 | 4=>exact h
 | n+5=>exact h
theorem zV:Tryz.prog.built 32 []=some #[.int .u8 0,.int .i64 0,.string ⟨#[]⟩]:=by kernel_rfl
variable{w0:World}{b n m:Nat}{s0:Option aX}{S:Nat->Prop}{s:St}{y:gT}
theorem zcT.KaC(h:p:=by have:=tz.out.st.more (show n+3+1+1+1+1+1+1<=n+(13*Tr.aG s.exprs+4*s.bg.length+3*s.rows.length+80) by omega);rw[HA.out.name,zt.out,HA.out.dx,HA.out.aP] at this;exact ZfV):p:=h
theorem zbF.Kan(h:p:=by rw[show y.kind=9 from Zj.out] at x0;have x22:w6.cell? ⟨g1,22,none⟩=some (.int .u8 y.aP.k):=H6.out.q.cell 22;have x23:w6.cell? ⟨g1,23,none⟩=some (.int .i64 y.aP.n):=H6.out.q.cell 23;have x24:w6.cell? ⟨g1,24,none⟩=some (.string y.aP.s):=H6.out.q.cell 24;have p0:w6.cell? ⟨g0,0,none⟩=some (.pointer (some ⟨b,0,none⟩)):=H6.out.p.cell 0;go_wp2_with fail;refine(tW hE y.aP (by rw[HA.out.aP];exact HF.out.aP.1) (by rw[HA.out.aP];exact HF.out.aP.2) w6 H6.out.st H6.out.hw Taa).mono ?_;rintro e w7 ⟨rfl,h2,d2⟩;have H7:=hid (H6.out.next hg0 hg1 h2 d2);clear h2 d2 H6 p0 x0 x22 x23 x24;have p0:w7.cell? ⟨g0,0,none⟩=some (.pointer (some ⟨b,0,none⟩)):=H7.out.p.cell 0;go_wp2_with fail;refine(cH ⟨#[44,32]⟩ w7 H7.out.st Tab Taa).mono ?_;rintro e w8 ⟨rfl,h2,d2⟩;have H8:=hid (H7.out.next hg0 hg1 h2 d2);clear h2 d2 H7 p0;open zcT in exact ZaZ):p:=h
theorem zd5.Ka3(h:p:=by refine(CX ⟨#[67,65,76,76,32]⟩ ⟨#[114,101,102,114,101,115,104]⟩ ⟨#[40]⟩ w3 H3.out.st Tab Tab Tab Taa).mono ?_;open zbF in exact Zax):p:=h
theorem zbP.Kap(h:p:=by rw[kZ Tryz.underlying92 Tryz.underlying5 hM 9 (z:=dI []) (λ w=>by kernel_rfl),show(Bh.lookup 9).getD (dI [])=dI [114,101,102,114,101,115,104] from rfl];open zd5 in exact ZbK):p:=h
theorem zbf.Kai(h:p:=by
 have x0:w2.cell? ⟨g1,0,none⟩=some (.int .u8 9):=by have:=H2.out.q.cell 0;rw[show(cd y).toArray[0]?=some (.int .u8 y.kind)from rfl,show y.kind=9 from Zj.out] at this;exact this
 open zbP in exact ZaA):p:=h
theorem zaa.Kaa(h:p:=by
 have x0:oQ.cell? ⟨g1,0,none⟩=some (.int .u8 9):=by have:=H0.out.q.cell 0;rw[show(cd y).toArray[0]?=some (.int .u8 y.kind)from rfl,nJ] at this;exact this
 open zbf in exact Zam):p:=h
theorem zcO.KaB(h:p:=by clear py;open zaa in exact Zaa):p:=h
theorem UG(hE:dM w0) (hS:∀b,S b->b < w0.heap.size)  (h:s.at_ w0 S y)(hf:s.mB m)(hm:m<=1048576)(w:World)(hst:eR w0.heap.size b s0 n w)(hw:Below w0.heap.size w0 w)(hk:s.kind=9)(hn:n+s.cost<=49999000):
  Calls Tryz.prog 19 #[.pointer (some ⟨b,0,none⟩),mK y] w (bk w0.heap.size b (aq s0 (ct s)) (n+s.cost) w):=by
 rw[show ct s=aq (bl (cY s false false false false false false false false true)) (aq (some ([67,65,76,76,32]++ [114,101,102,114,101,115,104]++ [40])) (aq (dz s.name) (aq (some [44,32]) (aq (aq (vS s.aP) (some [44,32])) (aq (vS s.dx) (some [41])))))) by unfold ct;rw[hk];rfl];have nJ:y.kind=9:=by rw[h.kind,hk]
 open zcO in exact ZaY
theorem zbG.Kan(h:p:=by rw[show y.kind=10 from Zj.out] at x0;exact Zas):p:=h
theorem zd6.Ka3(h:p:=by refine(CX ⟨#[67,65,76,76,32]⟩ ⟨#[99,111,109,112,114,101,115,115]⟩ ⟨#[40]⟩ w3 H3.out.st Tab Tab Tab Taa).mono ?_;open zbG in exact Zax):p:=h
theorem zbQ.Kap(h:p:=by rw[kZ Tryz.underlying92 Tryz.underlying5 hM 10 (z:=dI []) (λ w=>by kernel_rfl),show(Bh.lookup 10).getD (dI [])=dI [99,111,109,112,114,101,115,115] from rfl];open zd6 in exact ZbK):p:=h
theorem zbg.Kai(h:p:=by
 have x0:w2.cell? ⟨g1,0,none⟩=some (.int .u8 10):=by have:=H2.out.q.cell 0;rw[show(cd y).toArray[0]?=some (.int .u8 y.kind)from rfl,show y.kind=10 from Zj.out] at this;exact this
 open zbQ in exact ZaA):p:=h
theorem zab.Kaa(h:p:=by
 have x0:oQ.cell? ⟨g1,0,none⟩=some (.int .u8 10):=by have:=H0.out.q.cell 0;rw[show(cd y).toArray[0]?=some (.int .u8 y.kind)from rfl,nJ] at this;exact this
 open zbg in exact Zam):p:=h
theorem zcP.KaB(h:p:=by clear py;open zab in exact Zaa):p:=h
theorem Pq(hE:dM w0) (hS:∀b,S b->b < w0.heap.size)  (h:s.at_ w0 S y)(hf:s.mB m)(hm:m<=1048576)(w:World)(hst:eR w0.heap.size b s0 n w)(hw:Below w0.heap.size w0 w)(hk:s.kind=10)(hn:n+s.cost<=49999000):
  Calls Tryz.prog 19 #[.pointer (some ⟨b,0,none⟩),mK y] w (bk w0.heap.size b (aq s0 (ct s)) (n+s.cost) w):=by
 rw[show ct s=aq (bl (cY s false false false false false false false false true)) (aq (some ([67,65,76,76,32]++ [99,111,109,112,114,101,115,115]++ [40])) (aq (dz s.name) (aq (some [44,32]) (aq (bl (kX s.aP)) (aq (vS s.dx) (some [41])))))) by unfold ct;rw[hk];rfl];have nJ:y.kind=10:=by rw[h.kind,hk]
 open zcP in exact ZaY
theorem zbH.Kan(h:p:=by rw[show y.kind=11 from Zj.out] at x0;exact Zas):p:=h
theorem zd7.Ka3(h:p:=by refine(CX ⟨#[67,65,76,76,32]⟩ ⟨#[100,101,99,111,109,112,114,101,115,115]⟩ ⟨#[40]⟩ w3 H3.out.st Tab Tab Tab Taa).mono ?_;open zbH in exact Zax):p:=h
theorem zbR.Kap(h:p:=by rw[kZ Tryz.underlying92 Tryz.underlying5 hM 11 (z:=dI []) (λ w=>by kernel_rfl),show(Bh.lookup 11).getD (dI [])=dI [100,101,99,111,109,112,114,101,115,115] from rfl];open zd7 in exact ZbK):p:=h
theorem zbh.Kai(h:p:=by
 have x0:w2.cell? ⟨g1,0,none⟩=some (.int .u8 11):=by have:=H2.out.q.cell 0;rw[show(cd y).toArray[0]?=some (.int .u8 y.kind)from rfl,show y.kind=11 from Zj.out] at this;exact this
 open zbR in exact ZaA):p:=h
theorem zac.Kaa(h:p:=by
 have x0:oQ.cell? ⟨g1,0,none⟩=some (.int .u8 11):=by have:=H0.out.q.cell 0;rw[show(cd y).toArray[0]?=some (.int .u8 y.kind)from rfl,nJ] at this;exact this
 open zbh in exact Zam):p:=h
theorem zcQ.KaB(h:p:=by clear py;open zac in exact Zaa):p:=h
theorem Pr(hE:dM w0) (hS:∀b,S b->b < w0.heap.size)  (h:s.at_ w0 S y)(hf:s.mB m)(hm:m<=1048576)(w:World)(hst:eR w0.heap.size b s0 n w)(hw:Below w0.heap.size w0 w)(hk:s.kind=11)(hn:n+s.cost<=49999000):
  Calls Tryz.prog 19 #[.pointer (some ⟨b,0,none⟩),mK y] w (bk w0.heap.size b (aq s0 (ct s)) (n+s.cost) w):=by
 rw[show ct s=aq (bl (cY s false false false false false false false false true)) (aq (some ([67,65,76,76,32]++ [100,101,99,111,109,112,114,101,115,115]++ [40])) (aq (dz s.name) (aq (some [44,32]) (aq (bl (kX s.aP)) (aq (vS s.dx) (some [41])))))) by unfold ct;rw[hk];rfl];have nJ:y.kind=11:=by rw[h.kind,hk]
 open zcQ in exact ZaY
theorem zbI.Kan(h:p:=by rw[show y.kind=12 from Zj.out] at x0;exact Zas):p:=h
theorem zd8.Ka3(h:p:=by refine(CX ⟨#[67,65,76,76,32]⟩ ⟨#[100,114,111,112,95,99,104,117,110,107,115]⟩ ⟨#[40]⟩ w3 H3.out.st Tab Tab Tab Taa).mono ?_;open zbI in exact Zax):p:=h
theorem zbS.Kap(h:p:=by rw[kZ Tryz.underlying92 Tryz.underlying5 hM 12 (z:=dI []) (λ w=>by kernel_rfl),show(Bh.lookup 12).getD (dI [])=dI [100,114,111,112,95,99,104,117,110,107,115] from rfl];open zd8 in exact ZbK):p:=h
theorem zbi.Kai(h:p:=by
 have x0:w2.cell? ⟨g1,0,none⟩=some (.int .u8 12):=by have:=H2.out.q.cell 0;rw[show(cd y).toArray[0]?=some (.int .u8 y.kind)from rfl,show y.kind=12 from Zj.out] at this;exact this
 open zbS in exact ZaA):p:=h
theorem zad.Kaa(h:p:=by
 have x0:oQ.cell? ⟨g1,0,none⟩=some (.int .u8 12):=by have:=H0.out.q.cell 0;rw[show(cd y).toArray[0]?=some (.int .u8 y.kind)from rfl,nJ] at this;exact this
 open zbi in exact Zam):p:=h
theorem zcR.KaB(h:p:=by clear py;open zad in exact Zaa):p:=h
theorem Pt(hE:dM w0) (hS:∀b,S b->b < w0.heap.size)  (h:s.at_ w0 S y)(hf:s.mB m)(hm:m<=1048576)(w:World)(hst:eR w0.heap.size b s0 n w)(hw:Below w0.heap.size w0 w)(hk:s.kind=12)(hn:n+s.cost<=49999000):
  Calls Tryz.prog 19 #[.pointer (some ⟨b,0,none⟩),mK y] w (bk w0.heap.size b (aq s0 (ct s)) (n+s.cost) w):=by
 rw[show ct s=aq (bl (cY s false false false false false false false false true)) (aq (some ([67,65,76,76,32]++ [100,114,111,112,95,99,104,117,110,107,115]++ [40])) (aq (dz s.name) (aq (some [44,32]) (aq (bl (kX s.aP)) (aq (vS s.dx) (some [41])))))) by unfold ct;rw[hk];rfl];have nJ:y.kind=12:=by rw[h.kind,hk]
 open zcR in exact ZaY
section
variable {w0:World} {b:Nat} {s:Option aX} {n:Nat}
theorem mP (hE:dM w0)(wd nm:ByteArray)(w:World)(h:eR w0.heap.size b s n w)(hw:Below w0.heap.size w0 w)(hl:wd.size<=1000)(hs:nm.size<=1048576)(hn:n+3<=50000000):
  Calls Tryz.prog 38 #[.pointer (some ⟨b,0,none⟩),.string wd,.string nm] w (bk w0.heap.size b (aq s (aq (some (wd.data.toList++ [32])) (dz nm))) (n+3) w):=by have HH:=hid h;clear h;go_enter Tryz.func38,Tryz.ntmps38;go_wp2_with fail;refine(Ya wd ⟨#[32]⟩ w HH.out Taa Tab Taa).mono ?_;rintro e w2 ⟨rfl,h2,d2⟩;have H2:=hid h2;have D2:=hid d2;clear h2 d2 HH;go_wp2_with fail;refine(eL hE nm w2 H2.out (hw.trans D2.out.below) hs Taa).mono ?_;rintro e w3 ⟨rfl,h3,d3⟩;have H3:=hid h3;have D3:=hid (D2.out.trans d3);clear h3 d3 H2 D2;go_wp2_with fail;go_end0;refine⟨rfl,?_,D3.out⟩;have:=H3.out;exact Zek
theorem zgJ.Kb4(h:p:=by
 have hcg:(l.map Tr.cost).getD i 0=x.cost:=by simp[List.getD,hx]
 rw[hcg] at hc ⊢;rw[Nat.add_zero];exact Tr.xf hE hS x z hr BI.1 BI.2 Taa Wr s' n' hW ((hw.trans D2.out.below).trans dW.below) (by simpa using hc)):p:=h
theorem zb2.Kar(h:p:=by
 have en:∀args w,(callFunc 23 args).run Tryz.prog w=.ok (.enter 23 args) w:=enters_of Tryz.func23 Tac rfl;have EN:=hid en;clear hc iq vU hR hA hf h hp en hlen;go_enter Tryz.func42,Tryz.ntmps42;have p0:=HP.out.cell 0;simp only[getElem?_toArray,getElem?_cons_zero] at p0;go_wp2_with fail;refine(cH ⟨#[40]⟩ w HH.out Tab Taa).mono ?_;rintro e w2 ⟨rfl,h2,d2⟩;have H2:=hid h2;have D2:=hid d2;have HP2:=hid (d2.blk HP.out Jd Tab);clear h2 d2 HH HP p0;have p0:=HP2.out.cell 0;simp only[getElem?_toArray,getElem?_cons_zero] at p0;go_wp2_with fail;refine(xQ (λ i=>(l.map Tr.cost).getD i 0+0) (gB (l.map Tr.cost)) 23 #[.pointer (some ⟨b,0,none⟩)] #[] EN.out A cp k ys (l.map Tr.whole) S hS (by rw[HYL.out,HL.out]) Tat HR.out w2 H2.out (hw.trans D2.out.below) (jU _) (λ i hi=>vA _ 0 Tab i Tap) (λ i hi=>by have:=rk (l.map Tr.cost) i Tap;rw[Ds.out] at this;exact this) Ta6 YO ?_).mono ?_
 ·open zgJ in exact Zeq
 rintro e w3 ⟨rfl,h3,d3⟩;rw[HC.out] at h3;have H3:=hid h3;have D3:=hid (D2.out.trans d3);have HP3:=hid (d3.blk HP2.out Jd Tab);clear h3 d3 H2 D2 HP2 p0;have p0:=HP3.out.cell 0;simp only[getElem?_toArray,getElem?_cons_zero] at p0;go_wp2_with fail;refine(cH ⟨#[41]⟩ w3 H3.out Tab Taa).mono ?_;rintro e w4 ⟨rfl,h4,d4⟩;have H4:=hid h4;have D4:=hid (D3.out.trans d4);clear h4 d4 H3 D3 HP3 p0;go_wp2_with fail;go_end0;refine⟨rfl,?_,D4.out⟩;have:=H4.out.more (show n+1+Tr.costs l+1<=n+Tr.costs l+2 by omega);unfold zH;exact Zek):p:=h
theorem YR {p:Nat}(hE:dM w0) {S:Nat->Prop}(hS:∀b,S b->b < w0.heap.size)(z:Sl)(l:List Tr)(hl:fy.sl w0 S z l)(hf:∀x∈l,x.fine/\x.thin)(hN:Tr.aG l<=1000000)(w:World)(h:eR w0.heap.size b s n w)(hw:Below w0.heap.size w0 w)(hp:av w p 87 #[.pointer (some ⟨b,0,none⟩)])(Jd:p≠b)(hn:n+Tr.costs l+2<=50000000):
  Calls Tryz.prog 42 #[.slice z.A z.n z.c,.pointer (some ⟨p,0,none⟩)] w (bk w0.heap.size b (aq s (zH l)) (n+Tr.costs l+2) w):=by
 obtain⟨vU,ys,hR,hA⟩:=hl;obtain⟨A,k,cp⟩:=z;replace vU:k=l.length:=vU;have hlen:List.length (α:=Ex) ys=l.length:=hA.len;have YO:k<=1000000:=by have:=ft l;omega
 have hc:=pj l;have iq:(l.map Tr.cost).length=k:=by rw[length_map,vU]
 rw[iq] at hc;have HC:=hid hc;have Ds:=hid iq;have HL:=hid vU;have HYL:=hid hlen;have HR:=hid hR;have HA:=hid hA;have HF:=hid hf;have HH:=hid h;have HP:=hid hp;open zb2 in exact ZaG
theorem zh5.KcH(h:p:=by have:=H3.out.more (show n+1+1+c<=n+c+2 by omega);exact Zek):p:=h
theorem zf3.KbO(h:p:=by refine(HX.out w2 _ _ H2.out (hw.trans D2.out.below) Taa).mono ?_;open zh5 in exact ZgE):p:=h
theorem zgv.KbY(h:p:=by go_wp2_with fail;refine(cH ⟨#[32,61,32]⟩ w1 H1.out Tab Taa).mono ?_;open zf3 in exact ZdY):p:=h
theorem zeQ.Kbh(h:p:=by obtain⟨x0,x1,x2,x3,x4,x5,x6,x7⟩:=p8 HB.out;have p0:=HP.out.cell 0;simp only[getElem?_toArray,getElem?_cons_zero] at p0;go_wp2_with fail;refine(eL hE nm W1 HS.out (hw.trans HD.out.below) HL.out Taa).mono ?_;open zgv in exact Zeg):p:=h
theorem YS {p:Nat}(hE:dM w0)(z:ByteArray×Ex) {o:Option aX} {c:Nat}(hl:z.1.size<=1048576)(hx:gy 23 b w0 z.2 o c)(w:World)(h:eR w0.heap.size b s n w)(hw:Below w0.heap.size w0 w)(hp:av w p 87 #[.pointer (some ⟨b,0,none⟩)])(Jd:p≠b)(hn:n+c+2<=50000000):
  Calls Tryz.prog 45 #[.agg (Value.string z.1::aU z.2).toArray,.pointer (some ⟨p,0,none⟩)] w (bk w0.heap.size b (aq s (aq (dz z.1) (aq (some [32,61,32]) o))) (n+c+2) w):=by obtain⟨nm,⟨op,v,name,width,A,k,cp⟩⟩:=z;have HX:=hid hx;have HH:=hid h;have hsz:=h.size;have hlt:=h.lt;have HL:=hid hl;clear hx h hl;unfold aU;go_enter Tryz.func45,Tryz.ntmps45;have bx:=aa w (.cells #[.string nm,.int .u8 op,.int .u8 v.k,.int .i64 v.n,.string v.s,.string name,.int .i64 width,.slice A k cp] 55);have HB:=hid (av.new w 55 #[.string nm,.int .u8 op,.int .u8 v.k,.int .i64 v.n,.string v.s,.string name,.int .i64 width,.slice A k cp]);open zeQ in exact Zck
theorem aaD (t:Int)(h0:0<=t):t.tmod 4=0\/t.tmod 4=1\/t.tmod 4=2\/t.tmod 4=3:=by rw[Int.tmod_eq_emod_of_nonneg h0];omega
end
end Go.Proofs.YtehhdlgjfdnafaaGreatDoor
