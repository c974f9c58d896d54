/- Parts of the proof. -/
import Derived.Test.YtehhdlgjfdnafaaGreatDoorXE25
namespace Go.Proofs.YtehhdlgjfdnafaaGreatDoor
variable{p:Prop}
set_option maxHeartbeats 90000000
set_option maxRecDepth 100000
open Go.Lib (hid)
open Go.ChangeShapes Go.WideShapes Go.ChangeAt Go.RowKit Go.Shelf List
set_option linter.unusedVariables false
set_option linter.unusedSimpArgs false
def yj:List (Int×Value):=[(9,df [114,101,102,114,101,115,104]),(10,df [99,111,109,112,114,101,115,115]),(11,df [100,101,99,111,109,112,114,101,115,115]),(12,df [100,114,111,112,95,99,104,117,110,107,115])]
def nv (b g:Nat)(y:fX)(vb:Bool):Nat->World->Value->Prop
 | 0,_,v=>v=.pointer (some ⟨b,0,none⟩)
 | 1,_,v=>v=.pointer (some ⟨g,22,none⟩)
 | 2,_,v=>v=.agg #[.int .u8 y.aN.k,.int .i64 y.aN.n,.string y.aN.s]
 | 3,_,v=>v=.agg #[.int .u8 0,.int .i64 0,.string ⟨#[]⟩]
 | 4,_,v=>v=.bool vb
 | _,_,_=>False
theorem Bc (b g:Nat)(y:fX)(vb:Bool):∀i w w' v,nv b g y vb i w v->af w w'->nv b g y vb i w' v:=by
 intro i w w' v h hl
 match i with
 | 0 | 1 | 2 | 3 | 4=>exact h
 | n+5=>exact h
theorem xr:Tryz.prog.built 32 []=some #[.int .u8 0,.int .i64 0,.string ⟨#[]⟩]:=by kernel_rfl
variable{w0:World}{b n m:Nat}{s0:Option aT}{S:Nat->Prop}{s:St}{y:fX}
theorem zcV.KaD(h:p:=by have:=qY.out.st.more (show n+3+1+1+1+1+1+1<=n+(13*Tr.aM s.exprs+4*s.aY.length+3*s.rows.length+80) by omega);rw[HA.out.name,wz.out,HA.out.dH,HA.out.aN] at this;exact ZfM):p:=h
theorem zbH.Kao(h:p:=by rw[show y.kind=9 from TR.out] at x0;have x22:w6.cell? ⟨g1,22,none⟩=some (.int .u8 y.aN.k):=H6.out.q.cell 22;have x23:w6.cell? ⟨g1,23,none⟩=some (.int .i64 y.aN.n):=H6.out.q.cell 23;have x24:w6.cell? ⟨g1,24,none⟩=some (.string y.aN.s):=H6.out.q.cell 24;have p0:w6.cell? ⟨g0,0,none⟩=some (.pointer (some ⟨b,0,none⟩)):=H6.out.p.cell 0;go_wp2_with fail;refine(sj hE y.aN (by rw[HA.out.aN];exact HF.out.aN.1) (by rw[HA.out.aN];exact HF.out.aN.2) w6 H6.out.st H6.out.hw Taa).mono ?_;rintro e w7 ⟨rfl,h2,d2⟩;have H7:=hid (H6.out.next hg0 hg1 h2 d2);clear h2 d2 H6 p0 x0 x22 x23 x24;have p0:w7.cell? ⟨g0,0,none⟩=some (.pointer (some ⟨b,0,none⟩)):=H7.out.p.cell 0;go_wp2_with fail;refine(cn ⟨#[44,32]⟩ w7 H7.out.st Tac Taa).mono ?_;rintro e w8 ⟨rfl,h2,d2⟩;have H8:=hid (H7.out.next hg0 hg1 h2 d2);clear h2 d2 H7 p0;open zcV in exact ZaZ):p:=h
theorem zd1.Ka1(h:p:=by refine(Ab ⟨#[67,65,76,76,32]⟩ ⟨#[114,101,102,114,101,115,104]⟩ ⟨#[40]⟩ w3 H3.out.st Tac Tac Tac Taa).mono ?_;open zbH in exact Zay):p:=h
theorem zbR.Kaq(h:p:=by rw[jH Tryz.underlying92 Tryz.underlying5 hM 9 (z:=df []) (λ w=>by kernel_rfl),show(yj.lookup 9).getD (df [])=df [114,101,102,114,101,115,104] from rfl];open zd1 in exact ZbI):p:=h
theorem zbh.Kaj(h:p:=by
 have x0:w2.cell? ⟨g1,0,none⟩=some (.int .u8 9):=by have:=H2.out.q.cell 0;rw[show(bI y).toArray[0]?=some (.int .u8 y.kind)from rfl,show y.kind=9 from TR.out] at this;exact this
 open zbR in exact ZaB):p:=h
theorem zaa.Kaa(h:p:=by
 have x0:ni.cell? ⟨g1,0,none⟩=some (.int .u8 9):=by have:=H0.out.q.cell 0;rw[show(bI y).toArray[0]?=some (.int .u8 y.kind)from rfl,mb] at this;exact this
 open zbh in exact Zan):p:=h
theorem zcQ.KaC(h:p:=by clear nN;open zaa in exact Zaa):p:=h
theorem PL(hE:di w0) (hS:∀b,S b->b < w0.heap.size)  (h:s.at_ w0 S y)(hf:s.my m)(hm:m<=1048576)(w:World)(hst:eu w0.heap.size b s0 n w)(hw:Below w0.heap.size w0 w)(hk:s.kind=9)(hn:n+s.cost<=49999000):
  Calls Tryz.prog 19 #[.pointer (some ⟨b,0,none⟩),mC y] w (aW w0.heap.size b (aq s0 (cB s)) (n+s.cost) w):=by
 rw[show cB s=aq (bc (dv s false false false false false false false false true)) (aq (some ([67,65,76,76,32]++ [114,101,102,114,101,115,104]++ [40])) (aq (cS s.name) (aq (some [44,32]) (aq (aq (yy s.aN) (some [44,32])) (aq (yy s.dH) (some [41])))))) by unfold cB;rw[hk];rfl];have mb:y.kind=9:=by rw[h.kind,hk]
 open zcQ in exact ZaY
theorem zbI.Kao(h:p:=by rw[show y.kind=10 from TR.out] at x0;exact Zat):p:=h
theorem zd2.Ka1(h:p:=by refine(Ab ⟨#[67,65,76,76,32]⟩ ⟨#[99,111,109,112,114,101,115,115]⟩ ⟨#[40]⟩ w3 H3.out.st Tac Tac Tac Taa).mono ?_;open zbI in exact Zay):p:=h
theorem zbS.Kaq(h:p:=by rw[jH Tryz.underlying92 Tryz.underlying5 hM 10 (z:=df []) (λ w=>by kernel_rfl),show(yj.lookup 10).getD (df [])=df [99,111,109,112,114,101,115,115] from rfl];open zd2 in exact ZbI):p:=h
theorem zbi.Kaj(h:p:=by
 have x0:w2.cell? ⟨g1,0,none⟩=some (.int .u8 10):=by have:=H2.out.q.cell 0;rw[show(bI y).toArray[0]?=some (.int .u8 y.kind)from rfl,show y.kind=10 from TR.out] at this;exact this
 open zbS in exact ZaB):p:=h
theorem zab.Kaa(h:p:=by
 have x0:ni.cell? ⟨g1,0,none⟩=some (.int .u8 10):=by have:=H0.out.q.cell 0;rw[show(bI y).toArray[0]?=some (.int .u8 y.kind)from rfl,mb] at this;exact this
 open zbi in exact Zan):p:=h
theorem zcR.KaC(h:p:=by clear nN;open zab in exact Zaa):p:=h
theorem Li(hE:di w0) (hS:∀b,S b->b < w0.heap.size)  (h:s.at_ w0 S y)(hf:s.my m)(hm:m<=1048576)(w:World)(hst:eu w0.heap.size b s0 n w)(hw:Below w0.heap.size w0 w)(hk:s.kind=10)(hn:n+s.cost<=49999000):
  Calls Tryz.prog 19 #[.pointer (some ⟨b,0,none⟩),mC y] w (aW w0.heap.size b (aq s0 (cB s)) (n+s.cost) w):=by
 rw[show cB s=aq (bc (dv s false false false false false false false false true)) (aq (some ([67,65,76,76,32]++ [99,111,109,112,114,101,115,115]++ [40])) (aq (cS s.name) (aq (some [44,32]) (aq (bc (nB s.aN)) (aq (yy s.dH) (some [41])))))) by unfold cB;rw[hk];rfl];have mb:y.kind=10:=by rw[h.kind,hk]
 open zcR in exact ZaY
theorem zbJ.Kao(h:p:=by rw[show y.kind=11 from TR.out] at x0;exact Zat):p:=h
theorem zd3.Ka1(h:p:=by refine(Ab ⟨#[67,65,76,76,32]⟩ ⟨#[100,101,99,111,109,112,114,101,115,115]⟩ ⟨#[40]⟩ w3 H3.out.st Tac Tac Tac Taa).mono ?_;open zbJ in exact Zay):p:=h
theorem zbT.Kaq(h:p:=by rw[jH Tryz.underlying92 Tryz.underlying5 hM 11 (z:=df []) (λ w=>by kernel_rfl),show(yj.lookup 11).getD (df [])=df [100,101,99,111,109,112,114,101,115,115] from rfl];open zd3 in exact ZbI):p:=h
theorem zbj.Kaj(h:p:=by
 have x0:w2.cell? ⟨g1,0,none⟩=some (.int .u8 11):=by have:=H2.out.q.cell 0;rw[show(bI y).toArray[0]?=some (.int .u8 y.kind)from rfl,show y.kind=11 from TR.out] at this;exact this
 open zbT in exact ZaB):p:=h
theorem zac.Kaa(h:p:=by
 have x0:ni.cell? ⟨g1,0,none⟩=some (.int .u8 11):=by have:=H0.out.q.cell 0;rw[show(bI y).toArray[0]?=some (.int .u8 y.kind)from rfl,mb] at this;exact this
 open zbj in exact Zan):p:=h
theorem zcS.KaC(h:p:=by clear nN;open zac in exact Zaa):p:=h
theorem Lj(hE:di w0) (hS:∀b,S b->b < w0.heap.size)  (h:s.at_ w0 S y)(hf:s.my m)(hm:m<=1048576)(w:World)(hst:eu w0.heap.size b s0 n w)(hw:Below w0.heap.size w0 w)(hk:s.kind=11)(hn:n+s.cost<=49999000):
  Calls Tryz.prog 19 #[.pointer (some ⟨b,0,none⟩),mC y] w (aW w0.heap.size b (aq s0 (cB s)) (n+s.cost) w):=by
 rw[show cB s=aq (bc (dv s false false false false false false false false true)) (aq (some ([67,65,76,76,32]++ [100,101,99,111,109,112,114,101,115,115]++ [40])) (aq (cS s.name) (aq (some [44,32]) (aq (bc (nB s.aN)) (aq (yy s.dH) (some [41])))))) by unfold cB;rw[hk];rfl];have mb:y.kind=11:=by rw[h.kind,hk]
 open zcS in exact ZaY
theorem zbK.Kao(h:p:=by rw[show y.kind=12 from TR.out] at x0;exact Zat):p:=h
theorem zd4.Ka1(h:p:=by refine(Ab ⟨#[67,65,76,76,32]⟩ ⟨#[100,114,111,112,95,99,104,117,110,107,115]⟩ ⟨#[40]⟩ w3 H3.out.st Tac Tac Tac Taa).mono ?_;open zbK in exact Zay):p:=h
theorem zbU.Kaq(h:p:=by rw[jH Tryz.underlying92 Tryz.underlying5 hM 12 (z:=df []) (λ w=>by kernel_rfl),show(yj.lookup 12).getD (df [])=df [100,114,111,112,95,99,104,117,110,107,115] from rfl];open zd4 in exact ZbI):p:=h
theorem zbk.Kaj(h:p:=by
 have x0:w2.cell? ⟨g1,0,none⟩=some (.int .u8 12):=by have:=H2.out.q.cell 0;rw[show(bI y).toArray[0]?=some (.int .u8 y.kind)from rfl,show y.kind=12 from TR.out] at this;exact this
 open zbU in exact ZaB):p:=h
theorem zad.Kaa(h:p:=by
 have x0:ni.cell? ⟨g1,0,none⟩=some (.int .u8 12):=by have:=H0.out.q.cell 0;rw[show(bI y).toArray[0]?=some (.int .u8 y.kind)from rfl,mb] at this;exact this
 open zbk in exact Zan):p:=h
theorem zcT.KaC(h:p:=by clear nN;open zad in exact Zaa):p:=h
theorem Lk(hE:di w0) (hS:∀b,S b->b < w0.heap.size)  (h:s.at_ w0 S y)(hf:s.my m)(hm:m<=1048576)(w:World)(hst:eu w0.heap.size b s0 n w)(hw:Below w0.heap.size w0 w)(hk:s.kind=12)(hn:n+s.cost<=49999000):
  Calls Tryz.prog 19 #[.pointer (some ⟨b,0,none⟩),mC y] w (aW w0.heap.size b (aq s0 (cB s)) (n+s.cost) w):=by
 rw[show cB s=aq (bc (dv s false false false false false false false false true)) (aq (some ([67,65,76,76,32]++ [100,114,111,112,95,99,104,117,110,107,115]++ [40])) (aq (cS s.name) (aq (some [44,32]) (aq (bc (nB s.aN)) (aq (yy s.dH) (some [41])))))) by unfold cB;rw[hk];rfl];have mb:y.kind=12:=by rw[h.kind,hk]
 open zcT in exact ZaY
section
variable {w0:World} {b:Nat} {s:Option aT} {n:Nat}
theorem lu (hE:di w0)(wd nm:ByteArray)(w:World)(h:eu w0.heap.size b s n w)(hw:Below w0.heap.size w0 w)(hl:wd.size<=1000)(hs:nm.size<=1048576)(hn:n+3<=50000000):
  Calls Tryz.prog 38 #[.pointer (some ⟨b,0,none⟩),.string wd,.string nm] w (aW w0.heap.size b (aq s (aq (some (wd.data.toList++ [32])) (cS nm))) (n+3) w):=by have HH:=hid h;clear h;go_enter Tryz.func38,Tryz.ntmps38;go_wp2_with fail;refine(RT wd ⟨#[32]⟩ w HH.out Taa Tac Taa).mono ?_;rintro e w2 ⟨rfl,h2,d2⟩;have H2:=hid h2;have D2:=hid d2;clear h2 d2 HH;go_wp2_with fail;refine(ee hE nm w2 H2.out (hw.trans D2.out.below) hs Taa).mono ?_;rintro e w3 ⟨rfl,h3,d3⟩;have H3:=hid h3;have D3:=hid (D2.out.trans d3);clear h3 d3 H2 D2;go_wp2_with fail;go_end0;refine⟨rfl,?_,D3.out⟩;have:=H3.out;exact Zed
theorem zgu.KbZ(h:p:=by
 have hcg:(l.map Tr.cost).getD i 0=x.cost:=by simp[List.getD,hx]
 rw[hcg] at hc ⊢;rw[Nat.add_zero];exact Tr.uE hE hS x z hr yH.1 yH.2 Taa Wr s' n' hW ((hw.trans D2.out.below).trans dW.below) (by simpa using hc)):p:=h
theorem zb4.Kas(h:p:=by
 have en:∀args w,(callFunc 23 args).run Tryz.prog w=.ok (.enter 23 args) w:=enters_of Tryz.func23 Tab rfl;have EN:=hid en;clear hc gw qN hR hA hf h hp en hlen;go_enter Tryz.func42,Tryz.ntmps42;have p0:=HP.out.cell 0;simp only[getElem?_toArray,getElem?_cons_zero] at p0;go_wp2_with fail;refine(cn ⟨#[40]⟩ w HH.out Tac Taa).mono ?_;rintro e w2 ⟨rfl,h2,d2⟩;have H2:=hid h2;have D2:=hid d2;have S9:=hid (d2.blk HP.out Fo Tac);clear h2 d2 HH HP p0;have p0:=S9.out.cell 0;simp only[getElem?_toArray,getElem?_cons_zero] at p0;go_wp2_with fail;refine(vt (λ i=>(l.map Tr.cost).getD i 0+0) (fD (l.map Tr.cost)) 23 #[.pointer (some ⟨b,0,none⟩)] #[] EN.out A cp k ys (l.map Tr.whole) S hS (by rw[HYL.out,HL.out]) Tas HR.out w2 H2.out (hw.trans D2.out.below) (jg _) (λ i hi=>tA _ 0 Tac i Tap) (λ i hi=>by have:=pN (l.map Tr.cost) i Tap;rw[AU.out] at this;exact this) Ta2 Tx ?_).mono ?_
 ·open zgu in exact Zej
 rintro e w3 ⟨rfl,h3,d3⟩;rw[HC.out] at h3;have H3:=hid h3;have D3:=hid (D2.out.trans d3);have HP3:=hid (d3.blk S9.out Fo Tac);clear h3 d3 H2 D2 S9 p0;have p0:=HP3.out.cell 0;simp only[getElem?_toArray,getElem?_cons_zero] at p0;go_wp2_with fail;refine(cn ⟨#[41]⟩ w3 H3.out Tac Taa).mono ?_;rintro e w4 ⟨rfl,h4,d4⟩;have H4:=hid h4;have D4:=hid (D3.out.trans d4);clear h4 d4 H3 D3 HP3 p0;go_wp2_with fail;go_end0;refine⟨rfl,?_,D4.out⟩;have:=H4.out.more (show n+1+Tr.costs l+1<=n+Tr.costs l+2 by omega);unfold Cc;exact Zed):p:=h
theorem TA {p:Nat}(hE:di w0) {S:Nat->Prop}(hS:∀b,S b->b < w0.heap.size)(z:Sl)(l:List Tr)(hl:eJ.sl w0 S z l)(hf:∀x∈l,x.fine/\x.thin)(hN:Tr.aM l<=1000000)(w:World)(h:eu w0.heap.size b s n w)(hw:Below w0.heap.size w0 w)(hp:av w p 87 #[.pointer (some ⟨b,0,none⟩)])(Fo:p≠b)(hn:n+Tr.costs l+2<=50000000):
  Calls Tryz.prog 42 #[.slice z.A z.n z.c,.pointer (some ⟨p,0,none⟩)] w (aW w0.heap.size b (aq s (Cc l)) (n+Tr.costs l+2) w):=by
 obtain⟨qN,ys,hR,hA⟩:=hl;obtain⟨A,k,cp⟩:=z;replace qN:k=l.length:=qN;have hlen:List.length (α:=Ex) ys=l.length:=hA.len;have Tx:k<=1000000:=by have:=eL l;omega
 have hc:=nG l;have gw:(l.map Tr.cost).length=k:=by rw[length_map,qN]
 rw[gw] at hc;have HC:=hid hc;have AU:=hid gw;have HL:=hid qN;have HYL:=hid hlen;have HR:=hid hR;have HA:=hid hA;have HF:=hid hf;have HH:=hid h;have HP:=hid hp;open zb4 in exact ZaH
theorem zhR.KcC(h:p:=by have:=H3.out.more (show n+1+1+c<=n+c+2 by omega);exact Zed):p:=h
theorem zfS.KbK(h:p:=by refine(HX.out w2 _ _ H2.out (hw.trans D2.out.below) Taa).mono ?_;open zhR in exact Zgw):p:=h
theorem zgf.KbT(h:p:=by go_wp2_with fail;refine(cn ⟨#[32,61,32]⟩ w1 H1.out Tac Taa).mono ?_;open zfS in exact ZdS):p:=h
theorem zeJ.Kbf(h:p:=by obtain⟨x0,x1,x2,x3,x4,x5,x6,x7⟩:=p8 HB.out;have p0:=HP.out.cell 0;simp only[getElem?_toArray,getElem?_cons_zero] at p0;go_wp2_with fail;refine(ee hE nm W1 HS.out (hw.trans HD.out.below) HL.out Taa).mono ?_;open zgf in exact Zd9):p:=h
theorem TC {p:Nat}(hE:di w0)(z:ByteArray×Ex) {o:Option aT} {c:Nat}(hl:z.1.size<=1048576)(hx:fC 23 b w0 z.2 o c)(w:World)(h:eu w0.heap.size b s n w)(hw:Below w0.heap.size w0 w)(hp:av w p 87 #[.pointer (some ⟨b,0,none⟩)])(Fo:p≠b)(hn:n+c+2<=50000000):
  Calls Tryz.prog 45 #[.agg (Value.string z.1::aL z.2).toArray,.pointer (some ⟨p,0,none⟩)] w (aW w0.heap.size b (aq s (aq (cS z.1) (aq (some [32,61,32]) o))) (n+c+2) w):=by obtain⟨nm,⟨op,v,name,width,A,k,cp⟩⟩:=z;have HX:=hid hx;have HH:=hid h;have hsz:=h.size;have hlt:=h.lt;have HL:=hid hl;clear hx h hl;unfold aL;go_enter Tryz.func45,Tryz.ntmps45;have bx:=aa w (.cells #[.string nm,.int .u8 op,.int .u8 v.k,.int .i64 v.n,.string v.s,.string name,.int .i64 width,.slice A k cp] 55);have HB:=hid (av.new w 55 #[.string nm,.int .u8 op,.int .u8 v.k,.int .i64 v.n,.string v.s,.string name,.int .i64 width,.slice A k cp]);open zeJ in exact Zch
theorem XI (t:Int)(h0:0<=t):t.tmod 4=0\/t.tmod 4=1\/t.tmod 4=2\/t.tmod 4=3:=by rw[Int.tmod_eq_emod_of_nonneg h0];omega
end
end Go.Proofs.YtehhdlgjfdnafaaGreatDoor
