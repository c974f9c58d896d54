/- Parts of the proof. -/
import Derived.Test.YtfmbcoeallmnnaaGreatDoorC31
namespace Go.Proofs.YtfmbcoeallmnnaaGreatDoor.R
open Go.Lib (hid)
set_option linter.unusedSimpArgs false
set_option linter.unusedVariables false
section
variable {s:List UInt8} {σ:aF} {x:Tr}
theorem zz (h:σ.head s=false):af (dA s) σ=σ∧au (dA s) σ []:=by
 unfold dA;constructor
 ·rw[ay (aG s σ),h,av h];exact bs _ _
 ·refine aj (aG s σ) ?_;rw[h,av h];exact aT _ _
theorem BH (h:σ.head s=true)(hx:au dE (.good σ.words.tail) x):af (dA s) σ=af dE (.good σ.words.tail)∧au (dA s) σ [x]:=by
 unfold dA;constructor
 ·rw[ay (aG s σ),h,az h];simp only[if_true];rw[ay hx];exact bs _ _
 ·refine aj (aG s σ) ?_;rw[h,az h];exact aj hx (aT _ _)
theorem DT (hx:au dE σ x)(h:(af dE σ).head vt=false):af gJ σ=af dE σ∧au gJ σ (x,ByteArray.empty):=by
 unfold gJ;constructor
 ·rw[ay hx,ay (aG vt _),h,av h];exact bs _ _
 ·refine aj hx (aj (aG vt _) ?_);rw[h,av h];exact aT _ _
theorem Hi {n:ByteArray}(hx:au dE σ x)(h:(af dE σ).head vt=true)(hn:au bE (.good (af dE σ).words.tail) n):af gJ σ=af bE (.good (af dE σ).words.tail)∧au gJ σ (x,n):=by
 unfold gJ;constructor
 ·rw[ay hx,ay (aG vt _),h,az h];simp only[if_true];rw[ay hn];exact bs _ _
 ·refine aj hx (aj (aG vt _) ?_);rw[h,az h];exact aj hn (aT _ _)
theorem ik (hx:au dE σ x):af fS σ=af (may qo) (af dE σ)∧au fS σ (x,(af dE σ).head qo):=by
 unfold fS;constructor
 ·rw[ay hx,ay (aG qo _)];exact bs _ _
 ·exact aj hx (aj (aG qo _) (aT _ _))
end
structure ei {α:Type} (el:Ps α) (σ:aF) (acc:List α) (bw:aF):Prop where
 step:af (gI el) σ=af (Bc el acc) bw
 gives:∀z,au (Bc el acc) bw z→au (gI el) σ z
section
variable {α:Type} {el:Ps α} {σ bw:aF} {acc:List α} {x:α}
theorem ei.start (h:au el σ x):ei el σ [x] (af el σ):=by
 rw[show(ei el σ [x] (af el σ))=(ei el σ [x] (af el σ))from rfl];refine⟨?_,fun z hz=>?_⟩
 ·rw[ET];exact ay h
 ·rw[ET];exact aj h hz
theorem ei.go (hb:bX el)(k:ei el σ acc bw)(h:bw.head aU=true)(hx:au el (.good bw.words.tail) x):ei el σ (acc++ [x]) (af el (.good bw.words.tail)):=by
 refine⟨?_,fun z hz=>k.gives z ?_⟩
 ·rw[k.step,rr hb,ay (aG aU _),h,az h];simp only[if_true];exact ay hx
 ·rw[rr hb];refine aj (aG aU _) ?_;rw[h,az h];exact aj hx hz
theorem ei.done (hb:bX el)(k:ei el σ acc bw)(h:bw.head aU=false):af (gI el) σ=bw∧au (gI el) σ acc:=by
 refine⟨?_,k.gives _ ?_⟩
 ·rw[k.step,rr hb,ay (aG aU _),h,av h];exact bs _ _
 ·rw[rr hb];refine aj (aG aU _) ?_;rw[h,av h];exact aT _ _
end
open Go.ChangeShapes Go.WideShapes Go.ChangeAt Go.RowKit
def jF (y:Sl):Value:=.slice y.A y.n y.c
def Sl.nil:Sl:=⟨none,0,0⟩
def El.sl {α:Type}(E:El α)(w:World)(S:Nat→Prop)(y:Sl)(l:List α):Prop:=E.lies w S y.A y.n l
theorem El.kU {α:Type}(E:El α)(w:World)(S:Nat→Prop):E.sl w S Sl.nil []:=E.JX w S
theorem El.sl.keep {α:Type} {E:El α} {w w':World} {S S':Nat→Prop} {y:Sl} {l:List α}(h:E.sl w S y l)(hk:∀b,S b→(∀o,w'.cell? ⟨b,o,none⟩=w.cell? ⟨b,o,none⟩)∧S' b):E.sl w' S' y l:=El.lies.keep h hk
structure zB where
 items:Sl:=.nil
 cq:ByteArray:=ByteArray.empty
 only:Bool:=false
 bU:Sl:=.nil
 group:Sl:=.nil
 having:Sl:=.nil
 order:Sl:=.nil
 bP:Sl:=.nil
def wJ (y:zB):List Value:=[jF y.items,.string y.cq,.bool y.only,jF y.bU,jF y.group,jF y.having,jF y.order,jF y.bP]
def Rq (y:zB):Value:=.agg (wJ y).toArray
structure Qu.at_ (w:World) (S:Nat→Prop) (q:Qu) (y:zB):Prop where
 items:jM.sl w S y.items q.items
 cq:y.cq=q.cq
 only:y.only=q.only
 bU:my.sl w S y.bU q.bU
 group:my.sl w S y.group q.group
 having:my.sl w S y.having q.having
 order:js.sl w S y.order q.order
 bP:JY.sl w S y.bP q.bP
theorem Qu.at_.keep {w w':World} {S S':Nat→Prop} {q:Qu} {y:zB}(hk:∀b,S b→(∀o,w'.cell? ⟨b,o,none⟩=w.cell? ⟨b,o,none⟩)∧S' b)(h:q.at_ w S y):q.at_ w' S' y:=
 ⟨h.items.keep hk,h.cq,h.only,h.bU.keep hk,h.group.keep hk,h.having.keep hk,h.order.keep hk,h.bP.keep hk⟩
theorem Qu.sN (w:World)(S:Nat→Prop):Qu.at_ w S {} {}:=⟨jM.kU _ _,rfl,rfl,my.kU _ _,my.kU _ _,my.kU _ _,js.kU _ _,JY.kU _ _⟩
structure Cq where
 kind:Int:=0
 name:ByteArray:=ByteArray.empty
 cols:Sl:=.nil
 time:ByteArray:=ByteArray.empty
 every:Int:=0
 space:ByteArray:=ByteArray.empty
 parts:Int:=0
 query:zB:= {}
 what:Int:=0
 Cn:ByteArray:=ByteArray.empty
 a:Int:=0
 b:Int:=0
 rows:Sl:=.nil
 iI:Sl:=.nil
 bU:Sl:=.nil
 cq:Val:=fg
 OM:Val:=fg
def Hj (v:Val):List Value:=[.int .u8 v.k,.int .i64 v.n,.string v.s]
def lK (y:Cq):List Value:=[.int .u8 y.kind,.string y.name,jF y.cols,.string y.time,.int .i64 y.every,.string y.space,.int .i64 y.parts]++wJ y.query++ [.int .u8 y.what,.string y.Cn,.int .i64 y.a,.int .i64 y.b,jF y.rows,jF y.iI,jF y.bU]++Hj y.cq++Hj y.OM
def KT (y:Cq):Value:=.agg (lK y).toArray
structure St.at_ (w:World) (S:Nat→Prop) (s:St) (y:Cq):Prop where
 kind:y.kind=s.kind
 name:y.name=s.name
 cols:OV.sl w S y.cols s.cols
 time:y.time=s.time
 every:y.every=s.every
 space:y.space=s.space
 parts:y.parts=s.parts
 query:s.query.at_ w S y.query
 what:y.what=s.what
 Cn:y.Cn=s.Cn
 a:y.a=s.a
 b:y.b=s.b
 rows:OX.sl w S y.rows s.rows
 iI:OW.sl w S y.iI s.iI
 bU:my.sl w S y.bU s.bU
 cq:y.cq=s.cq
 OM:y.OM=s.OM
theorem St.at_.keep {w w':World} {S S':Nat→Prop} {s:St} {y:Cq}(hk:∀b,S b→(∀o,w'.cell? ⟨b,o,none⟩=w.cell? ⟨b,o,none⟩)∧S' b)(h:s.at_ w S y):s.at_ w' S' y:=
 ⟨h.kind,h.name,h.cols.keep hk,h.time,h.every,h.space,h.parts,h.query.keep hk,h.what,h.Cn,h.a,h.b,h.rows.keep hk,h.iI.keep hk,h.bU.keep hk,h.cq,h.OM⟩
theorem St.sN (w:World)(S:Nat→Prop):St.at_ w S {} {}:=
 ⟨rfl,rfl,OV.kU _ _,rfl,rfl,rfl,rfl,Qu.sN _ _,rfl,rfl,rfl,rfl,OX.kU _ _,OW.kU _ _,my.kU _ _,rfl,rfl⟩
def Rs {α:Type}(E:El α)(ρ:cu)(W:World)(big:Bool)(p:Ps (List α))(σ:aF)(e:Ending)(w':World):Prop:=∃(l:List α) (y:Sl),e=.returned (jF y)∧E.sl w' (gf W.heap.size w') y l∧dz ρ W w' (af p σ) (big || decide (64 < l.length))∧au p σ l
def zC {α:Type}(E:El α)(val:E.β→Value)(lng:α→Bool)(ρ:cu)(W:World)(big:Bool)(p:Ps α)(σ:aF)(e:Ending)(w':World):Prop:=∃(x:α) (y:E.β),e=.returned (val y)∧E.rel w' (gf W.heap.size w') x y∧dz ρ W w' (af p σ) (big || lng x)∧au p σ x
theorem Rt {w:World} {S:Nat→Prop} {G:Nat} {x:Tr} {y:Ex}(h:ah w G 34 (cM y).toArray)(hS:S G)(hx:x.at_ w S y):my.sl w S ⟨some ⟨G,0,none⟩,1,1⟩ [x]:=
 ⟨rfl,[y],zg (f:=cM) jN (by show ah w G _ (cM y++ []).toArray;rw[List.append_nil];exact h) hS,.one hx⟩
def xW (y:Ex×ByteArray):List Value:=cM y.1++ [.string y.2]
def NA (y:Ex×ByteArray):Value:=.agg (xW y).toArray
theorem cz {w:World} {q:Nat} {T:TypeId} {a b c d e f g i:Value}(h:ah w q T #[a,b,c,d,e,f,g,i]):
  w.cell? ⟨q,0,none⟩=some a∧w.cell? ⟨q,1,none⟩=some b∧w.cell? ⟨q,2,none⟩=some c∧w.cell? ⟨q,3,none⟩=some d∧w.cell? ⟨q,4,none⟩=some e∧w.cell? ⟨q,5,none⟩=some f∧w.cell? ⟨q,6,none⟩=some g∧w.cell? ⟨q,7,none⟩=some i:=
 ⟨h.cell 0,h.cell 1,h.cell 2,h.cell 3,h.cell 4,h.cell 5,h.cell 6,h.cell 7⟩
theorem iP {w:World} {q:Nat} {T:TypeId} {cs:Array Value}(h:ah w q T cs):
  w.frozen? ⟨q,0,none⟩=false∧w.frozen? ⟨q,1,none⟩=false∧w.frozen? ⟨q,2,none⟩=false∧w.frozen? ⟨q,3,none⟩=false∧w.frozen? ⟨q,4,none⟩=false∧w.frozen? ⟨q,5,none⟩=false∧w.frozen? ⟨q,6,none⟩=false∧w.frozen? ⟨q,7,none⟩=false:=
 ⟨h.frozen 0,h.frozen 1,h.frozen 2,h.frozen 3,h.frozen 4,h.frozen 5,h.frozen 6,h.frozen 7⟩
def qE (w:World)(q:Nat)(y:Ex)(v:Value):World:=(cr w q y).setCell ⟨q,7,none⟩ v
theorem dz.qE {ρ:cu} {W w:World} {σ:aF} {big:Bool} {q:Nat}(h:dz ρ W w σ big)(hW:ρ.g < W.heap.size)(hq:W.heap.size≤q)(y:Ex)(v:Value):dz ρ W (qE w q y v) σ big:=(h.cr hW hq y).far hW hq 7 v
theorem Tr.at_.qE {B q:Nat} {w:World} {t:Tr} {y:Ex}(h:t.at_ w (gf B w) y)(hq:q < B)(z:Ex)(v:Value):t.at_ (qE w q z v) (gf B (Go.Proofs.YtfmbcoeallmnnaaGreatDoor.R.qE w q z v)) y:=(h.cr hq z).set hq 7 v
theorem wy {w:World} {q:Nat} {T:TypeId} {a b c d e f g i:Value}(h:ah w q T #[a,b,c,d,e,f,g,i])(y:Ex)(v:Value):ah (qE w q y v) q T (cM y++ [v]).toArray:=by have:=((((((((h.cn 0 (.int .u8 y.op)).cn 1 (.int .u8 y.v.k)).cn 2 (.int .i64 y.v.n)).cn 3 (.string y.v.s)).cn 4 (.string y.name)).cn 5 (.int .i64 y.width)).cn 6 (.slice y.A y.n y.c)).cn 7 v);simp only[List.setIfInBounds_toArray,List.set_cons_zero,List.set_cons_succ] at this;exact this
def SG:Obj:=.cells #[.int .u8 0,.int .u8 0,.int .i64 0,.string ⟨#[]⟩,.string ⟨#[]⟩,.int .i64 0,.slice none 0 0,.string ⟨#[]⟩] 138
set_option maxHeartbeats 1000000
set_option maxRecDepth 100000
theorem BI (ρ:cu)(w:World)(σ:aF)(big:Bool)(h:ρ.at w σ big)(has:(af dE σ).head vt=false):
  Calls Tryz.prog 127 #[ρ.ptr] w (zC jM NA (fun _=>false) ρ w big gJ σ):=by
 have cU:=h.qJ;have hb:=aa w SG;have h0:=h.later hb;have HQ:=hid (ah.new w 138 #[.int .u8 0,.int .u8 0,.int .i64 0,.string ⟨#[]⟩,.string ⟨#[]⟩,.int .i64 0,.slice none 0 0,.string ⟨#[]⟩]);have hsz:(w.alloc SG).heap.size=w.heap.size+1:=by simp
 unfold SG at*;go_enter Tryz.func127,Tryz.ntmps127;go_wp2_with fail;refine(sM ρ _ σ big h0).mono ?_;rintro e w2 ⟨t,y,rfl,ht,d2,fC⟩;unfold iL cM;have hs2:=d2.size;go_wp2_with fail;have D3:=((dz.bH h hb).trans d2).later (aa w2 (.cells (xW (y,⟨#[]⟩)).toArray 138));have HX:=ah.new w2 138 (xW (y,⟨#[]⟩)).toArray;have gC:=(d2.blk HQ.out (by omega)).alloc (.cells (xW (y,⟨#[]⟩)).toArray 138);have Pr:=(ht.later (aa w2 (.cells (xW (y,⟨#[]⟩)).toArray 138))).more (B':=w.heap.size+1) (by omega);unfold xW cM at D3 HX gC Pr;simp only[List.cons_append,List.nil_append] at D3 HX gC Pr;generalize w2.alloc _=W3 at*;have Pt:=hid (DT fC has);have hm:=cL ρ W3 _ big D3.at_ ⟨#[97,115]⟩ has;clear has fC h0 hb HQ ht d2;refine hm.mono ?_;rintro e w4 ⟨rfl,d4⟩;have ZW:=d4.blk HX (by omega);have Fq:=d4.blk gC (by omega);have M7:=hid (Pr.grown d4.grown (by omega));have Im:=hid (D3.trans d4);have wb:=hid Fq;obtain⟨x0,x1,x2,x3,x4,x5,x6,x7⟩:=cz ZW;obtain⟨y0,y1,y2,y3,y4,y5,y6,y7⟩:=cz Fq;obtain⟨z0,z1,z2,z3,z4,z5,z6,z7⟩:=iP Fq;clear ZW Fq HX gC Pr D3 d4 hm;go_wp2_with fail;have HP:=wy wb.out y (.string ⟨#[]⟩);have HR:=cz HP;unfold qE cr at HR;obtain⟨r0,r1,r2,r3,r4,r5,r6,r7⟩:=HR;refine bodyPost_ret (v:=NA (y,⟨#[]⟩)) ?_ rfl ?_
 ·simp[results,Tryz.results127,go_sem,r0,r1,r2,r3,r4,r5,r6,r7];rfl
 ·refine⟨(t,ByteArray.empty),(y,⟨#[]⟩),rfl,⟨(M7.out.qE (Nat.lt_succ_self _) y (.string ⟨#[]⟩)).more (by omega),rfl⟩,?_,Pt.out.2⟩;rw[Pt.out.1,Bool.or_false];exact Im.out.qE cU (Nat.le_refl _) y (.string ⟨#[]⟩)
def jQ:List Nat→Nat
 | []=>0
 | a::l=>max a (jQ l)
theorem tL:∀(l:List Nat) (a:Nat),jQ (l++ [a])=max (jQ l) a
 | [],a=>by simp[jQ]
 | b::l,a=>by simp only[List.cons_append,jQ,tL l a];omega
theorem Hk {l:List Nat} {i d:Nat}(h:l[i]?=some d):jQ (l.take (i+1))=max (jQ (l.take i)) d:=by rw[List.take_add_one,h];exact tL _ _
theorem BJ:∀ {l:List Nat} {d:Nat},d∈l→d≤jQ l
 | a::l,d,h=>by
   rcases List.mem_cons.1 h with rfl | h
   ·simp only[jQ];omega
   ·have:=BJ h;simp only[jQ];omega
theorem rD:∀(l:List Nat) (i:Nat),jQ (l.take i)≤jQ l
 | [],i=>by simp[jQ]
 | a::l,0=>by simp[jQ]
 | a::l,i+1=>by have:=rD l i;simp only[List.take_succ_cons,jQ];omega
theorem tM:∀ts:List Tr,Tr.gM ts=jQ (ts.map Tr.depth)
 | []=>by simp[Tr.gM,jQ]
 | t::ts=>by simp[Tr.gM,jQ,tM ts]
def Fs (f:FuncId)(w:World)(y:Ex)(d:Nat):Prop:=∀W,Below w.heap.size w W→Calls Tryz.prog f #[iL y] W fun e w'=>e=.returned (.int .i64 d)∧Below W.heap.size W w'
theorem nS (w:World)(y:Ex)(ys:List Ex)(ds:List Nat)(S:Nat→Prop)(hS:∀b,S b→b < w.heap.size)(hn:y.n=ys.length)(hA:RL cM 7 w S y.A ys)(hd:ds.length=ys.length)(hD:∀(i:Nat) x d,ys[i]?=some x→ds[i]?=some d→Fs 31 w x d)(hm:jQ ds≤1000000)(hl:ys.length≤1000000000):Fs 31 w y (jQ ds+1):=by
 intro W hW;obtain⟨lO,yv,ft,dL,yA,yn,yc⟩:=y;have hn:yn=ys.length:=hn;subst hn;have HD:=hid hD;have HM:=hid hm;have ZX:=hid hd;have HA:=hid hA;clear hD hm hd hA;unfold iL cM;have HX:=ah.new W 34 #[.int .u8 lO,.int .u8 yv.k,.int .i64 yv.n,.string yv.s,.string ft,.int .i64 dL,.slice yA ys.length yc];have hb:=aa W (.cells #[.int .u8 lO,.int .u8 yv.k,.int .i64 yv.n,.string yv.s,.string ft,.int .i64 dL,.slice yA ys.length yc] 34);go_enter Tryz.func31,Tryz.ntmps31;go_wp2_with fail;generalize W.alloc _=W1 at*;have iZ:=hid hb;have HW:=hid hW;clear hb;go_loopw [3,4] (fun m iv wr=>∃i:Nat,i≤ys.length∧iv=.int .i64 i∧m=.int .i64 (jQ (ds.take i))∧Below W1.heap.size W1 wr) (fun _ iv _=>ys.length - (intOf iv).toNat);case atStart=>exact⟨0,Nat.zero_le _,rfl,rfl,Below.refl _ _⟩
 case round=>
  obtain⟨i,hi,rfl,rfl,kt⟩:=hrel;have x6:=(HX.later kt).cell 6;simp only[List.getElem?_toArray,List.getElem?_cons_zero,List.getElem?_cons_succ] at x6;have VX:=rD ds i;have YQ:=HM.out;by_cases hlt:i < ys.length
  ·obtain⟨x,hx⟩:∃x,ys[i]?=some x:=⟨_,List.getElem?_eq_getElem hlt⟩;obtain⟨d,hdd⟩:∃d,ds[i]?=some d:=⟨_,List.getElem?_eq_getElem (by rw[ZX.out];exact hlt)⟩;have M8:=HD.out i x d hx hdd;have U6:=BJ (List.mem_of_getElem? hdd);have ZY:=hid (Hk hdd);have hwr:Below w.heap.size w wr:=hW.trans ((ae.then iZ.out kt).mono hW.size);rcases HA.out with h0 |⟨b,off,BD,KU,hc⟩
   ·subst h0;simp at hlt
   have hcell:=fun j u hu=>(hwr.cell (p:=⟨b,off+i*7+j,none⟩) (hS b KU)).trans (hc i x j u hx hu)
   have k0:=hcell 0 _ rfl;have k1:=hcell 1 _ rfl;have k2:=hcell 2 _ rfl;have k3:=hcell 3 _ rfl;have k4:=hcell 4 _ rfl;have k5:=hcell 5 _ rfl;have k6:=hcell 6 _ rfl;simp only[Nat.add_zero] at k0;clear hx hdd hcell hc;subst BD;go_wp2_with fail;refine(M8 wr hwr).mono ?_;rintro e w' ⟨rfl,b'⟩;go_wp2_with fail;go_roundw;case rel=>refine⟨i+1,by omega,by go_num,?_,kt.trans (b'.mono kt.size)⟩;first | rw[ZY.out,show(max ((jQ (ds.take i):Nat):Int) (d:Int))=((max (jQ (ds.take i)) d:Nat):Int) by omega] |(rw[ZY.out];congr 1;split <;> omega)
   case measure=>simp[intOf];omega
  ·obtain rfl:i=ys.length:=by omega
   have yC:ds.take ys.length=ds:=List.take_of_length_le (Nat.le_of_eq ZX.out);rw[yC] at VX;simp only[yC];go_wp2_with fail;go_ret;exact⟨lC (by omega),ae.then iZ.out kt⟩
mutual
def Tr.thin:Tr→Prop
 | .mk op v name width args=>args.length≤1000000000∧Tr.Fu args
def Tr.Fu:List Tr→Prop
 | []=>True
 | t::ts=>t.thin∧Tr.Fu ts
end
mutual
theorem Tr.Vb {w:World} {S:Nat→Prop}(hS:∀b,S b→b < w.heap.size):∀(t:Tr) (y:Ex),t.at_ w S y→t.thin→t.depth≤1000000→Fs 31 w y t.depth
 | .mk op v name width args,y,h,ht,hd=>by unfold Tr.at_ at h;obtain⟨_,_,_,_,hn,ys,hr,ha⟩:=h;unfold Tr.thin at ht;simp only[Tr.depth] at hd ⊢;have hl:=Tr.bL.length ha;rw[tM] at hd ⊢;exact nS w y ys (args.map Tr.depth) S hS (by rw[hn,hl]) hr (by simp[hl]) (Tr.Pu hS args ys ha ht.2 (by omega)) (by omega) (by rw[hl];exact ht.1)
theorem Tr.Pu {w:World} {S:Nat→Prop}(hS:∀b,S b→b < w.heap.size):∀(ts:List Tr) (ys:List Ex),Tr.bL w S ts ys→Tr.Fu ts→jQ (ts.map Tr.depth)≤1000000→∀(i:Nat) x d,ys[i]?=some x→(ts.map Tr.depth)[i]?=some d→Fs 31 w x d
 | [],ys,h,_,_,i,x,d,hx,hd=>by simp at hd
 | t::ts,ys,h,ht,hm,i,x,d,hx,hd=>by
   unfold Tr.bL at h;obtain⟨y,ys',rfl,h1,h2⟩:=h;unfold Tr.Fu at ht;simp only[List.map_cons,jQ] at hm
   match i,hx,hd with
   | 0,hx,hd=>simp at hx hd;subst hx hd;exact Tr.Vb hS t y h1 ht.1 (by omega)
   | i+1,hx,hd=>exact Tr.Pu hS ts ys' h2 ht.2 (by omega) i x d (by simpa using hx) (by simpa using hd)
end
theorem cf {α β:Type} {p:Ps α} {f:α→Ps β} {l r:fA} {y:β}(h:(p >>= f) l=.ok (y,r)):∃x m,p l=.ok (x,m)∧f x m=.ok (y,r):=by
 rw[ee] at h;cases e:p l with
 | error n=>rw[e] at h;cases h
 | ok z=>rw[e] at h;exact⟨z.1,z.2,rfl,h⟩
theorem eQ {α:Type} {x y:α} {l r:fA}(h:(pure x:Ps α) l=.ok (y,r)):y=x∧r=l:=by have h:(Except.ok (x,l):Except Nat (α×fA))=.ok (y,r):=h;injection h with h;injection h with h1 h2;exact⟨h1.symm,h2.symm⟩
theorem zD {s:List UInt8} {b:Bool} {l r:fA}(h:may s l=.ok (b,r)):(b=true∧bQ s l=true∧r=l.tail∧r.length+1=l.length)∨(b=false∧bQ s l=false∧r=l):=by
 unfold may at h;split at h
 ·rename_i hh;injection h with h;injection h with h1 h2;obtain⟨t,q,rfl,_⟩:=fU hh;exact .inl ⟨h1.symm,hh,h2.symm,by rw[← h2];simp⟩
 ·rename_i hh;injection h with h;injection h with h1 h2;exact .inr ⟨h1.symm,by simpa using hh,h2.symm⟩
theorem rE {s:List UInt8} {l r:fA}(h:must s l=.ok ((),r)):bQ s l=true∧r=l.tail∧r.length+1=l.length:=by
 unfold must at h;split at h
 ·rename_i hh;injection h with h;injection h with h1 h2;obtain⟨t,q,rfl,_⟩:=fU hh;exact⟨hh,h2.symm,by rw[← h2];simp⟩
 ·cases h
def TQ (p:Ps Tr):Prop:=∀l t r,p l=.ok (t,r)→t.thin∧t.depth+r.length≤l.length
theorem xX (op:Int)(x:Tr):(gH op [x]).depth=x.depth+1:=by simp[gH,Tr.depth,Tr.gM]
theorem xY (op:Int)(x y:Tr):(gH op [x,y]).depth=max x.depth y.depth+1:=by simp[gH,Tr.depth,Tr.gM]
theorem BK {op:Int} {x:Tr}(h:x.thin):(gH op [x]).thin:=by unfold gH Tr.thin;exact⟨by simp,h,trivial⟩
theorem BL {op:Int} {x y:Tr}(h:x.thin)(k:y.thin):(gH op [x,y]).thin:=by unfold gH Tr.thin;exact⟨by simp,h,k,trivial⟩
theorem BM {below:Ps Tr}(hb:TQ below)(lv:Nat):∀(f:Nat) (x:Tr) (n:Nat) (l:fA) (t:Tr) (r:fA),x.thin→x.depth+l.length≤n→iJ below lv f x l=.ok (t,r)→t.thin∧t.depth+r.length≤n
 | 0,x,n,l,t,r,hx,hn,h=>by obtain⟨rfl,rfl⟩:=eQ h;exact⟨hx,hn⟩
 | f+1,x,n,l,t,r,hx,hn,h=>by
   simp only[iJ] at h;cases e:gU (opsL lv) l with
   | none=>rw[e] at h;injection h with h;injection h with h1 h2;subst h1;subst h2;exact⟨hx,hn⟩
   | some o=>rw[e] at h;obtain⟨y,m,h1,h2⟩:=cf h;obtain⟨k1,k2⟩:=hb _ _ _ h1;obtain⟨s,_,hs⟩:=gw e;obtain⟨w,q,rfl,_⟩:=fU hs;simp only[List.tail_cons,List.length_cons] at*;refine BM hb lv f _ n _ _ _ (BL hx k1) ?_ h2;rw[xY];omega
theorem uA {below:Ps Tr}(hb:TQ below)(lv:Nat):TQ (ly below lv):=by intro l t r h;obtain⟨x,m,h1,h2⟩:=cf h;obtain⟨k1,k2⟩:=hb _ _ _ h1;exact BM hb lv _ x _ m t r k1 k2 h2
theorem Pv {same below:Ps Tr}(hs:TQ same)(hb:TQ below)(s:List UInt8)(op:Int):TQ (Df s op same below):=by
 intro l t r h;obtain⟨b,m,h1,h2⟩:=cf h;rcases zD h1 with ⟨rfl,_,_,hl⟩|⟨rfl,_,rfl⟩
 ·obtain⟨x,m2,h3,h4⟩:=cf h2;obtain⟨rfl,rfl⟩:=eQ h4;obtain⟨k1,k2⟩:=hs _ _ _ h3;exact⟨BK k1,by rw[xX];omega⟩
 ·exact hb _ _ _ h2
theorem Ru {below:Ps Tr}(hb:TQ below):TQ (GF below):=by
 intro l t r h;obtain⟨x,m,h1,h2⟩:=cf h;obtain⟨k1,k2⟩:=hb _ _ _ h1;obtain⟨b,m2,h3,h4⟩:=cf h2;rcases zD h3 with ⟨rfl,_,_,hl⟩|⟨rfl,_,rfl⟩
 ·obtain⟨n,m3,h5,h6⟩:=cf h4;obtain⟨_,m4,h7,h8⟩:=cf h6;obtain⟨rfl,rfl⟩:=eQ h8;have:=(cI ll).len h5;obtain⟨_,_,hm⟩:=rE h7;exact⟨BK k1,by rw[xX];omega⟩
 ·have h4:sq below x m2=_:=h4;unfold sq at h4;cases e:gU (opsL 3) m2 with
  | none=>rw[e] at h4;injection h4 with h4;injection h4 with h5 h6;subst h5;subst h6;exact⟨k1,k2⟩
  | some o=>rw[e] at h4;obtain⟨y,m3,h5,h6⟩:=cf h4;obtain⟨rfl,rfl⟩:=eQ h6;obtain⟨k3,k4⟩:=hb _ _ _ h5;obtain⟨s,_,hs⟩:=gw e;obtain⟨w,q,rfl,_⟩:=fU hs;simp only[List.tail_cons,List.length_cons] at*;exact⟨BL k1 k3,by rw[xY];omega⟩
theorem Fv {whole:Ps Tr}(hb:TQ whole)(op:Int):TQ (oh whole op):=by
 intro l t r h;obtain⟨width,m,h1,h2⟩:=cf h;obtain⟨x,m2,h3,h4⟩:=cf h2;obtain⟨ys,m3,h5,h6⟩:=cf h4;obtain⟨_,m4,h7,h8⟩:=cf h6;obtain⟨rfl,rfl⟩:=eQ h8;obtain⟨_,_,hm⟩:=rE h7;obtain⟨k1,k2⟩:=hb _ _ _ h3;have hw:m.length≤l.length:=by
  unfold lR at h1;split at h1
  ·obtain⟨n,q,g1,g2⟩:=cf h1;obtain⟨_,q2,g3,g4⟩:=cf g2;obtain⟨_,rfl⟩:=eQ g4;have:=dK.len g1;have:=(aK aU).len g3;omega
  ·obtain⟨_,rfl⟩:=eQ h1;exact Nat.le_refl _
 have hy:(ys=[]∧m3=m2)∨∃y,ys=[y]∧y.thin∧y.depth+m3.length≤m2.length:=by
  unfold jr at h5;split at h5
  ·obtain⟨_,q,g1,g2⟩:=cf h5;obtain⟨y,q2,g3,g4⟩:=cf g2;obtain⟨rfl,rfl⟩:=eQ g4;obtain⟨a1,a2⟩:=hb _ _ _ g3;have:=(aK aU).len g1;exact .inr ⟨y,rfl,a1,by omega⟩
  ·obtain⟨rfl,rfl⟩:=eQ h5;exact .inl ⟨rfl,rfl⟩
 rcases hy with ⟨rfl,rfl⟩|⟨y,rfl,a1,a2⟩
 ·refine⟨by unfold Tr.thin;exact⟨by simp,k1,trivial⟩,?_⟩;simp only[Tr.depth,Tr.gM];omega
 ·refine⟨by unfold Tr.thin;exact⟨by simp,k1,a1,trivial⟩,?_⟩;simp only[Tr.depth,Tr.gM];omega
theorem zE {t:Tr} {r l:fA}(h:t.thin)(hd:t.depth=1)(hr:r.length < l.length):t.thin∧t.depth+r.length≤l.length:=⟨h,by omega⟩
theorem sO (op:Int)(v:Val)(n:ByteArray)(k:Int):(Tr.mk op v n k []).thin:=by unfold Tr.thin;exact⟨by simp,trivial⟩
theorem qF (op:Int)(v:Val)(n:ByteArray)(k:Int):(Tr.mk op v n k []).depth=1:=by simp[Tr.depth,Tr.gM]
theorem Rv {whole:Ps Tr}(hb:TQ whole)(op:Int):TQ (iK whole op):=by
 intro l t r h;unfold iK at h;split at h
 ·obtain⟨b,m,h1,h2⟩:=cf h;rcases zD h1 with ⟨rfl,_,_,hl⟩|⟨rfl,_,rfl⟩
  ·obtain⟨_,m2,h3,h4⟩:=cf h2;obtain⟨rfl,rfl⟩:=eQ h4;obtain⟨_,_,hm⟩:=rE h3;exact zE (sO _ _ _ _) (qF _ _ _ _) (by omega)
  ·exact Fv hb 22 _ _ _ h2
 ·exact Fv hb op _ _ _ h
theorem KV {whole:Ps Tr}(hb:TQ whole):TQ (vy whole):=by
 intro l t r h;obtain⟨n,m,h1,h2⟩:=cf h;have hn:m.length < l.length:=by
  unfold bE at h1;split at h1
  ·cases h1
  ·split at h1
   ·injection h1 with h1;injection h1 with _ h1;subst h1;simp
   ·cases h1
 have h2:(if bQ cj m then(match fB n with | none=> .error m.length | some op=>iK whole op m.tail)else .ok (jJ n,m):Except Nat (Tr×fA))=_:=h2;split at h2
 ·rename_i hh;cases e:fB n with
  | none=>rw[e] at h2;cases h2
  | some op=>rw[e] at h2;obtain⟨k1,k2⟩:=Rv hb op _ _ _ h2;exact⟨k1,by simp at k2;omega⟩
 ·injection h2 with h2;injection h2 with h3 h4;subst h3;subst h4;exact zE (sO _ _ _ _) (qF _ _ _ _) hn
theorem NC {whole:Ps Tr}(hb:TQ whole):TQ (jU whole):=by
 intro l t r h
 match l with
 | []=>cases h
 | a::q=>
   simp only[jU] at h;have lf:∀v,(.ok (ig v,q):Except Nat (Tr×fA))=.ok (t,r)→t.thin∧t.depth+r.length≤(a::q).length:=by intro v e;injection e with e;injection e with e1 e2;subst e1;subst e2;exact zE (sO _ _ _ _) (qF _ _ _ _) (by simp)
   split at h
   ·exact lf _ h
   split at h
   ·exact lf _ h
   split at h
   ·exact lf _ h
   split at h
   ·exact lf _ h
   split at h
   ·exact lf _ h
   split at h
   ·obtain⟨x,m,h1,h2⟩:=cf h;obtain⟨_,m2,h3,h4⟩:=cf h2;obtain⟨rfl,rfl⟩:=eQ h4;obtain⟨k1,k2⟩:=hb _ _ _ h1;obtain⟨_,_,hm⟩:=rE h3;exact⟨k1,by simp;omega⟩
   ·exact KV hb _ _ _ h
theorem KX:TQ sk:=by intro l t r h;cases h
theorem oB:∀f lv,TQ (pE f lv)
 | 0,lv=>by unfold pE;exact KX
 | f+1,0=>by unfold pE;exact uA (oB f 1) 0
 | f+1,1=>by unfold pE;exact uA (oB f 2) 1
 | f+1,2=>by unfold pE;exact Pv (oB f 2) (oB f 3) _ _
 | f+1,3=>by unfold pE;exact Ru (oB f 4)
 | f+1,4=>by unfold pE;exact uA (oB f 5) 4
 | f+1,5=>by unfold pE;exact uA (oB f 6) 5
 | f+1,6=>by unfold pE;exact Pv (oB f 6) (oB f 7) _ _
 | f+1,lv+7=>by unfold pE;exact NC (oB f 0)
theorem ND:TQ dE:=fun l t r h=>oB _ _ l t r h
section
variable {σ:aF}
theorem DU (h:σ.head dZ=true):af lS σ=.good σ.words.tail∧au lS σ []:=by
 unfold lS;constructor
 ·rw[ay (aG dZ σ),h,az h];exact bs _ _
 ·refine aj (aG dZ σ) ?_;rw[h,az h];exact aT _ _
theorem DV {l:List (Tr×ByteArray)}(h:σ.head dZ=false)(hl:au (gI gJ) σ l):af lS σ=af (gI gJ) σ∧au lS σ l:=by
 unfold lS;constructor
 ·rw[ay (aG dZ σ),h,av h];rfl
 ·refine aj (aG dZ σ) ?_;rw[h,av h];exact hl
theorem BN (h:σ.head jo=false):af jL σ=σ∧au jL σ []:=by
 unfold jL;constructor
 ·rw[ay (aG jo σ),h,av h];exact bs _ _
 ·refine aj (aG jo σ) ?_;rw[h,av h];exact aT _ _
theorem DX {l:List Tr}(h:σ.head jo=true)(hl:au (gI dE) (af (must vr) (.good σ.words.tail)) l):af jL σ=af (gI dE) (af (must vr) (.good σ.words.tail))∧au jL σ l:=by
 unfold jL;constructor
 ·rw[ay (aG jo σ),h,az h];simp only[if_true];rw[ay (bF _ _)]
 ·refine aj (aG jo σ) ?_;rw[h,az h];exact aj (bF _ _) hl
theorem zF (h:σ.head jq=false):af gX σ=σ∧au gX σ []:=by
 unfold gX;constructor
 ·rw[ay (aG jq σ),h,av h];exact bs _ _
 ·refine aj (aG jq σ) ?_;rw[h,av h];exact aT _ _
theorem BO {l:List (Tr×Bool)}(h:σ.head jq=true)(hl:au (gI fS) (af (must vr) (.good σ.words.tail)) l):af gX σ=af (gI fS) (af (must vr) (.good σ.words.tail))∧au gX σ l:=by
 unfold gX;constructor
 ·rw[ay (aG jq σ),h,az h];simp only[if_true];rw[ay (bF _ _)]
 ·refine aj (aG jq σ) ?_;rw[h,az h];exact aj (bF _ _) hl
theorem BP (h:σ.head lp=false):af jb σ=σ∧au jb σ []:=by
 unfold jb;constructor
 ·rw[ay (aG lp σ),h,av h];exact bs _ _
 ·refine aj (aG lp σ) ?_;rw[h,av h];exact aT _ _
theorem DY {k:Int}(h:σ.head lp=true)(hk:au gu (.good σ.words.tail) k):af jb σ=af gu (.good σ.words.tail)∧au jb σ [k]:=by
 unfold jb;constructor
 ·rw[ay (aG lp σ),h,az h];simp only[if_true];rw[ay hk];exact bs _ _
 ·refine aj (aG lp σ) ?_;rw[h,az h];exact aj hk (aT _ _)
structure Mc {α:Type} (σ:aF) (k:Ps Qu) (bw:aF):Prop where
 step:af kK σ=af k bw
 gives:∀z,au k bw z→au kK σ z
theorem Mc.go {α:Type} {σ bw:aF} {p:Ps α} {f:α→Ps Qu} {x:α}(q:Mc (α:=Unit) σ (p >>= f) bw)(h:au p bw x):Mc (α:=Unit) σ (f x) (af p bw):=
 ⟨by rw[q.step];exact ay h,fun z hz=>q.gives z (aj h hz)⟩
theorem Mc.start (σ:aF):Mc (α:=Unit) σ kK σ:=⟨rfl,fun _ h=>h⟩
theorem Mc.done {σ bw:aF} {x:Qu}(q:Mc (α:=Unit) σ (pure x) bw):af kK σ=bw∧au kK σ x:=
 ⟨by rw[q.step];exact bs _ _,q.gives x (aT _ _)⟩
end
structure NF {α:Type} (P:Ps α) (σ:aF) (k:Ps α) (bw:aF):Prop where
 step:af P σ=af k bw
 gives:∀z,au k bw z→au P σ z
section
variable {α β:Type} {P k:Ps α} {σ bw:aF} {p:Ps β} {f:β→Ps α} {x:β} {z:α}
theorem NF.go (q:NF P σ (p >>= f) bw)(h:au p bw x):NF P σ (f x) (af p bw):=
 ⟨by rw[q.step];exact ay h,fun z hz=>q.gives z (aj h hz)⟩
theorem NF.done (q:NF P σ (pure z) bw):af P σ=bw∧au P σ z:=
 ⟨by rw[q.step];exact bs _ _,q.gives z (aT _ _)⟩
end
section
variable {α β γ:Type}
theorem fh (p:Ps α)(g:α→Ps β)(f:β→Ps γ):((p >>= g)>>= f)=(p >>= fun x=>g x >>= f):=by funext l;rw[ee,ee,ee];cases p l <;> rfl
end
theorem Hl (s t:List UInt8)(k:Unit→Ps St):(must s >>= fun _=>must t >>= k)=(lG [s,t] >>= k):=by unfold lG;rw[fh];congr 1;funext _;unfold lG;rw[fh];congr 1
def XM (name:ByteArray)(cols:List (ByteArray×Int))(time:ByteArray)(every:Int)(sp:ByteArray×Int):Ps St:=pure { kind:=1,name,cols,time,every,space:=sp.1,parts:=sp.2 }
def XN (name:ByteArray)(cols:List (ByteArray×Int))(time:ByteArray)(every:Int)(b:Bool):Ps St:=
 if b then(do
  let s ← bE
  must Dd
  let n ← gu
  XM name cols time every (s,n))else XM name cols time every (ByteArray.empty,0)
def XO (name:ByteArray)(cols:List (ByteArray×Int))(time:ByteArray)(every:Int):Ps St:=do
 let b ← may EI
 XN name cols time every b
theorem Rw (name:ByteArray)(cols:List (ByteArray×Int))(time:ByteArray)(every:Int):(Dg >>= XM name cols time every)=XO name cols time every:=by
 unfold Dg XO XN;rw[fh];congr 1;funext b;cases b
 ·rfl
 ·simp only[if_true];rw[fh];congr 1;funext s;rw[fh];congr 1;funext _;rw[fh];rfl
def ZZ (name:ByteArray)(cols:List (ByteArray×Int)):Ps St:=do
 lG [aN,JM]
 let time ← bE
 must uu
 let every ← gu
 XO name cols time every
def A0 (name:ByteArray):Ps St:=do
 must cj
 let cols ← gI uv
 ZZ name cols
theorem KY:yR=(bE >>= A0):=by unfold yR A0 ZZ;congr 1;funext name;congr 1;funext _;congr 1;funext cols;rw[← Hl];congr 1;funext _;congr 1;funext _;congr 1;funext time;congr 1;funext _;congr 1;funext every;exact Rw name cols time every
def Rx (name:ByteArray)(what:Int)(Cn:ByteArray)(a b:Int):Ps St:=do
 must uu
 let every ← gu
 return { kind:=3,name,what,Cn,a,b,every }
def Ry (name:ByteArray)(s:List UInt8):Ps St:=
 if s=iq then(do
  let Cn ← bE
  must mR
  let a ← gu
  must Ud
  let b ← gu
  Rx name 9 Cn a b)else(do
  let Cn ← bE
  must EJ
  let a ← gu
  Rx name (if s=ja then 10 else 12) Cn a 0)
theorem Rz:MU=(bE >>= fun name=>ri [iq,ja,vu] >>= fun s=>Ry name s):=by
 unfold MU;congr 1;funext name;congr 1;funext s;unfold Ry OP;by_cases h:s=iq
 ·simp only[h,if_true];congr 1;funext Cn;rw[fh];congr 1;funext _;rw[fh];congr 1;funext a;rw[fh];congr 1;funext _;rw[fh];rfl
 ·simp only[h,if_false];congr 1;funext Cn;rw[fh];congr 1;funext _;rw[fh];rfl
def EQ {α:Type}(n:Nat)(p:Ps α)(Q:α→Prop):Prop:=∀l x r,l.length≤n→p l=.ok (x,r)→r.length≤n∧Q x
section
variable {α β:Type} {n:Nat} {p:Ps α} {Q Q':α→Prop} {R:β→Prop}
theorem aA {f:α→Ps β}(h:EQ n p Q)(k:∀x,Q x→EQ n (f x) R):EQ n (p >>= f) R:=by intro l y r hl e;obtain⟨x,m,h1,h2⟩:=cf e;obtain⟨a,b⟩:=h _ _ _ hl h1;exact k x b _ _ _ a h2
theorem dp {x:α}(h:Q x):EQ n (pure x:Ps α) Q:=by intro l y r hl e;obtain⟨rfl,rfl⟩:=eQ e;exact⟨hl,h⟩
theorem aJ (h:bX p):EQ n p fun _=>True:=fun l x r hl e=>⟨Nat.le_trans (h.len e) hl,trivial⟩
theorem ni {c:Prop} [Decidable c] {q:Ps α}(h:EQ n p Q)(k:EQ n q Q):EQ n (if c then p else q) Q:=by
 split
 ·exact h
 ·exact k
theorem BQ (h:EQ n p Q):∀(f:Nat) (acc:List α),(∀x∈acc,Q x)→EQ n (kJ p f acc) fun l=>∀x∈l,Q x
 | 0,acc,ha=>dp ha
 | f+1,acc,ha=>by
   intro l y r hl e;simp only[kJ] at e;split at e
   ·refine aA (R:=fun l=>∀x∈l,Q x) h (fun z hz=>BQ h f (acc++ [z]) fun x hx=>?_) _ _ _ ?_ e
    ·rcases List.mem_append.1 hx with hx | hx
     ·exact ha x hx
     ·simp at hx;subst hx;exact hz
    ·simp;omega
   ·injection e with e;injection e with e1 e2;subst e1;subst e2;exact⟨hl,ha⟩
theorem oX (h:EQ n p Q):EQ n (gI p) fun l=>∀x∈l,Q x:=by
 refine aA h fun z hz=>?_
 intro l y r hl e;exact BQ h l.length [z] (fun x hx=>by simp at hx;subst hx;exact hz) l y r hl e
end
def KZ (n:Nat)(t:Tr):Prop:=t.thin∧t.depth≤n
section
variable {n:Nat}
theorem oY:EQ n dE (KZ n):=fun l t r hl e=>by obtain⟨h1,h2⟩:=ND l t r e;exact⟨by omega,h1,by omega⟩
theorem oZ (s:List UInt8):EQ n (dA s) fun l=>(∀t∈l,KZ n t)∧l.length≤1:=
 aA (aJ (cI _)) fun b _=>ni (aA oY fun x hx=>dp ⟨fun t ht=>by simp at ht;subst ht;exact hx,Nat.le_refl _⟩) (dp ⟨fun t ht=>by simp at ht,Nat.zero_le _⟩)
theorem NG:EQ n gJ fun x=>KZ n x.1:=
 aA oY fun x hx=>aA (aJ (cI _)) fun b _=>ni (aA (aJ bK) fun _ _=>dp hx) (dp hx)
theorem La:EQ n fS fun x=>KZ n x.1:=
 aA oY fun x hx=>aA (aJ (cI _)) fun b _=>dp hx
theorem Lb:EQ n lS fun l=>∀x∈l,KZ n x.1:=
 aA (aJ (cI _)) fun b _=>ni (dp fun t ht=>by simp at ht) (oX NG)
theorem Lc:EQ n jL fun l=>∀x∈l,KZ n x:=
 aA (aJ (cI _)) fun b _=>ni (aA (aJ (aK _)) fun _ _=>oX oY) (dp fun t ht=>by simp at ht)
theorem Hm:EQ n gX fun l=>∀x∈l,KZ n x.1:=
 aA (aJ (cI _)) fun b _=>ni (aA (aJ (aK _)) fun _ _=>oX La) (dp fun t ht=>by simp at ht)
theorem BR:EQ n kK fun q=>(∀t∈q.exprs,KZ n t)∧q.bU.length≤1∧q.having.length≤1:=
 aA (aJ (aK _)) fun _ _=>aA Lb fun i hi=>aA (aJ (aK _)) fun _ _=>aA (aJ (cI _)) fun _ _=>aA (aJ bK) fun _ _=>aA (oZ _) fun w hw=>aA Lc fun g hg=>aA (oZ _) fun h hh=>aA Hm fun o ho=>aA (aJ om) fun _ _=>dp (by
  refine⟨?_,hw.2,hh.2⟩
  intro t ht
  simp only[Qu.exprs,List.mem_append,List.mem_map] at ht
  rcases ht with (((⟨x,hx,rfl⟩| ht)| ht)| ht)|⟨x,hx,rfl⟩
  ·exact hi x hx
  ·exact hw.1 t ht
  ·exact hg t ht
  ·exact hh.1 t ht
  ·exact ho x hx)
theorem RA:EQ n Ul fun x=>KZ n x.2:=
 aA (aJ bK) fun _ _=>aA (aJ (aK _)) fun _ _=>aA oY fun x hx=>dp hx
theorem RB:EQ n Uk fun l=>∀x∈l,KZ n x:=
 aA (aJ (aK _)) fun _ _=>aA (oX oY) fun l hl=>aA (aJ (aK _)) fun _ _=>dp hl
abbrev qG (n:Nat)(s:St):Prop:=(∀t∈s.exprs,KZ n t)∧s.bU.length≤1∧s.query.bU.length≤1∧s.query.having.length≤1
theorem rF {s:St}(h:s.exprs=[]):qG n s:=by refine⟨by rw[h];intro t ht;simp at ht,?_⟩;have:=congrArg List.length h;simp only[St.exprs,Qu.exprs,List.length_append,List.length_nil] at this;omega
theorem Ld:EQ n yR (qG n):=by
 rw[KY];refine aA (aJ bK) fun _ _=>aA (aJ (aK _)) fun _ _=>aA (aJ (jc rk)) fun _ _=>aA (aJ (vO _)) fun _ _=>aA (aJ bK) fun _ _=>aA (aJ (aK _)) fun _ _=>aA (aJ dK) fun _ _=>aA (aJ (cI _)) fun b _=>?_
 unfold XN;exact ni (aA (aJ bK) fun _ _=>aA (aJ (aK _)) fun _ _=>aA (aJ dK) fun _ _=>dp (rF rfl)) (dp (rF rfl))
theorem NH:EQ n OO (qG n):=
 aA (aJ bK) fun _ _=>aA (aJ (aK _)) fun _ _=>aA BR fun q hq=>dp (by
  refine⟨fun t ht=>?_,Nat.zero_le _,hq.2⟩
  simp only[St.exprs,List.flatten_nil,List.map_nil,List.nil_append] at ht
  exact hq.1 t ht)
theorem RD:EQ n MU (qG n):=by
 rw[Rz];refine aA (aJ bK) fun _ _=>aA (aJ (fV _)) fun s _=>?_
 have he:∀a b c d e,EQ n (Rx a b c d e) (qG n):=fun _ _ _ _ _=>aA (aJ (aK _)) fun _ _=>aA (aJ dK) fun _ _=>dp (rF rfl)
 unfold Ry;exact ni (aA (aJ bK) fun _ _=>aA (aJ (aK _)) fun _ _=>aA (aJ dK) fun _ _=>aA (aJ (aK _)) fun _ _=>aA (aJ dK) fun _ _=>he _ _ _ _ _)
  (aA (aJ bK) fun _ _=>aA (aJ (aK _)) fun _ _=>aA (aJ dK) fun _ _=>he _ _ _ _ _)
theorem Hn:EQ n yS (qG n):=aA (aJ (fV _)) fun _ _=>ni Ld (ni NH RD)
theorem NI:EQ n OQ (qG n):=aA (aJ (fV _)) fun _ _=>aA (aJ bK) fun _ _=>dp (rF rfl)
theorem Ho:EQ n EM (qG n):=
 aA (aJ (aK _)) fun _ _=>aA (aJ bK) fun _ _=>aA (aJ (aK _)) fun _ _=>aA (oX RB) fun l hl=>dp (by
  refine⟨fun t ht=>?_,Nat.zero_le _,Nat.zero_le _,Nat.zero_le _⟩
  simp only[St.exprs,Qu.exprs,List.map_nil,List.append_nil,List.mem_flatten] at ht
  obtain⟨r,hr,ht⟩:=ht
  exact hl r hr t ht)
theorem Hp:EQ n EN (qG n):=
 aA (aJ bK) fun _ _=>aA (aJ (aK _)) fun _ _=>aA (oX RA) fun l hl=>aA (oZ _) fun w hw=>dp (by
  refine⟨fun t ht=>?_,hw.2,Nat.zero_le _,Nat.zero_le _⟩
  simp only[St.exprs,Qu.exprs,List.map_nil,List.append_nil,List.flatten_nil,List.nil_append,List.mem_append,List.mem_map] at ht
  rcases ht with ⟨x,hx,rfl⟩| ht
  ·exact hl x hx
  ·exact hw.1 t ht)
theorem Hq:EQ n EO (qG n):=
 aA (aJ (aK _)) fun _ _=>aA (aJ bK) fun _ _=>aA (oZ _) fun w hw=>dp (by
  refine⟨fun t ht=>?_,hw.2,Nat.zero_le _,Nat.zero_le _⟩
  simp only[St.exprs,Qu.exprs,List.map_nil,List.append_nil,List.flatten_nil,List.nil_append] at ht
  exact hw.1 t ht)
theorem Hr:EQ n yT (qG n):=
 aA BR fun q hq=>dp (by
  refine⟨fun t ht=>?_,Nat.zero_le _,hq.2⟩
  simp only[St.exprs,List.flatten_nil,List.map_nil,List.nil_append] at ht
  exact hq.1 t ht)
theorem NJ:EQ n OS (qG n):=
 aA (aJ (fV _)) fun _ _=>aA (aJ (aK _)) fun _ _=>aA (aJ bK) fun _ _=>aA (aJ (aK _)) fun _ _=>aA (aJ (ze _)) fun _ _=>aA (aJ xJ) fun _ _=>aA (aJ (aK _)) fun _ _=>dp (rF rfl)
theorem zG:EQ n cH (qG n):=by
 intro l x r hl e
 match l with
 | []=>cases e
 | t::q=>
   simp only[cH] at e;have hq:q.length≤n:=by simp at hl;omega
   split at e
   ·cases e
   split at e
   ·exact Hr _ _ _ hl e
   split at e
   ·exact Hn _ _ _ hq e
   split at e
   ·exact NI _ _ _ hq e
   split at e
   ·exact Ho _ _ _ hq e
   split at e
   ·exact Hp _ _ _ hq e
   split at e
   ·exact Hq _ _ _ hq e
   split at e
   ·exact NJ _ _ _ hq e
   ·cases e
end
def NK (t:Wd):Prop:=(0≤t.n∧t.n≤9223372036854775807)∧(t.k=4→t.s∈signs)
theorem NL {r rest:List UInt8} {w:Wd}(h:gT r=.ok (w,rest)):NK w:=by
 match r with
 | []=>cases h
 | c::r=>
   simp only[gT] at h;split at h
   ·split at h
    ·injection h with h;injection h with h1 h2;subst h1;exact⟨⟨by simp,by simp⟩,fun e=>by simp at e⟩
    ·cases h
   split at h
   ·split at h
    ·rename_i hb;injection h with h;injection h with h1 h2;subst h1;refine⟨?_,fun e=>by simp at e⟩;simp only[Bool.and_eq_true,rb,decide_eq_true_eq] at hb;have:=hb.1.2;simp only;omega
    ·cases h
   split at h
   ·split at h
    ·injection h with h;injection h with h1 h2;subst h1;exact⟨⟨by simp,by simp⟩,fun e=>by simp at e⟩
    ·cases h
   ·split at h
    ·rename_i s hs;injection h with h;injection h with h1 h2;subst h1;exact⟨⟨by simp,by simp⟩,fun _=>(nY hs).1⟩
    ·cases h
theorem BS (n:Nat):∀(f:Nat) (r:List UInt8) (l:List Tok),si n f r=.ok l→(∃b,l=b++ [⟨⟨0,[],0⟩,n⟩])∧l.length≤r.length+1∧∀t∈l,NK t.w
 | 0,r,l,h=>by cases h
 | f+1,r,l,h=>by
   have hle:=jB false r;simp only[si] at h;split at h
   ·injection h with h;subst h;exact⟨⟨[],rfl⟩,by simp,fun t ht=>by simp at ht;subst ht;exact⟨⟨by simp,by simp⟩,fun e=>by simp at e⟩⟩
   ·rename_i c r' hsk;rw[hsk] at hle;split at h
    ·cases h
    ·rename_i w rest ho;have hlt:=uq ho;split at h
     ·cases h
     ·rename_i l' hl';injection h with h;subst h;obtain⟨⟨b,hb⟩,h1,h2⟩:=BS n f rest l' hl';refine⟨⟨⟨w,_⟩::b,by rw[hb];rfl⟩,by simp only[List.length_cons] at hlt hle ⊢;omega,fun t ht=>?_⟩;rcases List.mem_cons.1 ht with rfl | ht
      ·exact NL ho
      ·exact h2 t ht
theorem zH {s:List UInt8} {l:List Tok}(h:qm s=.ok l):(∃b n,l=b++ [⟨⟨0,[],0⟩,n⟩])∧l.length≤4097∧∀t∈l,NK t.w:=by
 unfold qm at h;split at h
 ·cases h
 ·rename_i hs;obtain⟨⟨b,hb⟩,h1,h2⟩:=BS _ _ _ _ h;exact⟨⟨b,_,hb⟩,by omega,h2⟩
theorem Hs {s:List UInt8} {l:List Tok}(h:qm s=.ok l):fT (l.map (·.w)):=by obtain⟨⟨b,n,rfl⟩,_⟩:=zH h;exact⟨b.map (·.w),⟨0,[],0⟩,by simp,rfl⟩
theorem Ht {s:List UInt8} {l:List Tok}(h:qm s=.ok l):∃t r,l=t::r:=by
 obtain⟨⟨b,n,rfl⟩,_⟩:=zH h;cases b with
 | nil=>exact⟨_,_,rfl⟩
 | cons t b=>exact⟨_,_,rfl⟩
theorem RF (s:List UInt8)(l:fA):∃b r,may s l=.ok (b,r):=by
 unfold may;split
 ·exact⟨_,_,rfl⟩
 ·exact⟨_,_,rfl⟩
theorem Le {l:fA} {d:St}(h:au cH (.good l) d):af qq (.good l)=af AP (af (may qp) (af cH (.good l)))∧au qq (.good l) d:=by
 simp only[af,au,qq,ee] at h ⊢;cases e:cH l with
 | error n=>exact⟨rfl,trivial⟩
 | ok y=>
   obtain⟨y,r⟩:=y;rw[e] at h;simp only at h ⊢;subst h;obtain⟨b,r1,hm⟩:=RF qp r;rw[hm];simp only;cases e2:AP r1 with
   | error n=>exact⟨rfl,trivial⟩
   | ok z=>exact⟨rfl,rfl⟩
theorem DZ {α:Type} {p:Ps α} {l r:fA} {x:α}(h:af p (.good l)=.good r)(k:au p (.good l) x):p l=.ok (x,r):=by
 simp only[af,au] at h k;cases e:p l with
 | error m=>rw[e] at h;cases h
 | ok y=>rw[e] at h k;injection h with h;simp only at k;rw[k,← h]
theorem Hu (t:Wd)(r:fA):af AP (.good (t::r))=if t.k=0 then .good (t::r)else .bad (t::r).length:=by
 simp only[af,AP];split
 ·rename_i h;split at h
  ·rename_i hk;injection h with h;injection h with h1 h2;rw[if_pos hk,h2]
  ·cases h
 ·rename_i h;split at h
  ·cases h
  ·rename_i hk;injection h with h;rw[if_neg hk,h]
theorem Lf {n:Nat} {l r:fA} {d:St}(hn:l.length≤n)(h:qq l=.ok (d,r)):qG n d:=by obtain⟨x,m,h1,h2⟩:=cf h;obtain⟨b,m2,_,h3⟩:=cf h2;obtain⟨u,m3,_,h4⟩:=cf h3;obtain⟨rfl,_⟩:=eQ h4;exact(zG _ _ _ hn h1).2
theorem BU {α:Type}:∀ {rows:List (List α)} {k:Nat},(∀r∈rows,r.length≤k)→rows.flatten.length≤rows.length*k
 | [],k,h=>by simp
 | r::rows,k,h=>by
   have h1:=h r (by simp);have h2:=BU (rows:=rows) fun x hx=>h x (by simp[hx])
   simp only[List.flatten_cons,List.length_append,List.length_cons,Nat.add_mul,Nat.one_mul];omega
theorem Hv {n:Nat} {d:St}(h:qG n d)(hl:d.long=false):d.exprs.length≤100000∧d.rows.length≤64:=by
 obtain⟨_,h1,h2,h3⟩:=h;simp only[St.long,Qu.long,Bool.or_eq_false_iff,decide_eq_false_iff_not,Nat.not_lt] at hl;obtain⟨⟨⟨⟨a,b⟩,c⟩,e⟩,⟨f,g⟩,i⟩:=hl;have hf:=BU (rows:=d.rows) (k:=64) fun r hr=>by have:=List.any_eq_false.1 c r hr;simpa using this
 have:=Nat.mul_le_mul_right 64 b;simp only[St.exprs,Qu.exprs,List.length_append,List.length_map];omega
theorem Ea {s:List UInt8} {l:List Tok} {r:fA} {d:St}(h:qm s=.ok l)(hw:qq (l.map (·.w))=.ok (d,r)):mU s=if d.long then .error (0,2)else if AQ d.exprs then .error (0,32)else .ok d:=by unfold mU;rw[h];simp only;rw[hw]
theorem Hw {l:List Tr} {i:Nat} {t:Tr}(h:l[i]?=some t)(hi:∀x∈l.take i,x.depth≤32)(ht:t.depth≤32):∀x∈l.take (i+1),x.depth≤32:=by
 rw[List.take_add_one,h];intro x hx;rcases List.mem_append.1 hx with hx | hx
 ·exact hi x hx
 ·simp at hx;subst hx;exact ht
theorem Lg {l:List Tr} {t:Tr}(h:t∈l)(ht:32 < t.depth):AQ l=true:=List.any_eq_true.2 ⟨t,h,by simpa using ht⟩
theorem NM {l:List Tr}(h:∀x∈l,x.depth≤32):AQ l=false:=by unfold AQ;rw[List.any_eq_false];intro x hx;have:=h x hx;simp;omega
end Go.Proofs.YtfmbcoeallmnnaaGreatDoor.R
