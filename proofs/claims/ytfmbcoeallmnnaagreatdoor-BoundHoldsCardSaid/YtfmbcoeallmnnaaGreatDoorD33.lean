/- Parts of the proof. -/
import Derived.Test.YtfmbcoeallmnnaaGreatDoorD32
namespace Go.Proofs.YtfmbcoeallmnnaaGreatDoor.R
open Go.Lib (hid)
set_option linter.unusedSimpArgs false
set_option linter.unusedVariables false
section
variable {s:List UInt8} {σ:aH} {x:Tr}
theorem BU (h:σ.head s=false):af (dI s) σ=σ∧au (dI s) σ []:=by
 unfold dI;constructor
 ·rw[az (aI s σ),h,aw h];exact bz _ _
 ·refine aj (aI s σ) ?_;rw[h,aw h];exact aW _ _
theorem Eu (h:σ.head s=true)(hx:au dL (.good σ.words.tail) x):af (dI s) σ=af dL (.good σ.words.tail)∧au (dI s) σ [x]:=by
 unfold dI;constructor
 ·rw[az (aI s σ),h,aB h];simp only[if_true];rw[az hx];exact bz _ _
 ·refine aj (aI s σ) ?_;rw[h,aB h];exact aj hx (aW _ _)
theorem GX (hx:au dL σ x)(h:(af dL σ).head xC=false):af ie σ=af dL σ∧au ie σ (x,ByteArray.empty):=by
 unfold ie;constructor
 ·rw[az hx,az (aI xC _),h,aw h];exact bz _ _
 ·refine aj hx (aj (aI xC _) ?_);rw[h,aw h];exact aW _ _
theorem Lm {n:ByteArray}(hx:au dL σ x)(h:(af dL σ).head xC=true)(hn:au bL (.good (af dL σ).words.tail) n):af ie σ=af bL (.good (af dL σ).words.tail)∧au ie σ (x,n):=by
 unfold ie;constructor
 ·rw[az hx,az (aI xC _),h,aB h];simp only[if_true];rw[az hn];exact bz _ _
 ·refine aj hx (aj (aI xC _) ?_);rw[h,aB h];exact aj hn (aW _ _)
theorem iL (hx:au dL σ x):af gB σ=af (may rv) (af dL σ)∧au gB σ (x,(af dL σ).head rv):=by
 unfold gB;constructor
 ·rw[az hx,az (aI rv _)];exact bz _ _
 ·exact aj hx (aj (aI rv _) (aW _ _))
end
structure ez {α:Type} (el:Ps α) (σ:aH) (acc:List α) (bB:aH):Prop where
 step:af (ic el) σ=af (DO el acc) bB
 gives:∀z,au (DO el acc) bB z→au (ic el) σ z
section
variable {α:Type} {el:Ps α} {σ bB:aH} {acc:List α} {x:α}
theorem ez.start (h:au el σ x):ez el σ [x] (af el σ):=by
 rw[show(ez el σ [x] (af el σ))=(ez el σ [x] (af el σ))from rfl];refine⟨?_,fun z hz=>?_⟩
 ·rw[IQ];exact az h
 ·rw[IQ];exact aj h hz
theorem ez.go (hb:cg el)(k:ez el σ acc bB)(h:bB.head aX=true)(hx:au el (.good bB.words.tail) x):ez el σ (acc++ [x]) (af el (.good bB.words.tail)):=by
 refine⟨?_,fun z hz=>k.gives z ?_⟩
 ·rw[k.step,sZ hb,az (aI aX _),h,aB h];simp only[if_true];exact az hx
 ·rw[sZ hb];refine aj (aI aX _) ?_;rw[h,aB h];exact aj hx hz
theorem ez.done (hb:cg el)(k:ez el σ acc bB)(h:bB.head aX=false):af (ic el) σ=bB∧au (ic el) σ acc:=by
 refine⟨?_,k.gives _ ?_⟩
 ·rw[k.step,sZ hb,az (aI aX _),h,aw h];exact bz _ _
 ·rw[sZ hb];refine aj (aI aX _) ?_;rw[h,aw h];exact aW _ _
end
open Go.ChangeShapes Go.WideShapes Go.ChangeAt Go.RowKit
def kn (y:Sl):Value:=.slice y.A y.n y.c
def Sl.nil:Sl:=⟨none,0,0⟩
def El.sl {α:Type}(E:El α)(w:World)(S:Nat→Prop)(y:Sl)(l:List α):Prop:=E.lies w S y.A y.n l
theorem El.lO {α:Type}(E:El α)(w:World)(S:Nat→Prop):E.sl w S Sl.nil []:=E.NM w S
theorem El.sl.keep {α:Type} {E:El α} {w w':World} {S S':Nat→Prop} {y:Sl} {l:List α}(h:E.sl w S y l)(hk:∀b,S b→(∀o,w'.cell? ⟨b,o,none⟩=w.cell? ⟨b,o,none⟩)∧S' b):E.sl w' S' y l:=El.lies.keep h hk
structure BV where
 items:Sl:=.nil
 cy:ByteArray:=ByteArray.empty
 only:Bool:=false
 cf:Sl:=.nil
 group:Sl:=.nil
 having:Sl:=.nil
 order:Sl:=.nil
 bU:Sl:=.nil
def yN (y:BV):List Value:=[kn y.items,.string y.cy,.bool y.only,kn y.cf,kn y.group,kn y.having,kn y.order,kn y.bU]
def VS (y:BV):Value:=.agg (yN y).toArray
structure Qu.at_ (w:World) (S:Nat→Prop) (q:Qu) (y:BV):Prop where
 items:kt.sl w S y.items q.items
 cy:y.cy=q.cy
 only:y.only=q.only
 cf:nh.sl w S y.cf q.cf
 group:nh.sl w S y.group q.group
 having:nh.sl w S y.having q.having
 order:jP.sl w S y.order q.order
 bU:NN.sl w S y.bU q.bU
theorem Qu.at_.keep {w w':World} {S S':Nat→Prop} {q:Qu} {y:BV}(hk:∀b,S b→(∀o,w'.cell? ⟨b,o,none⟩=w.cell? ⟨b,o,none⟩)∧S' b)(h:q.at_ w S y):q.at_ w' S' y:=
 ⟨h.items.keep hk,h.cy,h.only,h.cf.keep hk,h.group.keep hk,h.having.keep hk,h.order.keep hk,h.bU.keep hk⟩
theorem Qu.uw (w:World)(S:Nat→Prop):Qu.at_ w S {} {}:=⟨kt.lO _ _,rfl,rfl,nh.lO _ _,nh.lO _ _,nh.lO _ _,jP.lO _ _,NN.lO _ _⟩
structure Fk where
 kind:Int:=0
 name:ByteArray:=ByteArray.empty
 cols:Sl:=.nil
 time:ByteArray:=ByteArray.empty
 every:Int:=0
 space:ByteArray:=ByteArray.empty
 parts:Int:=0
 query:BV:= {}
 what:Int:=0
 Fg:ByteArray:=ByteArray.empty
 a:Int:=0
 b:Int:=0
 rows:Sl:=.nil
 jf:Sl:=.nil
 cf:Sl:=.nil
 cy:Val:=fu
 Tl:Val:=fu
def Ln (v:Val):List Value:=[.int .u8 v.k,.int .i64 v.n,.string v.s]
def mo (y:Fk):List Value:=[.int .u8 y.kind,.string y.name,kn y.cols,.string y.time,.int .i64 y.every,.string y.space,.int .i64 y.parts]++yN y.query++ [.int .u8 y.what,.string y.Fg,.int .i64 y.a,.int .i64 y.b,kn y.rows,kn y.jf,kn y.cf]++Ln y.cy++Ln y.Tl
def OO (y:Fk):Value:=.agg (mo y).toArray
structure St.at_ (w:World) (S:Nat→Prop) (s:St) (y:Fk):Prop where
 kind:y.kind=s.kind
 name:y.name=s.name
 cols:Tu.sl w S y.cols s.cols
 time:y.time=s.time
 every:y.every=s.every
 space:y.space=s.space
 parts:y.parts=s.parts
 query:s.query.at_ w S y.query
 what:y.what=s.what
 Fg:y.Fg=s.Fg
 a:y.a=s.a
 b:y.b=s.b
 rows:Tx.sl w S y.rows s.rows
 jf:Tw.sl w S y.jf s.jf
 cf:nh.sl w S y.cf s.cf
 cy:y.cy=s.cy
 Tl:y.Tl=s.Tl
theorem St.at_.keep {w w':World} {S S':Nat→Prop} {s:St} {y:Fk}(hk:∀b,S b→(∀o,w'.cell? ⟨b,o,none⟩=w.cell? ⟨b,o,none⟩)∧S' b)(h:s.at_ w S y):s.at_ w' S' y:=
 ⟨h.kind,h.name,h.cols.keep hk,h.time,h.every,h.space,h.parts,h.query.keep hk,h.what,h.Fg,h.a,h.b,h.rows.keep hk,h.jf.keep hk,h.cf.keep hk,h.cy,h.Tl⟩
theorem St.uw (w:World)(S:Nat→Prop):St.at_ w S {} {}:=
 ⟨rfl,rfl,Tu.lO _ _,rfl,rfl,rfl,rfl,Qu.uw _ _,rfl,rfl,rfl,rfl,Tx.lO _ _,Tw.lO _ _,nh.lO _ _,rfl,rfl⟩
def VT {α:Type}(E:El α)(ρ:cB)(W:World)(big:Bool)(p:Ps (List α))(σ:aH)(e:Ending)(w':World):Prop:=∃(l:List α) (y:Sl),e=.returned (kn y)∧E.sl w' (gK W.heap.size w') y l∧dH ρ W w' (af p σ) (big || decide (64 < l.length))∧au p σ l
def BW {α:Type}(E:El α)(val:E.β→Value)(lng:α→Bool)(ρ:cB)(W:World)(big:Bool)(p:Ps α)(σ:aH)(e:Ending)(w':World):Prop:=∃(x:α) (y:E.β),e=.returned (val y)∧E.rel w' (gK W.heap.size w') x y∧dH ρ W w' (af p σ) (big || lng x)∧au p σ x
theorem VU {w:World} {S:Nat→Prop} {G:Nat} {x:Tr} {y:Ex}(h:ag w G 34 (cW y).toArray)(hS:S G)(hx:x.at_ w S y):nh.sl w S ⟨some ⟨G,0,none⟩,1,1⟩ [x]:=
 ⟨rfl,[y],BI (f:=cW) ku (by show ag w G _ (cW y++ []).toArray;rw[List.append_nil];exact h) hS,.one hx⟩
def Aw (y:Ex×ByteArray):List Value:=cW y.1++ [.string y.2]
def RR (y:Ex×ByteArray):Value:=.agg (Aw y).toArray
theorem cE {w:World} {q:Nat} {T:TypeId} {a b c d e f g i:Value}(h:ag w q T #[a,b,c,d,e,f,g,i]):
  w.cell? ⟨q,0,none⟩=some a∧w.cell? ⟨q,1,none⟩=some b∧w.cell? ⟨q,2,none⟩=some c∧w.cell? ⟨q,3,none⟩=some d∧w.cell? ⟨q,4,none⟩=some e∧w.cell? ⟨q,5,none⟩=some f∧w.cell? ⟨q,6,none⟩=some g∧w.cell? ⟨q,7,none⟩=some i:=
 ⟨h.cell 0,h.cell 1,h.cell 2,h.cell 3,h.cell 4,h.cell 5,h.cell 6,h.cell 7⟩
theorem jm {w:World} {q:Nat} {T:TypeId} {cs:Array Value}(h:ag w q T cs):
  w.frozen? ⟨q,0,none⟩=false∧w.frozen? ⟨q,1,none⟩=false∧w.frozen? ⟨q,2,none⟩=false∧w.frozen? ⟨q,3,none⟩=false∧w.frozen? ⟨q,4,none⟩=false∧w.frozen? ⟨q,5,none⟩=false∧w.frozen? ⟨q,6,none⟩=false∧w.frozen? ⟨q,7,none⟩=false:=
 ⟨h.frozen 0,h.frozen 1,h.frozen 2,h.frozen 3,h.frozen 4,h.frozen 5,h.frozen 6,h.frozen 7⟩
def rJ (w:World)(q:Nat)(y:Ex)(v:Value):World:=(cz w q y).setCell ⟨q,7,none⟩ v
theorem dH.rJ {ρ:cB} {W w:World} {σ:aH} {big:Bool} {q:Nat}(h:dH ρ W w σ big)(hW:ρ.g < W.heap.size)(hq:W.heap.size≤q)(y:Ex)(v:Value):dH ρ W (rJ w q y v) σ big:=(h.cz hW hq y).far hW hq 7 v
theorem Tr.at_.rJ {B q:Nat} {w:World} {t:Tr} {y:Ex}(h:t.at_ w (gK B w) y)(hq:q < B)(z:Ex)(v:Value):t.at_ (rJ w q z v) (gK B (Go.Proofs.YtfmbcoeallmnnaaGreatDoor.R.rJ w q z v)) y:=(h.cz hq z).set hq 7 v
theorem yy {w:World} {q:Nat} {T:TypeId} {a b c d e f g i:Value}(h:ag w q T #[a,b,c,d,e,f,g,i])(y:Ex)(v:Value):ag (rJ w q y v) q T (cW y++ [v]).toArray:=by have:=((((((((h.cA 0 (.int .u8 y.op)).cA 1 (.int .u8 y.v.k)).cA 2 (.int .i64 y.v.n)).cA 3 (.string y.v.s)).cA 4 (.string y.name)).cA 5 (.int .i64 y.width)).cA 6 (.slice y.A y.n y.c)).cA 7 v);simp only[List.setIfInBounds_toArray,List.set_cons_zero,List.set_cons_succ] at this;exact this
def Xw:Obj:=.cells #[.int .u8 0,.int .u8 0,.int .i64 0,.string ⟨#[]⟩,.string ⟨#[]⟩,.int .i64 0,.slice none 0 0,.string ⟨#[]⟩] 138
set_option maxHeartbeats 1000000
set_option maxRecDepth 100000
theorem Ev (ρ:cB)(w:World)(σ:aH)(big:Bool)(h:ρ.at w σ big)(has:(af dL σ).head xC=false):
  Calls Tryz.prog 127 #[ρ.ptr] w (BW kt RR (fun _=>false) ρ w big ie σ):=by
 have dh:=h.rP;have hb:=aa w Xw;have h0:=h.later hb;have HQ:=hid (ag.new w 138 #[.int .u8 0,.int .u8 0,.int .i64 0,.string ⟨#[]⟩,.string ⟨#[]⟩,.int .i64 0,.slice none 0 0,.string ⟨#[]⟩]);have hsz:(w.alloc Xw).heap.size=w.heap.size+1:=by simp
 unfold Xw at*;go_enter Tryz.func127,Tryz.ntmps127;go_wp2_with fail;refine(uv ρ _ σ big h0).mono ?_;rintro e w2 ⟨t,y,rfl,ht,d2,fP⟩;unfold ji cW;have hs2:=d2.size;go_wp2_with fail;have D3:=((dH.bP h hb).trans d2).later (aa w2 (.cells (Aw (y,⟨#[]⟩)).toArray 138));have HX:=ag.new w2 138 (Aw (y,⟨#[]⟩)).toArray;have gU:=(d2.blk HQ.out (by omega)).alloc (.cells (Aw (y,⟨#[]⟩)).toArray 138);have TS:=(ht.later (aa w2 (.cells (Aw (y,⟨#[]⟩)).toArray 138))).more (B':=w.heap.size+1) (by omega);unfold Aw cW at D3 HX gU TS;simp only[List.cons_append,List.nil_append] at D3 HX gU TS;generalize w2.alloc _=W3 at*;have TT:=hid (GX fP has);have hm:=cT ρ W3 _ big D3.at_ ⟨#[97,115]⟩ has;clear has fP h0 hb HQ ht d2;refine hm.mono ?_;rintro e w4 ⟨rfl,d4⟩;have HX4:=d4.blk HX (by omega);have Jn:=d4.blk gU (by omega);have HT4:=hid (TS.grown d4.grown (by omega));have Md:=hid (D3.trans d4);have yo:=hid Jn;obtain⟨x0,x1,x2,x3,x4,x5,x6,x7⟩:=cE HX4;obtain⟨y0,y1,y2,y3,y4,y5,y6,y7⟩:=cE Jn;obtain⟨z0,z1,z2,z3,z4,z5,z6,z7⟩:=jm Jn;clear HX4 Jn HX gU TS D3 d4 hm;go_wp2_with fail;have HP:=yy yo.out y (.string ⟨#[]⟩);have HR:=cE HP;unfold rJ cz at HR;obtain⟨r0,r1,r2,r3,r4,r5,r6,r7⟩:=HR;refine bodyPost_ret (v:=RR (y,⟨#[]⟩)) ?_ rfl ?_
 ·simp[results,Tryz.results127,go_sem,r0,r1,r2,r3,r4,r5,r6,r7];rfl
 ·refine⟨(t,ByteArray.empty),(y,⟨#[]⟩),rfl,⟨(HT4.out.rJ (Nat.lt_succ_self _) y (.string ⟨#[]⟩)).more (by omega),rfl⟩,?_,TT.out.2⟩;rw[TT.out.1,Bool.or_false];exact Md.out.rJ dh (Nat.le_refl _) y (.string ⟨#[]⟩)
def kz:List Nat→Nat
 | []=>0
 | a::l=>max a (kz l)
theorem ve:∀(l:List Nat) (a:Nat),kz (l++ [a])=max (kz l) a
 | [],a=>by simp[kz]
 | b::l,a=>by simp only[List.cons_append,kz,ve l a];omega
theorem Lp {l:List Nat} {i d:Nat}(h:l[i]?=some d):kz (l.take (i+1))=max (kz (l.take i)) d:=by rw[List.take_add_one,h];exact ve _ _
theorem Ew:∀ {l:List Nat} {d:Nat},d∈l→d≤kz l
 | a::l,d,h=>by
   rcases List.mem_cons.1 h with rfl | h
   ·simp only[kz];omega
   ·have:=Ew h;simp only[kz];omega
theorem tA:∀(l:List Nat) (i:Nat),kz (l.take i)≤kz l
 | [],i=>by simp[kz]
 | a::l,0=>by simp[kz]
 | a::l,i+1=>by have:=tA l i;simp only[List.take_succ_cons,kz];omega
theorem vg:∀ts:List Tr,Tr.il ts=kz (ts.map Tr.depth)
 | []=>by simp[Tr.il,kz]
 | t::ts=>by simp[Tr.il,kz,vg ts]
def Jo (f:FuncId)(w:World)(y:Ex)(d:Nat):Prop:=∀W,Below w.heap.size w W→Calls Tryz.prog f #[ji y] W fun e w'=>e=.returned (.int .i64 d)∧Below W.heap.size W w'
theorem uN (w:World)(y:Ex)(ys:List Ex)(ds:List Nat)(S:Nat→Prop)(hS:∀b,S b→b < w.heap.size)(hn:y.n=ys.length)(hA:RL cW 7 w S y.A ys)(hd:ds.length=ys.length)(hD:∀(i:Nat) x d,ys[i]?=some x→ds[i]?=some d→Jo 31 w x d)(hm:kz ds≤1000000)(hl:ys.length≤1000000000):Jo 31 w y (kz ds+1):=by
 intro W hW;obtain⟨nD,yv,fI,dO,yA,yn,yc⟩:=y;have hn:yn=ys.length:=hn;subst hn;have HD:=hid hD;have HM:=hid hm;have HDL:=hid hd;have HA:=hid hA;clear hD hm hd hA;unfold ji cW;have HX:=ag.new W 34 #[.int .u8 nD,.int .u8 yv.k,.int .i64 yv.n,.string yv.s,.string fI,.int .i64 dO,.slice yA ys.length yc];have hb:=aa W (.cells #[.int .u8 nD,.int .u8 yv.k,.int .i64 yv.n,.string yv.s,.string fI,.int .i64 dO,.slice yA ys.length yc] 34);go_enter Tryz.func31,Tryz.ntmps31;go_wp2_with fail;generalize W.alloc _=W1 at*;have jx:=hid hb;have HW:=hid hW;clear hb;go_loopw [3,4] (fun m iv wr=>∃i:Nat,i≤ys.length∧iv=.int .i64 i∧m=.int .i64 (kz (ds.take i))∧Below W1.heap.size W1 wr) (fun _ iv _=>ys.length - (intOf iv).toNat);case atStart=>exact⟨0,Nat.zero_le _,rfl,rfl,Below.refl _ _⟩
 case round=>
  obtain⟨i,hi,rfl,rfl,mD⟩:=hrel;have x6:=(HX.later mD).cell 6;simp only[List.getElem?_toArray,List.getElem?_cons_zero,List.getElem?_cons_succ] at x6;have G6:=tA ds i;have hmm:=HM.out;by_cases hlt:i < ys.length
  ·obtain⟨x,hx⟩:∃x,ys[i]?=some x:=⟨_,List.getElem?_eq_getElem hlt⟩;obtain⟨d,hdd⟩:∃d,ds[i]?=some d:=⟨_,List.getElem?_eq_getElem (by rw[HDL.out];exact hlt)⟩;have hDx:=HD.out i x d hx hdd;have hdm:=Ew (List.mem_of_getElem? hdd);have HMT:=hid (Lp hdd);have hwr:Below w.heap.size w wr:=hW.trans ((ae.then jx.out mD).mono hW.size);rcases HA.out with h0 |⟨b,off,Er,OP,hc⟩
   ·subst h0;simp at hlt
   have hcell:=fun j u hu=>(hwr.cell (p:=⟨b,off+i*7+j,none⟩) (hS b OP)).trans (hc i x j u hx hu)
   have k0:=hcell 0 _ rfl;have k1:=hcell 1 _ rfl;have k2:=hcell 2 _ rfl;have k3:=hcell 3 _ rfl;have k4:=hcell 4 _ rfl;have k5:=hcell 5 _ rfl;have k6:=hcell 6 _ rfl;simp only[Nat.add_zero] at k0;clear hx hdd hcell hc;subst Er;go_wp2_with fail;refine(hDx wr hwr).mono ?_;rintro e w' ⟨rfl,b'⟩;go_wp2_with fail;go_roundw;case rel=>refine⟨i+1,by omega,by go_num,?_,mD.trans (b'.mono mD.size)⟩;first | rw[HMT.out,show(max ((kz (ds.take i):Nat):Int) (d:Int))=((max (kz (ds.take i)) d:Nat):Int) by omega] |(rw[HMT.out];congr 1;split <;> omega)
   case measure=>simp[intOf];omega
  ·obtain rfl:i=ys.length:=by omega
   have yK:ds.take ys.length=ds:=List.take_of_length_le (Nat.le_of_eq HDL.out);rw[yK] at G6;simp only[yK];go_wp2_with fail;go_ret;exact⟨mg (by omega),ae.then jx.out mD⟩
mutual
def Tr.thin:Tr→Prop
 | .mk op v name width args=>args.length≤1000000000∧Tr.Jp args
def Tr.Jp:List Tr→Prop
 | []=>True
 | t::ts=>t.thin∧Tr.Jp ts
end
mutual
theorem Tr.ZP {w:World} {S:Nat→Prop}(hS:∀b,S b→b < w.heap.size):∀(t:Tr) (y:Ex),t.at_ w S y→t.thin→t.depth≤1000000→Jo 31 w y t.depth
 | .mk op v name width args,y,h,ht,hd=>by unfold Tr.at_ at h;obtain⟨_,_,_,_,hn,ys,hr,ha⟩:=h;unfold Tr.thin at ht;simp only[Tr.depth] at hd ⊢;have hl:=Tr.bJ.length ha;rw[vg] at hd ⊢;exact uN w y ys (args.map Tr.depth) S hS (by rw[hn,hl]) hr (by simp[hl]) (Tr.TU hS args ys ha ht.2 (by omega)) (by omega) (by rw[hl];exact ht.1)
theorem Tr.TU {w:World} {S:Nat→Prop}(hS:∀b,S b→b < w.heap.size):∀(ts:List Tr) (ys:List Ex),Tr.bJ w S ts ys→Tr.Jp ts→kz (ts.map Tr.depth)≤1000000→∀(i:Nat) x d,ys[i]?=some x→(ts.map Tr.depth)[i]?=some d→Jo 31 w x d
 | [],ys,h,_,_,i,x,d,hx,hd=>by simp at hd
 | t::ts,ys,h,ht,hm,i,x,d,hx,hd=>by
   unfold Tr.bJ at h;obtain⟨y,ys',rfl,h1,h2⟩:=h;unfold Tr.Jp at ht;simp only[List.map_cons,kz] at hm
   match i,hx,hd with
   | 0,hx,hd=>simp at hx hd;subst hx hd;exact Tr.ZP hS t y h1 ht.1 (by omega)
   | i+1,hx,hd=>exact Tr.TU hS ts ys' h2 ht.2 (by omega) i x d (by simpa using hx) (by simpa using hd)
end
theorem ck {α β:Type} {p:Ps α} {f:α→Ps β} {l r:fN} {y:β}(h:(p >>= f) l=.ok (y,r)):∃x m,p l=.ok (x,m)∧f x m=.ok (y,r):=by
 rw[ep] at h;cases e:p l with
 | error n=>rw[e] at h;cases h
 | ok z=>rw[e] at h;exact⟨z.1,z.2,rfl,h⟩
theorem eZ {α:Type} {x y:α} {l r:fN}(h:(pure x:Ps α) l=.ok (y,r)):y=x∧r=l:=by have h:(Except.ok (x,l):Except Nat (α×fN))=.ok (y,r):=h;injection h with h;injection h with h1 h2;exact⟨h1.symm,h2.symm⟩
theorem BX {s:List UInt8} {b:Bool} {l r:fN}(h:may s l=.ok (b,r)):(b=true∧bV s l=true∧r=l.tail∧r.length+1=l.length)∨(b=false∧bV s l=false∧r=l):=by
 unfold may at h;split at h
 ·rename_i hh;injection h with h;injection h with h1 h2;obtain⟨t,q,rfl,_⟩:=gD hh;exact .inl ⟨h1.symm,hh,h2.symm,by rw[← h2];simp⟩
 ·rename_i hh;injection h with h;injection h with h1 h2;exact .inr ⟨h1.symm,by simpa using hh,h2.symm⟩
theorem tB {s:List UInt8} {l r:fN}(h:must s l=.ok ((),r)):bV s l=true∧r=l.tail∧r.length+1=l.length:=by
 unfold must at h;split at h
 ·rename_i hh;injection h with h;injection h with h1 h2;obtain⟨t,q,rfl,_⟩:=gD hh;exact⟨hh,h2.symm,by rw[← h2];simp⟩
 ·cases h
def TQ (p:Ps Tr):Prop:=∀l t r,p l=.ok (t,r)→t.thin∧t.depth+r.length≤l.length
theorem Ax (op:Int)(x:Tr):(gZ op [x]).depth=x.depth+1:=by simp[gZ,Tr.depth,Tr.il]
theorem Ay (op:Int)(x y:Tr):(gZ op [x,y]).depth=max x.depth y.depth+1:=by simp[gZ,Tr.depth,Tr.il]
theorem Ey {op:Int} {x:Tr}(h:x.thin):(gZ op [x]).thin:=by unfold gZ Tr.thin;exact⟨by simp,h,trivial⟩
theorem Ez {op:Int} {x y:Tr}(h:x.thin)(k:y.thin):(gZ op [x,y]).thin:=by unfold gZ Tr.thin;exact⟨by simp,h,k,trivial⟩
theorem EA {below:Ps Tr}(hb:TQ below)(lv:Nat):∀(f:Nat) (x:Tr) (n:Nat) (l:fN) (t:Tr) (r:fN),x.thin→x.depth+l.length≤n→jg below lv f x l=.ok (t,r)→t.thin∧t.depth+r.length≤n
 | 0,x,n,l,t,r,hx,hn,h=>by obtain⟨rfl,rfl⟩:=eZ h;exact⟨hx,hn⟩
 | f+1,x,n,l,t,r,hx,hn,h=>by
   simp only[jg] at h;cases e:ix (opsL lv) l with
   | none=>rw[e] at h;injection h with h;injection h with h1 h2;subst h1;subst h2;exact⟨hx,hn⟩
   | some o=>rw[e] at h;obtain⟨y,m,h1,h2⟩:=ck h;obtain⟨k1,k2⟩:=hb _ _ _ h1;obtain⟨s,_,hs⟩:=gS e;obtain⟨w,q,rfl,_⟩:=gD hs;simp only[List.tail_cons,List.length_cons] at*;refine EA hb lv f _ n _ _ _ (Ez hx k1) ?_ h2;rw[Ay];omega
theorem vU {below:Ps Tr}(hb:TQ below)(lv:Nat):TQ (mb below lv):=by intro l t r h;obtain⟨x,m,h1,h2⟩:=ck h;obtain⟨k1,k2⟩:=hb _ _ _ h1;exact EA hb lv _ x _ m t r k1 k2 h2
theorem TV {same below:Ps Tr}(hs:TQ same)(hb:TQ below)(s:List UInt8)(op:Int):TQ (Gj s op same below):=by
 intro l t r h;obtain⟨b,m,h1,h2⟩:=ck h;rcases BX h1 with ⟨rfl,_,_,hl⟩|⟨rfl,_,rfl⟩
 ·obtain⟨x,m2,h3,h4⟩:=ck h2;obtain⟨rfl,rfl⟩:=eZ h4;obtain⟨k1,k2⟩:=hs _ _ _ h3;exact⟨Ey k1,by rw[Ax];omega⟩
 ·exact hb _ _ _ h2
theorem VV {below:Ps Tr}(hb:TQ below):TQ (KM below):=by
 intro l t r h;obtain⟨x,m,h1,h2⟩:=ck h;obtain⟨k1,k2⟩:=hb _ _ _ h1;obtain⟨b,m2,h3,h4⟩:=ck h2;rcases BX h3 with ⟨rfl,_,_,hl⟩|⟨rfl,_,rfl⟩
 ·obtain⟨n,m3,h5,h6⟩:=ck h4;obtain⟨_,m4,h7,h8⟩:=ck h6;obtain⟨rfl,rfl⟩:=eZ h8;have:=(cP lY).len h5;obtain⟨_,_,hm⟩:=tB h7;exact⟨Ey k1,by rw[Ax];omega⟩
 ·have h4:ub below x m2=_:=h4;unfold ub at h4;cases e:ix (opsL 3) m2 with
  | none=>rw[e] at h4;injection h4 with h4;injection h4 with h5 h6;subst h5;subst h6;exact⟨k1,k2⟩
  | some o=>rw[e] at h4;obtain⟨y,m3,h5,h6⟩:=ck h4;obtain⟨rfl,rfl⟩:=eZ h6;obtain⟨k3,k4⟩:=hb _ _ _ h5;obtain⟨s,_,hs⟩:=gS e;obtain⟨w,q,rfl,_⟩:=gD hs;simp only[List.tail_cons,List.length_cons] at*;exact⟨Ez k1 k3,by rw[Ay];omega⟩
theorem Jq {whole:Ps Tr}(hb:TQ whole)(op:Int):TQ (pn whole op):=by
 intro l t r h;obtain⟨width,m,h1,h2⟩:=ck h;obtain⟨x,m2,h3,h4⟩:=ck h2;obtain⟨ys,m3,h5,h6⟩:=ck h4;obtain⟨_,m4,h7,h8⟩:=ck h6;obtain⟨rfl,rfl⟩:=eZ h8;obtain⟨_,_,hm⟩:=tB h7;obtain⟨k1,k2⟩:=hb _ _ _ h3;have hw:m.length≤l.length:=by
  unfold my at h1;split at h1
  ·obtain⟨n,q,g1,g2⟩:=ck h1;obtain⟨_,q2,g3,g4⟩:=ck g2;obtain⟨_,rfl⟩:=eZ g4;have:=dM.len g1;have:=(aN aX).len g3;omega
  ·obtain⟨_,rfl⟩:=eZ h1;exact Nat.le_refl _
 have hy:(ys=[]∧m3=m2)∨∃y,ys=[y]∧y.thin∧y.depth+m3.length≤m2.length:=by
  unfold jO at h5;split at h5
  ·obtain⟨_,q,g1,g2⟩:=ck h5;obtain⟨y,q2,g3,g4⟩:=ck g2;obtain⟨rfl,rfl⟩:=eZ g4;obtain⟨a1,a2⟩:=hb _ _ _ g3;have:=(aN aX).len g1;exact .inr ⟨y,rfl,a1,by omega⟩
  ·obtain⟨rfl,rfl⟩:=eZ h5;exact .inl ⟨rfl,rfl⟩
 rcases hy with ⟨rfl,rfl⟩|⟨y,rfl,a1,a2⟩
 ·refine⟨by unfold Tr.thin;exact⟨by simp,k1,trivial⟩,?_⟩;simp only[Tr.depth,Tr.il];omega
 ·refine⟨by unfold Tr.thin;exact⟨by simp,k1,a1,trivial⟩,?_⟩;simp only[Tr.depth,Tr.il];omega
theorem BZ {t:Tr} {r l:fN}(h:t.thin)(hd:t.depth=1)(hr:r.length < l.length):t.thin∧t.depth+r.length≤l.length:=⟨h,by omega⟩
theorem ux (op:Int)(v:Val)(n:ByteArray)(k:Int):(Tr.mk op v n k []).thin:=by unfold Tr.thin;exact⟨by simp,trivial⟩
theorem rK (op:Int)(v:Val)(n:ByteArray)(k:Int):(Tr.mk op v n k []).depth=1:=by simp[Tr.depth,Tr.il]
theorem VW {whole:Ps Tr}(hb:TQ whole)(op:Int):TQ (jh whole op):=by
 intro l t r h;unfold jh at h;split at h
 ·obtain⟨b,m,h1,h2⟩:=ck h;rcases BX h1 with ⟨rfl,_,_,hl⟩|⟨rfl,_,rfl⟩
  ·obtain⟨_,m2,h3,h4⟩:=ck h2;obtain⟨rfl,rfl⟩:=eZ h4;obtain⟨_,_,hm⟩:=tB h3;exact BZ (ux _ _ _ _) (rK _ _ _ _) (by omega)
  ·exact Jq hb 22 _ _ _ h2
 ·exact Jq hb op _ _ _ h
theorem OQ {whole:Ps Tr}(hb:TQ whole):TQ (xH whole):=by
 intro l t r h;obtain⟨n,m,h1,h2⟩:=ck h;have hn:m.length < l.length:=by
  unfold bL at h1;split at h1
  ·cases h1
  ·split at h1
   ·injection h1 with h1;injection h1 with _ h1;subst h1;simp
   ·cases h1
 have h2:(if bV cp m then(match fO n with | none=> .error m.length | some op=>jh whole op m.tail)else .ok (eF n,m):Except Nat (Tr×fN))=_:=h2;split at h2
 ·rename_i hh;cases e:fO n with
  | none=>rw[e] at h2;cases h2
  | some op=>rw[e] at h2;obtain⟨k1,k2⟩:=VW hb op _ _ _ h2;exact⟨k1,by simp at k2;omega⟩
 ·injection h2 with h2;injection h2 with h3 h4;subst h3;subst h4;exact BZ (ux _ _ _ _) (rK _ _ _ _) hn
theorem RS {whole:Ps Tr}(hb:TQ whole):TQ (kF whole):=by
 intro l t r h
 match l with
 | []=>cases h
 | a::q=>
   simp only[kF] at h;have lf:∀v,(.ok (iH v,q):Except Nat (Tr×fN))=.ok (t,r)→t.thin∧t.depth+r.length≤(a::q).length:=by intro v e;injection e with e;injection e with e1 e2;subst e1;subst e2;exact BZ (ux _ _ _ _) (rK _ _ _ _) (by simp)
   split at h
   ·exact lf _ h
   split at h
   ·exact lf _ h
   split at h
   ·exact lf _ h
   split at h
   ·exact lf _ h
   split at h
   ·exact lf _ h
   split at h
   ·obtain⟨x,m,h1,h2⟩:=ck h;obtain⟨_,m2,h3,h4⟩:=ck h2;obtain⟨rfl,rfl⟩:=eZ h4;obtain⟨k1,k2⟩:=hb _ _ _ h1;obtain⟨_,_,hm⟩:=tB h3;exact⟨k1,by simp;omega⟩
   ·exact OQ hb _ _ _ h
theorem OS:TQ ua:=by intro l t r h;cases h
theorem pC:∀f lv,TQ (pE f lv)
 | 0,lv=>by unfold pE;exact OS
 | f+1,0=>by unfold pE;exact vU (pC f 1) 0
 | f+1,1=>by unfold pE;exact vU (pC f 2) 1
 | f+1,2=>by unfold pE;exact TV (pC f 2) (pC f 3) _ _
 | f+1,3=>by unfold pE;exact VV (pC f 4)
 | f+1,4=>by unfold pE;exact vU (pC f 5) 4
 | f+1,5=>by unfold pE;exact vU (pC f 6) 5
 | f+1,6=>by unfold pE;exact TV (pC f 6) (pC f 7) _ _
 | f+1,lv+7=>by unfold pE;exact RS (pC f 0)
theorem RT:TQ dL:=fun l t r h=>pC _ _ l t r h
section
variable {σ:aH}
theorem GY (h:σ.head ek=true):af mz σ=.good σ.words.tail∧au mz σ []:=by
 unfold mz;constructor
 ·rw[az (aI ek σ),h,aB h];exact bz _ _
 ·refine aj (aI ek σ) ?_;rw[h,aB h];exact aW _ _
theorem GZ {l:List (Tr×ByteArray)}(h:σ.head ek=false)(hl:au (ic ie) σ l):af mz σ=af (ic ie) σ∧au mz σ l:=by
 unfold mz;constructor
 ·rw[az (aI ek σ),h,aw h];rfl
 ·refine aj (aI ek σ) ?_;rw[h,aw h];exact hl
theorem EB (h:σ.head jM=false):af kr σ=σ∧au kr σ []:=by
 unfold kr;constructor
 ·rw[az (aI jM σ),h,aw h];exact bz _ _
 ·refine aj (aI jM σ) ?_;rw[h,aw h];exact aW _ _
theorem Ha {l:List Tr}(h:σ.head jM=true)(hl:au (ic dL) (af (must xB) (.good σ.words.tail)) l):af kr σ=af (ic dL) (af (must xB) (.good σ.words.tail))∧au kr σ l:=by
 unfold kr;constructor
 ·rw[az (aI jM σ),h,aB h];simp only[if_true];rw[az (bM _ _)]
 ·refine aj (aI jM σ) ?_;rw[h,aB h];exact aj (bM _ _) hl
theorem Ca (h:σ.head jN=false):af iB σ=σ∧au iB σ []:=by
 unfold iB;constructor
 ·rw[az (aI jN σ),h,aw h];exact bz _ _
 ·refine aj (aI jN σ) ?_;rw[h,aw h];exact aW _ _
theorem EC {l:List (Tr×Bool)}(h:σ.head jN=true)(hl:au (ic gB) (af (must xB) (.good σ.words.tail)) l):af iB σ=af (ic gB) (af (must xB) (.good σ.words.tail))∧au iB σ l:=by
 unfold iB;constructor
 ·rw[az (aI jN σ),h,aB h];simp only[if_true];rw[az (bM _ _)]
 ·refine aj (aI jN σ) ?_;rw[h,aB h];exact aj (bM _ _) hl
theorem ED (h:σ.head lZ=false):af jA σ=σ∧au jA σ []:=by
 unfold jA;constructor
 ·rw[az (aI lZ σ),h,aw h];exact bz _ _
 ·refine aj (aI lZ σ) ?_;rw[h,aw h];exact aW _ _
theorem Hb {k:Int}(h:σ.head lZ=true)(hk:au gQ (.good σ.words.tail) k):af jA σ=af gQ (.good σ.words.tail)∧au jA σ [k]:=by
 unfold jA;constructor
 ·rw[az (aI lZ σ),h,aB h];simp only[if_true];rw[az hk];exact bz _ _
 ·refine aj (aI lZ σ) ?_;rw[h,aB h];exact aj hk (aW _ _)
structure Qd {α:Type} (σ:aH) (k:Ps Qu) (bB:aH):Prop where
 step:af lD σ=af k bB
 gives:∀z,au k bB z→au lD σ z
theorem Qd.go {α:Type} {σ bB:aH} {p:Ps α} {f:α→Ps Qu} {x:α}(q:Qd (α:=Unit) σ (p >>= f) bB)(h:au p bB x):Qd (α:=Unit) σ (f x) (af p bB):=
 ⟨by rw[q.step];exact az h,fun z hz=>q.gives z (aj h hz)⟩
theorem Qd.start (σ:aH):Qd (α:=Unit) σ lD σ:=⟨rfl,fun _ h=>h⟩
theorem Qd.done {σ bB:aH} {x:Qu}(q:Qd (α:=Unit) σ (pure x) bB):af lD σ=bB∧au lD σ x:=
 ⟨by rw[q.step];exact bz _ _,q.gives x (aW _ _)⟩
end
structure RU {α:Type} (P:Ps α) (σ:aH) (k:Ps α) (bB:aH):Prop where
 step:af P σ=af k bB
 gives:∀z,au k bB z→au P σ z
section
variable {α β:Type} {P k:Ps α} {σ bB:aH} {p:Ps β} {f:β→Ps α} {x:β} {z:α}
theorem RU.go (q:RU P σ (p >>= f) bB)(h:au p bB x):RU P σ (f x) (af p bB):=
 ⟨by rw[q.step];exact az h,fun z hz=>q.gives z (aj h hz)⟩
theorem RU.done (q:RU P σ (pure z) bB):af P σ=bB∧au P σ z:=
 ⟨by rw[q.step];exact bz _ _,q.gives z (aW _ _)⟩
end
section
variable {α β γ:Type}
theorem fA (p:Ps α)(g:α→Ps β)(f:β→Ps γ):((p >>= g)>>= f)=(p >>= fun x=>g x >>= f):=by funext l;rw[ep,ep,ep];cases p l <;> rfl
end
theorem Lq (s t:List UInt8)(k:Unit→Ps St):(must s >>= fun _=>must t >>= k)=(mj [s,t] >>= k):=by unfold mj;rw[fA];congr 1;funext _;unfold mj;rw[fA];congr 1
def R2 (name:ByteArray)(cols:List (ByteArray×Int))(time:ByteArray)(every:Int)(sp:ByteArray×Int):Ps St:=pure { kind:=1,name,cols,time,every,space:=sp.1,parts:=sp.2 }
def R3 (name:ByteArray)(cols:List (ByteArray×Int))(time:ByteArray)(every:Int)(b:Bool):Ps St:=
 if b then(do
  let s ← bL
  must Gh
  let n ← gQ
  R2 name cols time every (s,n))else R2 name cols time every (ByteArray.empty,0)
def R4 (name:ByteArray)(cols:List (ByteArray×Int))(time:ByteArray)(every:Int):Ps St:=do
 let b ← may IC
 R3 name cols time every b
theorem VX (name:ByteArray)(cols:List (ByteArray×Int))(time:ByteArray)(every:Int):(Gk >>= R2 name cols time every)=R4 name cols time every:=by
 unfold Gk R4 R3;rw[fA];congr 1;funext b;cases b
 ·rfl
 ·simp only[if_true];rw[fA];congr 1;funext s;rw[fA];congr 1;funext _;rw[fA];rfl
def tbB (name:ByteArray)(cols:List (ByteArray×Int)):Ps St:=do
 mj [aP,Nz]
 let time ← bL
 must vO
 let every ← gQ
 R4 name cols time every
def tbA (name:ByteArray):Ps St:=do
 must cp
 let cols ← ic vP
 tbB name cols
theorem OT:Bu=(bL >>= tbA):=by unfold Bu tbA tbB;congr 1;funext name;congr 1;funext _;congr 1;funext cols;rw[← Lq];congr 1;funext _;congr 1;funext _;congr 1;funext time;congr 1;funext _;congr 1;funext every;exact VX name cols time every
def VY (name:ByteArray)(what:Int)(Fg:ByteArray)(a b:Int):Ps St:=do
 must vO
 let every ← gQ
 return { kind:=3,name,what,Fg,a,b,every }
def VZ (name:ByteArray)(s:List UInt8):Ps St:=
 if s=iQ then(do
  let Fg ← bL
  must nK
  let a ← gQ
  must YW
  let b ← gQ
  VY name 9 Fg a b)else(do
  let Fg ← bL
  must ID
  let a ← gQ
  VY name (if s=jz then 10 else 12) Fg a 0)
theorem Wa:Rj=(bL >>= fun name=>sU [iQ,jz,xD] >>= fun s=>VZ name s):=by
 unfold Rj;congr 1;funext name;congr 1;funext s;unfold VZ Tn;by_cases h:s=iQ
 ·simp only[h,if_true];congr 1;funext Fg;rw[fA];congr 1;funext _;rw[fA];congr 1;funext a;rw[fA];congr 1;funext _;rw[fA];rfl
 ·simp only[h,if_false];congr 1;funext Fg;rw[fA];congr 1;funext _;rw[fA];rfl
def EQ {α:Type}(n:Nat)(p:Ps α)(Q:α→Prop):Prop:=∀l x r,l.length≤n→p l=.ok (x,r)→r.length≤n∧Q x
section
variable {α β:Type} {n:Nat} {p:Ps α} {Q Q':α→Prop} {R:β→Prop}
theorem aC {f:α→Ps β}(h:EQ n p Q)(k:∀x,Q x→EQ n (f x) R):EQ n (p >>= f) R:=by intro l y r hl e;obtain⟨x,m,h1,h2⟩:=ck e;obtain⟨a,b⟩:=h _ _ _ hl h1;exact k x b _ _ _ a h2
theorem dy {x:α}(h:Q x):EQ n (pure x:Ps α) Q:=by intro l y r hl e;obtain⟨rfl,rfl⟩:=eZ e;exact⟨hl,h⟩
theorem aM (h:cg p):EQ n p fun _=>True:=fun l x r hl e=>⟨Nat.le_trans (h.len e) hl,trivial⟩
theorem nU {c:Prop} [Decidable c] {q:Ps α}(h:EQ n p Q)(k:EQ n q Q):EQ n (if c then p else q) Q:=by
 split
 ·exact h
 ·exact k
theorem EE (h:EQ n p Q):∀(f:Nat) (acc:List α),(∀x∈acc,Q x)→EQ n (lC p f acc) fun l=>∀x∈l,Q x
 | 0,acc,ha=>dy ha
 | f+1,acc,ha=>by
   intro l y r hl e;simp only[lC] at e;split at e
   ·refine aC (R:=fun l=>∀x∈l,Q x) h (fun z hz=>EE h f (acc++ [z]) fun x hx=>?_) _ _ _ ?_ e
    ·rcases List.mem_append.1 hx with hx | hx
     ·exact ha x hx
     ·simp at hx;subst hx;exact hz
    ·simp;omega
   ·injection e with e;injection e with e1 e2;subst e1;subst e2;exact⟨hl,ha⟩
theorem pX (h:EQ n p Q):EQ n (ic p) fun l=>∀x∈l,Q x:=by
 refine aC h fun z hz=>?_
 intro l y r hl e;exact EE h l.length [z] (fun x hx=>by simp at hx;subst hx;exact hz) l y r hl e
end
def OU (n:Nat)(t:Tr):Prop:=t.thin∧t.depth≤n
section
variable {n:Nat}
theorem pY:EQ n dL (OU n):=fun l t r hl e=>by obtain⟨h1,h2⟩:=RT l t r e;exact⟨by omega,h1,by omega⟩
theorem pZ (s:List UInt8):EQ n (dI s) fun l=>(∀t∈l,OU n t)∧l.length≤1:=
 aC (aM (cP _)) fun b _=>nU (aC pY fun x hx=>dy ⟨fun t ht=>by simp at ht;subst ht;exact hx,Nat.le_refl _⟩) (dy ⟨fun t ht=>by simp at ht,Nat.zero_le _⟩)
theorem RX:EQ n ie fun x=>OU n x.1:=
 aC pY fun x hx=>aC (aM (cP _)) fun b _=>nU (aC (aM bS) fun _ _=>dy hx) (dy hx)
theorem OV:EQ n gB fun x=>OU n x.1:=
 aC pY fun x hx=>aC (aM (cP _)) fun b _=>dy hx
theorem OW:EQ n mz fun l=>∀x∈l,OU n x.1:=
 aC (aM (cP _)) fun b _=>nU (dy fun t ht=>by simp at ht) (pX RX)
theorem OX:EQ n kr fun l=>∀x∈l,OU n x:=
 aC (aM (cP _)) fun b _=>nU (aC (aM (aN _)) fun _ _=>pX pY) (dy fun t ht=>by simp at ht)
theorem Lr:EQ n iB fun l=>∀x∈l,OU n x.1:=
 aC (aM (cP _)) fun b _=>nU (aC (aM (aN _)) fun _ _=>pX OV) (dy fun t ht=>by simp at ht)
theorem EF:EQ n lD fun q=>(∀t∈q.exprs,OU n t)∧q.cf.length≤1∧q.having.length≤1:=
 aC (aM (aN _)) fun _ _=>aC OW fun i hi=>aC (aM (aN _)) fun _ _=>aC (aM (cP _)) fun _ _=>aC (aM bS) fun _ _=>aC (pZ _) fun w hw=>aC OX fun g hg=>aC (pZ _) fun h hh=>aC Lr fun o ho=>aC (aM po) fun _ _=>dy (by
  refine⟨?_,hw.2,hh.2⟩
  intro t ht
  simp only[Qu.exprs,List.mem_append,List.mem_map] at ht
  rcases ht with (((⟨x,hx,rfl⟩| ht)| ht)| ht)|⟨x,hx,rfl⟩
  ·exact hi x hx
  ·exact hw.1 t ht
  ·exact hg t ht
  ·exact hh.1 t ht
  ·exact ho x hx)
theorem Wb:EQ n Ze fun x=>OU n x.2:=
 aC (aM bS) fun _ _=>aC (aM (aN _)) fun _ _=>aC pY fun x hx=>dy hx
theorem Wc:EQ n Zd fun l=>∀x∈l,OU n x:=
 aC (aM (aN _)) fun _ _=>aC (pX pY) fun l hl=>aC (aM (aN _)) fun _ _=>dy hl
abbrev rL (n:Nat)(s:St):Prop:=(∀t∈s.exprs,OU n t)∧s.cf.length≤1∧s.query.cf.length≤1∧s.query.having.length≤1
theorem tC {s:St}(h:s.exprs=[]):rL n s:=by refine⟨by rw[h];intro t ht;simp at ht,?_⟩;have:=congrArg List.length h;simp only[St.exprs,Qu.exprs,List.length_append,List.length_nil] at this;omega
theorem OY:EQ n Bu (rL n):=by
 rw[OT];refine aC (aM bS) fun _ _=>aC (aM (aN _)) fun _ _=>aC (aM (jB sW)) fun _ _=>aC (aM (xX _)) fun _ _=>aC (aM bS) fun _ _=>aC (aM (aN _)) fun _ _=>aC (aM dM) fun _ _=>aC (aM (cP _)) fun b _=>?_
 unfold R3;exact nU (aC (aM bS) fun _ _=>aC (aM (aN _)) fun _ _=>aC (aM dM) fun _ _=>dy (tC rfl)) (dy (tC rfl))
theorem RY:EQ n Tm (rL n):=
 aC (aM bS) fun _ _=>aC (aM (aN _)) fun _ _=>aC EF fun q hq=>dy (by
  refine⟨fun t ht=>?_,Nat.zero_le _,hq.2⟩
  simp only[St.exprs,List.flatten_nil,List.map_nil,List.nil_append] at ht
  exact hq.1 t ht)
theorem We:EQ n Rj (rL n):=by
 rw[Wa];refine aC (aM bS) fun _ _=>aC (aM (gF _)) fun s _=>?_
 have he:∀a b c d e,EQ n (VY a b c d e) (rL n):=fun _ _ _ _ _=>aC (aM (aN _)) fun _ _=>aC (aM dM) fun _ _=>dy (tC rfl)
 unfold VZ;exact nU (aC (aM bS) fun _ _=>aC (aM (aN _)) fun _ _=>aC (aM dM) fun _ _=>aC (aM (aN _)) fun _ _=>aC (aM dM) fun _ _=>he _ _ _ _ _)
  (aC (aM bS) fun _ _=>aC (aM (aN _)) fun _ _=>aC (aM dM) fun _ _=>he _ _ _ _ _)
theorem Ls:EQ n Bv (rL n):=aC (aM (gF _)) fun _ _=>nU OY (nU RY We)
theorem RZ:EQ n Tp (rL n):=aC (aM (gF _)) fun _ _=>aC (aM bS) fun _ _=>dy (tC rfl)
theorem Lt:EQ n II (rL n):=
 aC (aM (aN _)) fun _ _=>aC (aM bS) fun _ _=>aC (aM (aN _)) fun _ _=>aC (pX Wc) fun l hl=>dy (by
  refine⟨fun t ht=>?_,Nat.zero_le _,Nat.zero_le _,Nat.zero_le _⟩
  simp only[St.exprs,Qu.exprs,List.map_nil,List.append_nil,List.mem_flatten] at ht
  obtain⟨r,hr,ht⟩:=ht
  exact hl r hr t ht)
theorem Lu:EQ n IJ (rL n):=
 aC (aM bS) fun _ _=>aC (aM (aN _)) fun _ _=>aC (pX Wb) fun l hl=>aC (pZ _) fun w hw=>dy (by
  refine⟨fun t ht=>?_,hw.2,Nat.zero_le _,Nat.zero_le _⟩
  simp only[St.exprs,Qu.exprs,List.map_nil,List.append_nil,List.flatten_nil,List.nil_append,List.mem_append,List.mem_map] at ht
  rcases ht with ⟨x,hx,rfl⟩| ht
  ·exact hl x hx
  ·exact hw.1 t ht)
theorem Lv:EQ n IK (rL n):=
 aC (aM (aN _)) fun _ _=>aC (aM bS) fun _ _=>aC (pZ _) fun w hw=>dy (by
  refine⟨fun t ht=>?_,hw.2,Nat.zero_le _,Nat.zero_le _⟩
  simp only[St.exprs,Qu.exprs,List.map_nil,List.append_nil,List.flatten_nil,List.nil_append] at ht
  exact hw.1 t ht)
theorem Lx:EQ n Bw (rL n):=
 aC EF fun q hq=>dy (by
  refine⟨fun t ht=>?_,Nat.zero_le _,hq.2⟩
  simp only[St.exprs,List.flatten_nil,List.map_nil,List.nil_append] at ht
  exact hq.1 t ht)
theorem Sa:EQ n Tq (rL n):=
 aC (aM (gF _)) fun _ _=>aC (aM (aN _)) fun _ _=>aC (aM bS) fun _ _=>aC (aM (aN _)) fun _ _=>aC (aM (BG _)) fun _ _=>aC (aM Ag) fun _ _=>aC (aM (aN _)) fun _ _=>dy (tC rfl)
theorem Cb:EQ n cM (rL n):=by
 intro l x r hl e
 match l with
 | []=>cases e
 | t::q=>
   simp only[cM] at e;have hq:q.length≤n:=by simp at hl;omega
   split at e
   ·cases e
   split at e
   ·exact Lx _ _ _ hl e
   split at e
   ·exact Ls _ _ _ hq e
   split at e
   ·exact RZ _ _ _ hq e
   split at e
   ·exact Lt _ _ _ hq e
   split at e
   ·exact Lu _ _ _ hq e
   split at e
   ·exact Lv _ _ _ hq e
   split at e
   ·exact Sa _ _ _ hq e
   ·cases e
end
def Sb (t:Wd):Prop:=(0≤t.n∧t.n≤9223372036854775807)∧(t.k=4→t.s∈signs)
theorem Sc {r rest:List UInt8} {w:Wd}(h:iw r=.ok (w,rest)):Sb w:=by
 match r with
 | []=>cases h
 | c::r=>
   simp only[iw] at h;split at h
   ·split at h
    ·injection h with h;injection h with h1 h2;subst h1;exact⟨⟨by simp,by simp⟩,fun e=>by simp at e⟩
    ·cases h
   split at h
   ·split at h
    ·rename_i hb;injection h with h;injection h with h1 h2;subst h1;refine⟨?_,fun e=>by simp at e⟩;simp only[Bool.and_eq_true,sS,decide_eq_true_eq] at hb;have:=hb.1.2;simp only;omega
    ·cases h
   split at h
   ·split at h
    ·injection h with h;injection h with h1 h2;subst h1;exact⟨⟨by simp,by simp⟩,fun e=>by simp at e⟩
    ·cases h
   ·split at h
    ·rename_i s hs;injection h with h;injection h with h1 h2;subst h1;exact⟨⟨by simp,by simp⟩,fun _=>(pd hs).1⟩
    ·cases h
theorem EG (n:Nat):∀(f:Nat) (r:List UInt8) (l:List Tok),tY n f r=.ok l→(∃b,l=b++ [⟨⟨0,[],0⟩,n⟩])∧l.length≤r.length+1∧∀t∈l,Sb t.w
 | 0,r,l,h=>by cases h
 | f+1,r,l,h=>by
   have hle:=jZ false r;simp only[tY] at h;split at h
   ·injection h with h;subst h;exact⟨⟨[],rfl⟩,by simp,fun t ht=>by simp at ht;subst ht;exact⟨⟨by simp,by simp⟩,fun e=>by simp at e⟩⟩
   ·rename_i c r' hsk;rw[hsk] at hle;split at h
    ·cases h
    ·rename_i w rest ho;have hlt:=vM ho;split at h
     ·cases h
     ·rename_i l' hl';injection h with h;subst h;obtain⟨⟨b,hb⟩,h1,h2⟩:=EG n f rest l' hl';refine⟨⟨⟨w,_⟩::b,by rw[hb];rfl⟩,by simp only[List.length_cons] at hlt hle ⊢;omega,fun t ht=>?_⟩;rcases List.mem_cons.1 ht with rfl | ht
      ·exact Sc ho
      ·exact h2 t ht
theorem Cc {s:List UInt8} {l:List Tok}(h:ru s=.ok l):(∃b n,l=b++ [⟨⟨0,[],0⟩,n⟩])∧l.length≤4097∧∀t∈l,Sb t.w:=by
 unfold ru at h;split at h
 ·cases h
 ·rename_i hs;obtain⟨⟨b,hb⟩,h1,h2⟩:=EG _ _ _ _ h;exact⟨⟨b,_,hb⟩,by omega,h2⟩
theorem Lz {s:List UInt8} {l:List Tok}(h:ru s=.ok l):gC (l.map (·.w)):=by obtain⟨⟨b,n,rfl⟩,_⟩:=Cc h;exact⟨b.map (·.w),⟨0,[],0⟩,by simp,rfl⟩
theorem LA {s:List UInt8} {l:List Tok}(h:ru s=.ok l):∃t r,l=t::r:=by
 obtain⟨⟨b,n,rfl⟩,_⟩:=Cc h;cases b with
 | nil=>exact⟨_,_,rfl⟩
 | cons t b=>exact⟨_,_,rfl⟩
theorem Wf (s:List UInt8)(l:fN):∃b r,may s l=.ok (b,r):=by
 unfold may;split
 ·exact⟨_,_,rfl⟩
 ·exact⟨_,_,rfl⟩
theorem OZ {l:fN} {d:St}(h:au cM (.good l) d):af rA (.good l)=af DA (af (may ry) (af cM (.good l)))∧au rA (.good l) d:=by
 simp only[af,au,rA,ep] at h ⊢;cases e:cM l with
 | error n=>exact⟨rfl,trivial⟩
 | ok y=>
   obtain⟨y,r⟩:=y;rw[e] at h;simp only at h ⊢;subst h;obtain⟨b,r1,hm⟩:=Wf ry r;rw[hm];simp only;cases e2:DA r1 with
   | error n=>exact⟨rfl,trivial⟩
   | ok z=>exact⟨rfl,rfl⟩
theorem Hc {α:Type} {p:Ps α} {l r:fN} {x:α}(h:af p (.good l)=.good r)(k:au p (.good l) x):p l=.ok (x,r):=by
 simp only[af,au] at h k;cases e:p l with
 | error m=>rw[e] at h;cases h
 | ok y=>rw[e] at h k;injection h with h;simp only at k;rw[k,← h]
theorem LB (t:Wd)(r:fN):af DA (.good (t::r))=if t.k=0 then .good (t::r)else .bad (t::r).length:=by
 simp only[af,DA];split
 ·rename_i h;split at h
  ·rename_i hk;injection h with h;injection h with h1 h2;rw[if_pos hk,h2]
  ·cases h
 ·rename_i h;split at h
  ·cases h
  ·rename_i hk;injection h with h;rw[if_neg hk,h]
theorem Pa {n:Nat} {l r:fN} {d:St}(hn:l.length≤n)(h:rA l=.ok (d,r)):rL n d:=by obtain⟨x,m,h1,h2⟩:=ck h;obtain⟨b,m2,_,h3⟩:=ck h2;obtain⟨u,m3,_,h4⟩:=ck h3;obtain⟨rfl,_⟩:=eZ h4;exact(Cb _ _ _ hn h1).2
theorem EH {α:Type}:∀ {rows:List (List α)} {k:Nat},(∀r∈rows,r.length≤k)→rows.flatten.length≤rows.length*k
 | [],k,h=>by simp
 | r::rows,k,h=>by
   have h1:=h r (by simp);have h2:=EH (rows:=rows) fun x hx=>h x (by simp[hx])
   simp only[List.flatten_cons,List.length_append,List.length_cons,Nat.add_mul,Nat.one_mul];omega
theorem LC {n:Nat} {d:St}(h:rL n d)(hl:d.long=false):d.exprs.length≤100000∧d.rows.length≤64:=by
 obtain⟨_,h1,h2,h3⟩:=h;simp only[St.long,Qu.long,Bool.or_eq_false_iff,decide_eq_false_iff_not,Nat.not_lt] at hl;obtain⟨⟨⟨⟨a,b⟩,c⟩,e⟩,⟨f,g⟩,i⟩:=hl;have hf:=EH (rows:=d.rows) (k:=64) fun r hr=>by have:=List.any_eq_false.1 c r hr;simpa using this
 have:=Nat.mul_le_mul_right 64 b;simp only[St.exprs,Qu.exprs,List.length_append,List.length_map];omega
theorem Hd {s:List UInt8} {l:List Tok} {r:fN} {d:St}(h:ru s=.ok l)(hw:rA (l.map (·.w))=.ok (d,r)):nM s=if d.long then .error (0,2)else if DB d.exprs then .error (0,32)else .ok d:=by unfold nM;rw[h];simp only;rw[hw]
theorem LD {l:List Tr} {i:Nat} {t:Tr}(h:l[i]?=some t)(hi:∀x∈l.take i,x.depth≤32)(ht:t.depth≤32):∀x∈l.take (i+1),x.depth≤32:=by
 rw[List.take_add_one,h];intro x hx;rcases List.mem_append.1 hx with hx | hx
 ·exact hi x hx
 ·simp at hx;subst hx;exact ht
theorem Pb {l:List Tr} {t:Tr}(h:t∈l)(ht:32 < t.depth):DB l=true:=List.any_eq_true.2 ⟨t,h,by simpa using ht⟩
theorem Sd {l:List Tr}(h:∀x∈l,x.depth≤32):DB l=false:=by unfold DB;rw[List.any_eq_false];intro x hx;have:=h x hx;simp;omega
end Go.Proofs.YtfmbcoeallmnnaaGreatDoor.R
