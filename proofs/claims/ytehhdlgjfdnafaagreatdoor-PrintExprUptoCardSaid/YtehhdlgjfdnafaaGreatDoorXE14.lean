/- Parts of the proof. -/
import Derived.Lib.BufferKept
import Derived.Lib.ItoaLen
import Derived.Test.YtehhdlgjfdnafaaGreatDoorXE11
namespace Go.Proofs.YtehhdlgjfdnafaaGreatDoor
variable{p:Prop}
set_option maxHeartbeats 90000000
set_option maxRecDepth 100000
open Go.Lib (hid)
open Go.ChangeShapes Go.WideShapes Go.ChangeAt Go.RowKit Go.Shelf List
set_option linter.unusedVariables false
set_option linter.unusedSimpArgs false
abbrev aT:=List UInt8
theorem GF:liesAt Tryz.prog Tryz.prog.depth 63 (3 / Tryz.prog.cellsOf 63) 0 61 1=true:=by kernel_rfl
def qV (B b:Nat)(p:Value)(bad:Bool)(l:aT)(w:World):Prop:=
 B<=b/\∃v,w.heap[b]?=some (.cells #[p,v,.bool bad] 63 (0,0))/\w.ownsRow B 5 1 v l.length (Lib.byteCells l)/\v.ownBlock≠some b/\(l=[]->v=.slice none 0 0)
def yw (B b:Nat)(bad:Bool)(l:aT)(w:World):Prop:=qV B b (.pointer none) bad l w\/qV B b (.pointer (some ⟨b,0,none⟩)) bad l w
variable{w:World}{b:Nat}{o:Obj}
theorem qg(h:w.heap[b]?=some o):b < w.heap.size:=by
 rcases Nat.lt_or_ge b w.heap.size with h' | h'
 ·exact h'
 ·rw[Array.getElem?_eq_none h'] at h;cases h
variable{k:Nat}
theorem Ev(w:World)(p:Addr)(n:Nat) (h:k≠p.block):(w.freeze p n).heap[k]?=w.heap[k]?:=by
 unfold World.freeze;split
 ·rfl
 ·simp only[Array.getElem?_modify];rw[if_neg (λ e=>h e.symm)]
theorem zfv.KbA(h:p:=by rw[Lib.run_from_unsafe w ⟨b,0,none⟩ Tryz.underlying184 Tryz.underlying58 hj NS GF];exact ZfO):p:=h
theorem Ew (b:Nat)(w:World)(h0:w.cell? ⟨b,0,none⟩=some (.pointer none))(NS:w.shape? b=some (63,3))(hfz:w.frozen? ⟨b,0,none⟩=false):
  Calls Tryz.prog 138 #[.pointer (some ⟨b,0,none⟩)] w λ e w'=>e=.returned (.tuple #[])/\w'=w.setCell ⟨b,0,none⟩ (.pointer (some ⟨b,0,none⟩)):=by obtain⟨j,hj,Rv⟩:=Option.map_eq_some_iff.1 pZ;go_enter Tryz.func138,Tryz.ntmps138;go_wp2_with fail;rw[Lib.run_to_unsafe w ⟨b,0,none⟩ Tryz.underlying58 Tryz.underlying184 hj (by rw[Rv];decide) NS (Nat.zero_lt_succ 2)];open zfv in exact Zde
variable{B:Nat}{bad:Bool}{l:aT}
theorem qV.cell0{p:Value}   (h:qV B b p bad l w):w.cell? ⟨b,0,none⟩=some p:=by obtain⟨_,v,hb,_⟩:=h;rw[Lib.cell_of_heap hb];rfl
variable{q:Value}
theorem qV.used{p:Value}   (h:qV B b p bad l w):qV B b q bad l (w.setCell ⟨b,0,none⟩ q):=by obtain⟨hB,v,hb,ho,hn,hz⟩:=h;have hlt:=qg hb;exact ZcI
theorem JW (B b:Nat)(bad:Bool)(l:aT)(w:World)(h:yw B b bad l w):
  Calls Tryz.prog 138 #[.pointer (some ⟨b,0,none⟩)] w λ e w'=>e=.returned (.tuple #[])/\qV B b (.pointer (some ⟨b,0,none⟩)) bad l w'/\Below B w w'/\Lib.OthersKept 5 (some b) w w':=by
 rcases h with h | h
 ·have hk:=h;obtain⟨hB,v,hb,ho,hn,hz⟩:=hk;refine(Ew b w h.cell0 (by simp[World.shape?,hb]) (Lib.frozen_of_heap hb 0)).mono ?_;rintro e w' ⟨rfl,rfl⟩;exact⟨rfl,h.used,(Below.refl B w).setCell (p:=⟨b,0,none⟩) h.1 _,(Lib.OthersKept.refl _ _ _).setCell ⟨b,0,none⟩ rfl _⟩
 ·refine(zJ b w h.cell0).mono ?_;rintro e w' ⟨rfl,rfl⟩;exact⟨rfl,h,Below.refl B _,Lib.OthersKept.refl _ _ _⟩
theorem zgn.KbW(h:p:=by
 have L8:v'.ownBlock≠some b:=Lib.ownBlock_ne hown' hb2 Tac;have hz':l++s.data.toList=[]->v'=.slice none 0 0:=λ h0=>by obtain⟨h1,h2⟩:=List.append_eq_nil_iff.1 h0;exact hnil.2 ⟨hz h1,by have:=congrArg List.length h2;simpa using this⟩
 obtain⟨ao,n',cap,rfl⟩:∃ao n' cap,v'=.slice ao n' cap:=by
  rcases hown'.2 with ⟨hv,_⟩|⟨g,cap,cur,hv,_⟩
  ·exact⟨_,_,_,hv⟩
  ·exact⟨_,_,_,hv⟩
 go_wp2_with fail;go_ret2;refine⟨rfl,⟨hB,.slice ao n' cap,?_,?_,L8,hz'⟩,?_,(yu.grown hgrow (Lib.ownsRowF_kind (World.ownsRowF_of hown))).setCell ⟨b,1,none⟩ rfl _⟩
 ·simp[World.setCell,Array.getElem?_modify,hb2]
 ·have hc:Lib.byteCells (l++s.data.toList)=Lib.byteCells l++Lib.strCells s:=by simp[Lib.byteCells,Lib.strCells]
  rw[hc,length_append];have e:s.data.toList.length=s.size:=by simp
  rw[e];exact hown'.kept (row:=some b) ⟨rfl,rfl,rfl,by simp[World.setCell],λ k _ hk=>Below.heap_setCell _ _ _ _ (λ e=>hk (by simp[e]))⟩ (Or.inr L8)
 ·exact(hb1.grown hgrow (by have:=hb1.size;omega) (λ k hk=>(hown.lt k hk).1)).setCell (p:=⟨b,1,none⟩) hB _):p:=h
theorem zhL.Kcz(h:p:=by
 go_wp2_with (at_builtin;refine Lib.wpList_append_own_string _ rfl _ _ 59 9 rfl B 5 i0 Tryz.underlying59 Tryz.underlying9 hi hz0 hz1 hz2 _ _ _ rfl hown s rfl ?c3 ?c4 ?c5 ?_);case c3=>unfold maxLen;omega
 case c4=>omega
 case c5=>have:=hb1.size;omega
 intro v' w2 hown' hgrow hnil;have hlt:=qg ub;have hb2:w2.heap[b]?=some (.cells #[.pointer (some ⟨b,0,none⟩),v,.bool bad] 63 (0,0)):=by rw[hgrow.block b hlt (λ e=>hne e.symm)];exact ub
 open zgn in exact Zee):p:=h
theorem GG (B b:Nat)(bad:Bool)(l:aT)(s:ByteArray)(w:World)(h:yw B b bad l w)(hlen:l.length+s.size<=140737488355328)(yt:B<=w.heap.size):
  Calls Tryz.prog 83 #[.pointer (some ⟨b,0,none⟩),.string s] w λ e w'=>e=.returned (.tuple #[.int .i64 s.size,.nilIface])/\qV B b (.pointer (some ⟨b,0,none⟩)) bad (l++s.data.toList) w'/\Below B w w'/\Lib.OthersKept 5 (some b) w w':=by obtain⟨i0,hi,hz0,hz1,hz2⟩:=info_parts CQ;go_enter Tryz.func83,Tryz.ntmps83;go_wp2_with fail;refine(JW B b bad l _ h).mono ?_;rintro e w1 ⟨rfl,h1,hb1,yu⟩;obtain⟨hB,v,ub,hown,hne,hz⟩:=h1;open zhL in exact Zgq
theorem JX (B b:Nat)(p:Value)(bad:Bool)(l:aT)(w:World)(h:qV B b p bad l w)(h0:l≠ []):
  Calls Tryz.prog 49 #[.pointer (some ⟨b,0,none⟩)] w λ e w'=>e=.returned (.string ⟨l.toArray⟩)/\Below B w w'/\w'.heap[b]?=w.heap[b]?:=by
 obtain⟨hB,v,ub,hown,hne,hz⟩:=h;have hl0:l.length≠0:=by simpa using h0
 obtain⟨g,cap,cur,rfl,hbg,hg,hnc,hcm,hcs,akQ⟩:∃g cap cur,v=.slice (some ⟨g,0,none⟩) l.length cap/\B<=g/\w.heap[g]?=some (.cells cur 5 (0,0))/\l.length<=cap/\cap<=maxLen/\cur.size=cap*1/\cur.toList.take (l.length*1)=Lib.byteCells l:=by
  rcases hown.2 with ⟨_,hz⟩|⟨g,cap,cur,hv,r⟩
  ·exact absurd hz hl0
  ·exact⟨g,cap,cur,hv,r⟩
 have hgb:b≠g:=λ e=>hne (by simp[Value.ownBlock,e])
 have c1:w.drew.cell? ⟨b,1,none⟩=some (.slice (some ⟨g,0,none⟩) l.length cap):=by have:w.drew.heap[b]?=some (.cells #[p,.slice (some ⟨g,0,none⟩) l.length cap,.bool bad] 63 (0,0)):=ub;rw[Lib.cell_of_heap this];rfl
 have hSD:(Builtin.unsafeSliceData_ #[59] 139 #[.slice (some ⟨g,0,none⟩) l.length cap]).run Tryz.prog w.drew=.ok (.pointer (some ⟨g,0,none⟩)) w.drew:=
  Lib.run_unsafeSliceData_row _ _ _ _ _ _ Taa
 have hUS:(Builtin.unsafeString_ #[139,3] 9 #[.pointer (some ⟨g,0,none⟩),.int .i64 l.length]).run Tryz.prog w.drew=.ok (.string ⟨l.toArray⟩) (w.drew.freeze ⟨g,0,none⟩ l.length):=by refine Lib.run_unsafeString_row w.drew 139 3 9 5 Tryz.underlying139 Tab g cur.size (by have NI:w.drew.heap[g]?=some (.cells cur 5 (0,0)):=hg;simp[World.shape?,NI]) l h0 Taa (by unfold maxLen at hcm;omega) ?_;intro j x hx;have:=hown.cells (g:=g) rfl j (.int .u8 x.toNat) (by simp[Lib.byteCells,hx]);exact this
 have mixed:Tryz.prog.follows .mixedOrders=true:=by kernel_rfl
 go_enter Tryz.func49,Tryz.ntmps49;go_wp2_with fail;go_region_o;all_goals (go_wp2_with fail;go_ret;exact⟨rfl,Lib.below_freeze (Below.drew (Below.refl B w)) (p:=⟨g,0,none⟩) hbg _,Ev _ _ _ hgb⟩)
theorem JY (B b:Nat)(p:Value)(bad:Bool)(w:World)(h:qV B b p bad [] w):
  Calls Tryz.prog 49 #[.pointer (some ⟨b,0,none⟩)] w λ e w'=>e=.returned (.string ⟨#[]⟩)/\Below B w w'/\w'.heap[b]?=w.heap[b]?:=by
 obtain⟨hB,v,ub,hown,hne,hz⟩:=h;obtain rfl:=hz rfl;have hUS:∀(W:World) (q:Option Addr),(Builtin.unsafeString_ #[139,3] 9 #[.pointer q,.int .i64 0]).run Tryz.prog W=.ok (.string .empty) W:=λ W q=>Lib.run_unsafeString_none W _ _ _ q
 have c1:w.drew.cell? ⟨b,1,none⟩=some (.slice none 0 0):=by have:w.drew.heap[b]?=some (.cells #[p,.slice none 0 0,.bool bad] 63 (0,0)):=ub;rw[Lib.cell_of_heap this];rfl
 have hSD:(Builtin.unsafeSliceData_ #[59] 139 #[.slice none 0 0]).run Tryz.prog w.drew=.ok (.pointer none) w.drew:=rfl;have mixed:Tryz.prog.follows .mixedOrders=true:=by kernel_rfl
 go_enter Tryz.func49,Tryz.ntmps49;go_wp2_with fail;go_region_o;all_goals (go_wp2_with fail;go_ret;exact⟨rfl,Below.drew (Below.refl B w),rfl⟩)
theorem Oe (B b:Nat)(bad:Bool)(l:aT)(w:World)(h:yw B b bad l w):
  Calls Tryz.prog 49 #[.pointer (some ⟨b,0,none⟩)] w λ e w'=>e=.returned (.string ⟨l.toArray⟩)/\Below B w w'/\w'.heap[b]?=w.heap[b]?:=by
 obtain⟨p,h⟩:∃p,qV B b p bad l w:=by
  rcases h with h | h
  ·exact⟨_,h⟩
  ·exact⟨_,h⟩
 cases l with
 | nil=>exact JY B b p bad w h
 | cons x r=>exact JX B b p bad (x::r) w h Tae
variable{w':World}{n:Nat}{e:TypeId}{v:Value}{xs:List Value}
theorem Og{size:Nat}  (h:w.ownsRow B e size v n xs)(hb:Below w.heap.size w w'):w'.ownsRow B e size v n xs:=
 h.kept (row:=none) ⟨hb.os,hb.tape,hb.output,hb.size,λ k hk _=>hb.block k hk⟩ (by cases v.ownBlock <;> simp)
theorem qV.later{p:Value}   (h:qV B b p bad l w)(hb:Below w.heap.size w w'):qV B b p bad l w':=by obtain⟨hB,v,h1,h2,h3,h4⟩:=h;exact⟨hB,v,(hb.block b (qg h1)).trans h1,Og h2 hb,h3,h4⟩
theorem yw.later(h:yw B b bad l w)(hb:Below w.heap.size w w'):yw B b bad l w':=h.imp (·.later hb) (·.later hb)
theorem yw.cells(h:yw B b bad l w):∃p v,w.heap[b]?=some (.cells #[p,v,.bool bad] 63 (0,0)):=by
 rcases h with ⟨_,v,h,_⟩|⟨_,v,h,_⟩
 ·exact⟨_,v,h⟩
 ·exact⟨_,v,h⟩
theorem qV.set{p:Value}   (h:qV B b p bad l w)(JZ:Bool):qV B b p JZ l (w.setCell ⟨b,2,none⟩ (.bool JZ)):=by obtain⟨hB,v,hb,ho,hn,hz⟩:=h;exact ZcI
theorem yw.set(h:yw B b bad l w)(JZ:Bool):yw B b JZ l (w.setCell ⟨b,2,none⟩ (.bool JZ)):=h.imp (·.set JZ) (·.set JZ)
structure ck (B b:Nat) (w w':World):Prop where
 below:Below B w w'
 kept:Lib.OthersKept 5 (some b) w w'
section
variable {B b:Nat} {w w1 w2:World}
theorem ck.refl (w:World):ck B b w w:=⟨Below.refl _ _,Lib.OthersKept.refl _ _ _⟩
theorem ck.trans (h:ck B b w w1)(k:ck B b w1 w2):ck B b w w2:=⟨h.below.trans k.below,h.kept.trans k.kept⟩
theorem ck.aA (h:Below w.heap.size w w1)(hB:B<=w.heap.size):ck B b w w1:=⟨h.mono hB,λ k o hk _ _=>(h.block k (qg hk)).trans hk⟩
theorem ck.size (h:ck B b w w1):w.heap.size<=w1.heap.size:=h.below.size
theorem ck.later (h:ck B b w w1)(k:Below w1.heap.size w1 w2)(hB:B<=w.heap.size):ck B b w w2:=h.trans (.aA k (Nat.le_trans hB h.size))
theorem ck.blk (h:ck B b w w1) {g:Nat} {t:TypeId} {cs:Array Value}(hg:av w g t cs)(hb:g≠b)(ht:t≠5):av w1 g t cs:=
 h.kept g _ hg (λ e=>hb Ta3) (λ c fz e=>ht (by injection e with _ e _))
end
def eu (B b:Nat)(s:Option aT)(n:Nat)(w:World):Prop:=∃bad l,yw B b bad l w/\l.length<=n*2097400/\s=if bad then none else some l
variable{s:Option aT}
theorem eu.later(h:eu B b s n w)(hb:Below w.heap.size w w'):eu B b s n w':=by obtain⟨bad,l,h1,h2,h3⟩:=h;exact⟨bad,l,h1.later hb,h2,h3⟩
variable{m:Nat}
theorem eu.more(h:eu B b s n w)(hm:n<=m):eu B b s m w:=by obtain⟨bad,l,h1,h2,h3⟩:=h;exact⟨bad,l,h1,Nat.le_trans h2 (Nat.mul_le_mul_right _ hm),h3⟩
theorem eu.lt(h:eu B b s n w):B<=b/\b < w.heap.size:=by
 obtain⟨bad,l,h1,h2,h3⟩:=h;obtain⟨p,v,hb⟩:=h1.cells;rcases h1 with h1 | h1
 ·exact⟨h1.1,qg hb⟩
 ·exact⟨h1.1,qg hb⟩
theorem eu.size(h:eu B b s n w):B<=w.heap.size:=by have:=h.lt;omega
def aq (s o:Option aT):Option aT:=s.bind λ t=>o.map (t++ ·)
theorem cX (s:Option aT):aq s (some [])=s:=by cases s <;> simp[aq]
theorem aB (s o p:Option aT):aq (aq s o) p=aq s (aq o p):=by cases s <;> cases o <;> cases p <;> simp[aq]
theorem je (s:Option aT):aq s none=none:=by cases s <;> rfl
theorem CT (s t:aT):aq (some s) (some t)=some (s++t):=rfl
def bc (ok:Bool):Option aT:=if ok then some [] else none
def aW (B b:Nat)(s:Option aT)(n:Nat)(w:World)(e:Ending)(w':World):Prop:=e=.returned (.tuple #[])/\eu B b s n w'/\ck B b w w'
theorem aX(ok:Bool)(w:World)(h:eu B b s n w):Calls Tryz.prog 36 #[.pointer (some ⟨b,0,none⟩),.bool ok] w (aW B b (aq s (bc ok)) n w):=by
 have hlt:=h.lt;obtain⟨bad,l,h1,h2,rfl⟩:=h;obtain⟨p,v,hb⟩:=h1.cells;have c2:w.cell? ⟨b,2,none⟩=some (.bool bad):=by rw[Lib.cell_of_heap hb];rfl
 have f2:w.frozen? ⟨b,2,none⟩=false:=Lib.frozen_of_heap hb 2;have hs:aq (if bad then none else some l) (bc ok)=if bad || !ok then none else some l:=by cases bad <;> cases ok <;> simp[aq,bc]
 rw[hs];have H1:=hid (show∀x:Bool,x=(bad || !ok)->aW B b (if bad || !ok then none else some l) n w (.returned (.tuple #[])) (w.setCell ⟨b,2,none⟩ (.bool x))from λ x hx=>by
  subst hx
  exact⟨rfl,⟨_,l,h1.set _,h2,rfl⟩,⟨(Below.refl _ _).setCell (p:=⟨b,2,none⟩) hlt.1 _,(Lib.OthersKept.refl _ _ _).setCell ⟨b,2,none⟩ rfl _⟩⟩)
 clear hs h1 hb;go_enter Tryz.func36,Tryz.ntmps36;cases bad <;> cases ok <;>(go_wp2_with fail;go_end0;exact H1.out _ rfl)
theorem xK (s:ByteArray):s.data.toList.length=s.size:=by simp
def WT (ks:List ByteArray):Array Value:=(ks.map Value.string).toArray
def qh:List ByteArray->aT
 | []=> []
 | s::l=>s.data.toList++qh l
theorem CU:∀(l:List ByteArray) (s:ByteArray),qh (l++ [s])=qh l++s.data.toList
 | [],s=>by simp[qh]
 | a::l,s=>by simp[qh,CU l s]
variable{i:Nat}
theorem CV{l:List ByteArray}  {s:ByteArray}(h:l[i]?=some s):qh (l.take (i+1))=qh (l.take i)++s.data.toList:=by rw[take_add_one,h];exact CU _ _
variable{g:Nat}{ks:List ByteArray}
theorem CW{s:ByteArray}(h:av w g 9 (WT ks))(hs:ks[i]?=some s):w.cell? ⟨g,i,none⟩=some (.string s):=by rw[h.cell];simp[WT,hs]
theorem vg(ks:List ByteArray)(g k:Nat)(w:World)(h:eu B b s n w)(hk:ks.length=k)(hg:av w g 9 (WT ks))(hgb:g≠b)(hsm:k<=10)(hl:∀x∈ks,x.size<=2097400)(hn:n<=50000000):
  Calls Tryz.prog 39 #[.pointer (some ⟨b,0,none⟩),.slice (some ⟨g,0,none⟩) k k] w (aW B b (aq s (some (qh ks))) (n+k) w):=by have hB:=h.size;have HH:=hid h;have HG:=hid hg;have HL:=hid hl;have HK:=hid hk;clear h hg hl hk;go_enter Tryz.func39,Tryz.ntmps39;exact ZaG
theorem N0(ks:List ByteArray)(g k:Nat)(u0:FrameMode)(w:World)(h:eu B b s n w)(hk:ks.length=k)(hg:av w g 9 (WT ks))(hgb:g≠b)(hsm:k<=10)(hl:∀x∈ks,x.size<=2097400)(hn:n<=50000000):
  CallsD Tryz.prog 39 #[.pointer (some ⟨b,0,none⟩),.slice (some ⟨g,0,none⟩) k k] u0 w λ e u' w'=>u'=u0/\aW B b (aq s (some (qh ks))) (n+k) w e w':=by have hB:=h.size;have HH:=hid h;have HG:=hid hg;have HL:=hid hl;have HK:=hid hk;clear h hg hl hk;go_enter_d Tryz.func39,Tryz.ntmps39;exact ZaG
def vvV (v:Val):Value:=.agg #[.int .u8 v.k,.int .i64 v.n,.string v.s]
def Val.Ok (a:Val):Prop:= -9223372036854775808<=a.n/\a.n<=9223372036854775807
variable{t:TypeId}
theorem sO{k n:Int} {s:ByteArray}(h:av w g t #[.int .u8 k,.int .i64 n,.string s]):w.cell? ⟨g,0,none⟩=some (.int .u8 k)/\w.cell? ⟨g,1,none⟩=some (.int .i64 n)/\w.cell? ⟨g,2,none⟩=some (.string s):=⟨h.cell 0,h.cell 1,h.cell 2⟩
def qc (s:ByteArray):Bool:=s.toList== []
def good (v:Val):Bool:=
 if v.k=0 then(v.n==0 && qc v.s)else if v.k=1 then(qc v.s &&(v.n==0 || v.n==1))else if v.k=2 then qc v.s else if v.k=3 then v.n==0 else false
theorem vd (v:Val)(w:World):Calls Tryz.prog 89 #[.agg #[.int .u8 v.k,.int .i64 v.n,.string v.s]] w λ e w'=>e=.returned (.bool (good v))/\Below w.heap.size w w':=by
 obtain⟨k,n,s⟩:=v;unfold good qc;dsimp only;by_cases h0:k=0
 ·subst h0;exact Zbs
 ·have e0:(k==0)=false:=by simpa using h0
  by_cases h1:k=1
  ·subst h1;cases hs:(s.toList== [])
   ·exact Zbs
   ·cases hn:(n==0)
    ·exact Zbs
    ·exact Zbs
  ·have e1:(k==1)=false:=by simpa using h1
   by_cases h2:k=2
   ·subst h2;exact Zbs
   ·have e2:(k==2)=false:=by simpa using h2
    by_cases h3:k=3
    ·subst h3;exact Zbs
    ·have e3:(k==3)=false:=by simpa using h3
     exact Zbs
def FZ:List UInt8->List UInt8
 | []=> []
 | b::l=>if b=39 then 39::39::FZ l else b::FZ l
theorem Es:∀l:List UInt8,(FZ l).length<=2*l.length
 | []=>by simp[FZ]
 | b::l=>by have:=Es l;unfold FZ;split <;> simp <;> omega
theorem ve:∀s:List UInt8,Lib.replaceK [39] [39,39] (Lib.count s [39]) s=FZ s
 | []=>by rfl
 | b::l=>by
   have ih:=ve l;by_cases hb:b=39
   ·subst hb;rw[Lib.count_cons_eq,Nat.add_comm,Lib.replaceK_hit _ _ _ _ 0 (by simp[Lib.index])];simp only[take_zero,nil_append,length_cons,length_nil,Nat.zero_add,drop_succ_cons,drop_zero];rw[ih];simp[FZ]
   ·rw[Lib.count_cons_ne _ _ _ hb];cases hk:Lib.count l [39] with
    | zero=>rw[hk] at ih;simp only[Lib.replaceK] at ih ⊢;simp[FZ,hb,<- ih]
    | succ k=>
      obtain⟨i,hi⟩:=Lib.index_of_count (s:=l) (old:=[39]) Taa;rw[hk,Lib.replaceK_hit _ _ _ _ i hi] at ih;have Jw:Lib.index (b::l) [39]=((i+1:Nat):Int):=by
       have hne:(39:UInt8)≠b:=λ e=>hb e.symm
       simp[Lib.index,List.isPrefixOf,hne,hi]
      rw[Lib.replaceK_hit _ _ _ _ (i+1) Jw];simp only[take_succ_cons,cons_append,length_cons,length_nil,Nat.zero_add] at ih ⊢;rw[show i+1+1=(i+1)+1 from rfl,drop_succ_cons,ih];simp[FZ,hb]
theorem zP (s:List UInt8):Lib.replaceAll s [39] [39,39]=FZ s:=by unfold Lib.replaceAll Lib.replace;rw[if_neg Tac];unfold Lib.replaceNum;rw[if_pos (.inl Tac)];exact ve s
def Et (w:World):Prop:=Lib.TabIs Tryz.prog w "internal/strconv.uint64pow10" .u64 Lib.pow10Tab/\∃m,w.cell? ⟨6,0,none⟩=some (.int .i64 m)
theorem Et.later(h:Et w)(hb:Below w.heap.size w w'):Et w':=by obtain⟨h1,m,h2⟩:=h;exact⟨CP h1 hb,m,(hb.cell (bY h2)).trans h2⟩
theorem RI (e:Bool)(k:Int)(w:World):(Instr.checkKey e 10000 5 (.int .u8 k)).run Tryz.prog w=.ok () w:=
 MapKept.run_checkKey Tryz.underlying5 Taw e 9999
theorem Eu (w:World)(g:Nat)(es:Array MapEntry)(c:Nat)(hg:w.heap[g]?=some (.map es c))(k:Int)(v:Value)(hf:Instr.findNow (.int .u8) (.int .u8 k) es.toList 0=some none):
  (Instr.mapUpdate 168 (.map (some g)) (.int .u8 k) v).run Tryz.prog w=.ok () (eO w g (es.push ⟨.int .u8 k,v,c⟩) (c+1)):=by unfold Instr.mapUpdate;simp only[Sem.run_bind,run_underlying Tryz.underlying168,Result.andThen_ok,MapKept.run_getObj_map hg,RI,Instr.findKey,run_underlying Tryz.underlying5,hf,Sem.run_pure,MapKept.run_setObj_map _ hg];rfl
theorem RJ (w:World)(g:Nat)(es:Array MapEntry)(c:Nat)(hg:w.heap[g]?=some (.map es c))(k:Int)(i:Nat)(v:Value)(hf:Instr.findNow (.int .u8) (.int .u8 k) es.toList 0=some (some (i,v))):
  (Instr.lookup 168 (.map (some g)) (.int .u8 k) false).run Tryz.prog w=.ok v w:=by unfold Instr.lookup;simp only[Sem.run_bind,run_underlying Tryz.underlying168,Result.andThen_ok,MapKept.run_getObj_map hg,RI,Instr.findKey,run_underlying Tryz.underlying5,hf,Sem.run_pure];rfl
def GD:Nat->FuncId
 | 0=>167
 | 1=>168
 | 2=>169
 | _=>170
def et (k:Nat):Value:=.func (.func (GD k)) #[] #[]
def wH:Array MapEntry:= #[⟨.int .u8 0,et 0,0⟩,⟨.int .u8 1,et 1,1⟩,⟨.int .u8 2,et 2,2⟩,⟨.int .u8 3,et 3,3⟩]
def sP (w:World)(v:Value):Prop:=∃g,v=.map (some g)/\w.heap[g]?=some (.map wH 4)
theorem sP.later(h:sP w v)(hb:Below w.heap.size w w'):sP w' v:=by
 obtain⟨g,rfl,h⟩:=h;refine⟨g,rfl,?_⟩;rcases Nat.lt_or_ge g w.heap.size with hlt | CE
 ·exact(hb.block g hlt).trans h
 ·exact Zgu
theorem NZ (w:World):Calls Tryz.prog 140 #[] w λ e w'=>∃v,e=.returned v/\sP w' v/\Below w.heap.size w w':=by
 have Wb:= @run_makeMap Tryz.prog;have h0:(w.alloc (.map #[] 0)).heap[w.heap.size]?=some (.map #[] 0):=heap_alloc_new w _;have i0:=Eu (w.alloc (.map #[] 0)) w.heap.size #[] 0 h0 0 (et 0) rfl;have h1:=mZ (es':= #[⟨.int .u8 0,et 0,0⟩]) (c':=1) h0;have i1:=Eu _ w.heap.size _ _ h1 1 (et 1) rfl;have h2:=mZ (es':= #[⟨.int .u8 0,et 0,0⟩,⟨.int .u8 1,et 1,1⟩]) (c':=2) h1;have i2:=Eu _ w.heap.size _ _ h2 2 (et 2) rfl;have h3:=mZ (es':= #[⟨.int .u8 0,et 0,0⟩,⟨.int .u8 1,et 1,1⟩,⟨.int .u8 2,et 2,2⟩]) (c':=3) h2;have i3:=Eu _ w.heap.size _ _ h3 3 (et 3) rfl;have h4:=mZ (es':=wH) (c':=4) h3;have H4:=hid h4;clear h4;simp only[push_toArray,nil_append,cons_append,Nat.reduceAdd,Nat.zero_add] at i0 i1 i2 i3;simp only[et,GD] at i0 i1 i2 i3 H4;clear h0 h1 h2 h3;have hB:=ki (ki (ki (ki (aa w (.map #[] 0)) w.heap.size (Nat.le_refl _) #[⟨.int .u8 0,et 0,0⟩] 1) w.heap.size (Nat.le_refl _) #[⟨.int .u8 0,et 0,0⟩,⟨.int .u8 1,et 1,1⟩] 2) w.heap.size (Nat.le_refl _) #[⟨.int .u8 0,et 0,0⟩,⟨.int .u8 1,et 1,1⟩,⟨.int .u8 2,et 2,2⟩] 3) w.heap.size (Nat.le_refl _) wH 4;have HB:=hid hB;clear hB;go_enter Tryz.func140,Tryz.ntmps140;go_wp2_with fail;refine bodyPost_ret (v:=.map (some w.heap.size)) ?_ rfl ?_
 ·simp[results,Tryz.results140,go_sem]
 ·exact⟨_,rfl,⟨_,rfl,H4.out⟩,HB.out⟩
def lX (v:Val):List UInt8:=
 if good v then(if v.k=0 then [78,85,76,76] else if v.k=1 then(if v.n=1 then [84,82,85,69] else [70,65,76,83,69])else if v.k=2 then Lib.itoa v.n else 39::(FZ v.s.data.toList++ [39]))else [63]
theorem JS (v:Val)(w:World):Calls Tryz.prog 167 #[.agg #[.int .u8 v.k,.int .i64 v.n,.string v.s]] w λ e w'=>e=.returned (strOf [78,85,76,76])/\Below w.heap.size w w':=by go_enter Tryz.func167,Tryz.ntmps167;exact ZcO
theorem Oa (v:Val)(w:World)(h:v.n=0):Calls Tryz.prog 168 #[.agg #[.int .u8 v.k,.int .i64 v.n,.string v.s]] w λ e w'=>e=.returned (strOf [70,65,76,83,69])/\Below w.heap.size w w':=by exact Zbv
theorem JT (v:Val)(w:World)(h:v.n=1):Calls Tryz.prog 168 #[.agg #[.int .u8 v.k,.int .i64 v.n,.string v.s]] w λ e w'=>e=.returned (strOf [84,82,85,69])/\Below w.heap.size w w':=by exact Zbv
theorem zQ (w:World)(k:Nat)(os:Array Obj):Below w.heap.size w («Sort».grow (w.drewN k) os):=by
 have h:=cu w k;refine⟨h.os,h.tape,h.output,?_,λ i hi=>?_⟩
 ·have:=h.size;simp[«Sort».grow]
 ·rw[<- h.block i hi];have:=h.size;simp only[«Sort».grow];rw[Array.getElem?_append_left Taa]
theorem zh4.KcI(h:p:=by refine(Tryz.strconv_FormatInt_10 v.n hv.1 hv.2 W (hE.later bb).1).mono ?_;rintro e w1 ⟨rfl,k,os,rfl⟩;have b1:=zQ W k os;generalize «Sort».grow (W.drewN k) os=W1 at*;go_wp2_with fail;go_ret;exact⟨rfl,af.then bb b1⟩):p:=h
theorem JU (v:Val)(hv:v.Ok)(w:World)(hE:Et w):Calls Tryz.prog 169 #[.agg #[.int .u8 v.k,.int .i64 v.n,.string v.s]] w λ e w'=>e=.returned (strOf (Lib.itoa v.n))/\Below w.heap.size w w':=by go_enter Tryz.func169,Tryz.ntmps169;open zh4 in exact ZgM
theorem quoted (E:List UInt8):(⟨#[39]⟩:ByteArray)++⟨E.toArray⟩++⟨#[39]⟩=⟨(39::(E++ [39])).toArray⟩:=by apply ByteArray.ext;simp
theorem zh5.KcI(h:p:=by
 obtain⟨m,hm⟩:=(hE.later bb).2;refine(Tryz.strings_ReplaceAll v.s ⟨#[39]⟩ ⟨#[39,39]⟩ m W hs hm Tac ?_).mono ?_
 ·have:=Lib.count_le v.s.data.toList [39];have h2:Lib.countB v.s ⟨#[39]⟩<=v.s.size+1:=by simpa using this
  have h3:(⟨#[39,39]⟩:ByteArray).size=2:=rfl;rw[h3];omega
 rintro e w1 ⟨rfl,b1⟩;simp only[zP];have hl:=Es v.s.data.toList;have hl2:v.s.data.toList.length=v.s.size:=by simp
 have t1:(FZ v.s.data.toList).length<=8589934562:=by omega
 clear hl hl2;have HQ:=hid (quoted (FZ v.s.data.toList));generalize hEq:FZ v.s.data.toList=E at*;have HE:=hid hEq;clear hEq;have n1:=decide_eq_false (show¬9223372036854775807 < 1+E.length by omega);go_wp2_with fail;go_ret;exact⟨by rw[HE.out];exact congrArg (λ x=>Ending.returned (.string x)) HQ.out,af.then bb b1⟩):p:=h
theorem JV (v:Val)(hs:v.s.size < 4294967281)(w:World)(hE:Et w):Calls Tryz.prog 170 #[.agg #[.int .u8 v.k,.int .i64 v.n,.string v.s]] w λ e w'=>e=.returned (strOf (39::(FZ v.s.data.toList++ [39])))/\Below w.heap.size w w':=by go_enter Tryz.func170,Tryz.ntmps170;open zh5 in exact ZgM
def wdV (g:Nat)(v:Val)(K:Nat):Nat->World->Value->Prop
 | 0,w,u=>sP w u
 | 1,_,u=>u=.pointer (some ⟨g,0,none⟩)
 | 2,_,u=>u=.int .u8 K
 | 3,_,u=>u=et K
 | 4,_,u=>u=vvV v
 | _,_,_=>False
theorem Ob (g:Nat)(v:Val)(K:Nat):∀i w w' u,wdV g v K i w u->af w w'->wdV g v K i w' u:=by
 intro i w w' u h hl
 match i with
 | 0=>exact sP.later h hl
 | 1=>exact h
 | 2=>exact h
 | 3=>exact h
 | 4=>exact h
 | _+5=>exact h
def zR (l:List UInt8)(w:World)(e:Ending)(w':World):Prop:=e=.returned (strOf l)/\Below w.heap.size w w'
theorem WS (v:Val)(K:Nat)(hK:K<=3)(hk:v.k=K)(hg:good v=true)(hv:v.Ok)(hs:v.s.size < 4294967281)(w:World)(hE:Et w):Calls Tryz.prog (GD K) #[vvV v] w (zR (lX v) w):=by
 unfold lX zR;rw[if_pos hg]
 match K with
 | 0=>rw[if_pos TaB];exact JS v w
 | 1=>
   rw[if_neg TaD,if_pos TaB];by_cases hn:v.n=1
   ·rw[if_pos hn];exact JT v w hn
   ·rw[if_neg hn];refine Oa v w ?_;unfold good at hg;rw[if_neg TaD,if_pos TaB] at hg;simp only[Bool.and_eq_true,Bool.or_eq_true,beq_iff_eq] at hg;exact hg.2.resolve_right hn
 | 2=>rw[if_neg TaD,if_neg TaD,if_pos TaB];exact JU v hv w hE
 | 3=>rw[if_neg TaD,if_neg TaD,if_neg TaD];exact JV v hs w hE
 | _+4=>omega
theorem Oc (K:Nat)(hK:K<=3):Instr.findNow (.int .u8) (.int .u8 K) wH.toList 0=some (some (K,et K)):=by
 match K with
 | 0=>rfl
 | 1=>rfl
 | 2=>rfl
 | 3=>rfl
 | _+4=>omega
theorem Od{v:Val}(h:good v=true):∃K:Nat,K<=3/\v.k=K:=by
 unfold good at h;by_cases h0:v.k=0
 ·exact⟨0,by omega,by simpa using h0⟩
 ·by_cases h1:v.k=1
  ·exact⟨1,by omega,by simpa using h1⟩
  ·by_cases h2:v.k=2
   ·exact⟨2,by omega,by simpa using h2⟩
   ·by_cases h3:v.k=3
    ·exact⟨3,by omega,by simpa using h3⟩
    ·simp[h0,h1,h2,h3] at h
theorem zg0.Kce(h:p:=by go_ret;exact⟨by rw[HW.out];rfl,af.then bb b1⟩):p:=h
theorem zg1.Kce(h:p:=by
 have hB1:=af.then bb b1;have acd:=ub.later b1;refine cE 5 (wdV w.heap.size v K) (Ob _ _ _) Tab Tab Tab ?_ ?_
 ·simp only[take_succ_cons,take_zero];refine⟨?_,?_,?_,?_,?_,trivial⟩
  ·intro ρ w3 hc hL hr;have e1:=hc.func 140;refine dB (f:=140) (args:= #[]) (w':=w3) (by simp[go_sem,e1]) ?_;refine(NZ w3).mono ?_;rintro e w4 ⟨u,rfl,hu,b4⟩;exact⟨_,rfl,b4,hu⟩
  ·intro ρ w3 hc hL hr;have h1:_=_:=hr.1;exact ae (w':=w3) (by simp[go_sem,h1]) ⟨af.refl _,rfl⟩
  ·intro ρ w3 hc hL hr;have h1:_=_:=hr.1;have c0:=(acd.later hL).cell 0;simp only[Uaa] at c0;exact ae (v:=.int .u8 v.k) (w':=w3) (by simp[go_sem,h1,c0]) ⟨af.refl _,by rw[HK.out];rfl⟩
  ·intro ρ w3 hc hL hr;obtain⟨g,h1,hg1⟩:∃g,ρ (.tmp 6)=.map (some g)/\w3.heap[g]?=some (.map wH 4):=hr.1;have h2:_=_:=hr.2.1;have lk:=RJ w3 g wH 4 hg1 K K (et K) (Oc K hK);exact ae (w':=w3) (by simp[go_sem,h1,h2,lk]) ⟨af.refl _,rfl⟩
  ·intro ρ w3 hc hL hr;have h1:_=_:=hr.1;have c0:=sO (acd.later hL);exact ae (w':=w3) (by simp[go_sem,h1,c0,vvV]) ⟨af.refl _,rfl⟩
 ·intro w3 hL;simp only[Uab];intro a0 h0 a1 h1 a2 h2 a3 h3 a4 h4;have h3:et K=a3:=Eq.symm h3;have h4:vvV v=a4:=Eq.symm h4;subst h3 h4;clear h0 h1 h2;have hE3:=(hE.later hB1).later hL;have hB3:=af.then hB1 hL;have hf:=WS v K hK HK.out hg hv hs w3 hE3;clear hE hE3;have iL:K=0\/K=1\/K=2\/K=3:=by omega
  rcases iL with rfl | rfl | rfl | rfl;all_goals
   simp only[GD,vvV] at hf;simp only[cN,Act.put,Uac,et,GD,vvV];go_wp2_with fail;refine hf.mono ?_;rintro e w4 ⟨rfl,b4⟩;go_wp2_with fail;go_ret;exact⟨rfl,af.then hB3 b4⟩):p:=h
theorem CS (v:Val)(hv:v.Ok)(hs:v.s.size < 4294967281)(w:World)(hE:Et w):Calls Tryz.prog 90 #[.agg #[.int .u8 v.k,.int .i64 v.n,.string v.s]] w (zR (lX v) w):=by
 have ub:=av.new w 32 #[.int .u8 v.k,.int .i64 v.n,.string v.s];have bb:=aa w (.cells #[.int .u8 v.k,.int .i64 v.n,.string v.s] 32);cases hg:good v
 ·have HW:=hid (show lX v=[63] by unfold lX;rw[hg];rfl);open zg0 in exact Ze1
 ·obtain⟨K,hK,hk⟩:=Od hg;have HK:=hid hk;clear hk;open zg1 in exact Ze1
def dE:List (Option aT)->Option aT
 | []=>some []
 | o::l=>aq o (match l with | []=>some [] | p::r=>aq (some [44,32]) (dE (p::r)))
theorem na (o:Option aT):dE [o]=o:=cX o
theorem nA (o p:Option aT)(l:List (Option aT)):dE (o::p::l)=aq o (aq (some [44,32]) (dE (p::l))):=by rw[dE]
theorem zV (q:Option aT):∀(l:List (Option aT)),l≠ []->dE (l++ [q])=aq (dE l) (aq (some [44,32]) q)
 | [],h=>absurd rfl h
 | [o],_=>by show dE (o::q:: [])=_;rw[nA,na,na]
 | o::p::l,_=>by show dE (o::p::(l++ [q]))=_;have ih:=zV q (p::l) Tae;rw[nA,nA,show p::(l++ [q])=(p::l)++ [q] from rfl,ih];simp only[aB]
def dt (l:List (Option aT)):Option aT:=aq (bc (decide (0 < l.length)&& decide (l.length<=64))) (dE l)
def nB (v:Val):Bool:=v.k==0 &&(v.n==0 && v.s.toList== [])
def vq (n:Int):Option aT:=aq (bc (decide (0<=n))) (some (Lib.itoa n))
def cS (s:ByteArray):Option aT:=aq (bc (pg s.data.toList)) (some s.data.toList)
def oO (op:Int):aT:=if op=5 then [43] else if op=6 then [45] else if op=7 then [42] else if op=8 then [47] else if op=9 then [37] else if op=10 then [61] else if op=11 then [60,62] else if op=12 then [60] else if op=13 then [60,61] else if op=14 then [62] else if op=15 then [62,61] else if op=16 then [65,78,68] else if op=17 then [79,82] else []
def cT (op:Int):Bool:=decide (5<=op)&& decide (op<=17)
def ix (op:Int):Bool:=op==3 ||(op==4 ||(op==18 ||(op==19 || cT op)))
def mL (op:Int):aT×Nat:=if op=20 then([98,117,99,107,101,116],1)else if op=22 then([99,111,117,110,116],1)else if op=23 then([115,117,109],1)else if op=24 then([109,105,110],1)else if op=25 then([109,97,120],1)else if op=26 then([97,118,103],1)else if op=27 then([102,105,114,115,116],2)else if op=28 then([108,97,115,116],2)else([],0)
def jV (op:Int):Bool:=op==20 || decide (22<=op)&& decide (op<=28)
def jt (a:Int×Option aT):Option aT:=if ix a.1 then aq (some [40]) (aq a.2 (some [41]))else a.2
def bu (v:Val)(name:ByteArray)(width:Int):Bool:=nB v &&(name.toList== [] && width==0)
def nC (op:Int)(v:Val)(name:ByteArray)(width:Int)(l:List (Int×Option aT)):Option aT:=
 if op=1 then aq (bc (l.length==0 &&(name.toList== [] &&(width==0 &&(good v &&(v.k != 2 || decide (0<=v.n))))))) (some (lX v))
 else if op=2 then aq (bc (l.length==0 &&(nB v && width==0))) (cS name)
 else if op=21 then aq (bc (l.length==0 && bu v name width)) (some [99,111,117,110,116,40,42,41])
 else if cT op then match l with
  | [x,y]=>if bu v name width then aq (jt x) (aq (some (32::(oO op++ [32]))) (jt y))else none
  | _=>none
 else if op=3 then match l with
  | [x]=>if bu v name width then aq (some [45,32]) (jt x)else none
  | _=>none
 else if op=4 then match l with
  | [x]=>if bu v name width then aq (some [78,79,84,32]) (jt x)else none
  | _=>none
 else if op=18 then match l with
  | [x]=>if bu v name width then aq (jt x) (some [32,73,83,32,78,85,76,76])else none
  | _=>none
 else if op=19 then match l with
  | [x]=>if bu v name width then aq (jt x) (some [32,73,83,32,78,79,84,32,78,85,76,76])else none
  | _=>none
 else if jV op && l.length==(mL op).2 then
  aq (bc (nB v &&(name.toList== [] &&(op==20 || width==0)))) (aq (some ((mL op).1++ [40])) (aq (if op=20 then aq (vq width) (some [44,32])else some []) (aq (dE (l.map (·.2))) (some [41]))))
 else none
def Tr.op:Tr->Int
 | .mk op _ _ _ _=>op
mutual
def Tr.out:Tr->Option aT
 | .mk op v name width args=>nC op v name width (Tr.outs args)
def Tr.outs:List Tr->List (Int×Option aT)
 | []=> []
 | t::ts=>(t.op,t.out)::Tr.outs ts
end
theorem zW:∀ts:List Tr,Tr.outs ts=ts.map λ t=>(t.op,t.out)
 | []=>rfl
 | t::ts=>by simp[Tr.outs,zW ts]
def Tr.whole (t:Tr):Option aT:=if 32 < t.depth then none else t.out
def eQ (word:aT)(l:List Tr):Option aT:=aq (bc (decide (l.length<=1))) (match l with | []=>some [] | t::_=>aq (some (32::(word++ [32]))) t.whole)
def ou (x:Tr×ByteArray):Option aT:=aq x.1.whole (if x.2.toList=[] then some [] else aq (some [32,65,83,32]) (cS x.2))
def kr (x:Tr×Bool):Option aT:=aq x.1.whole (if x.2 then some [32,68,69,83,67] else some [])
def ED (l:List Int):Option aT:=aq (bc (decide (l.length<=1))) (match l with | []=>some [] | n::_=>aq (some [32,76,73,77,73,84,32]) (vq n))
def jm (lead:aT)(l:List (Option aT)):Option aT:=if l.length=0 then some [] else aq (some lead) (dt l)
def jG (q:Qu):Option aT:=
 aq (some [83,69,76,69,67,84,32]) (aq (if q.items.length=0 then some [42] else dt (q.items.map ou)) (aq (some [32,70,82,79,77,32]) (aq (some (if q.only then [79,78,76,89,32] else [])) (aq (cS q.aN) (aq (eQ [87,72,69,82,69] q.aP) (aq (jm [32,71,82,79,85,80,32,66,89,32] (q.group.map Tr.whole)) (aq (eQ [72,65,86,73,78,71] q.having) (aq (jm [32,79,82,68,69,82,32,66,89,32] (q.order.map kr)) (ED q.aQ)))))))))
def yy (v:Val):Option aT:=aq (bc (v.k==0 || v.k==2 && decide (-9223372036854775808 < v.n))) (aq (bc (good v)) (some (lX v)))
def WW (q:Qu):Bool:=decide (q.items.length+q.aP.length+q.group.length+q.having.length+q.order.length+q.aQ.length=0)&&(q.aN.toList== [] && !q.only)
def dv (s:St)(c q j w e r u h t:Bool):Bool:=
 (c || s.aY.length==0 && s.time.toList== [] && s.space.toList== [] && s.parts==0)&&(e || s.every==0)&&(q || WW s.query)&&(w || s.what==0)&&(j || s.cI.toList== [] && s.a==0 && s.b==0)&&(r || s.rows.length==0)&&(u || s.bF.length==0)&&(h || s.aP.length==0)&&(t || nB s.aN && nB s.dH)
def RR (t:Int):aT:=if t=1 then [66,79,79,76] else if t=2 then [73,78,84] else if t=3 then [84,69,88,84] else []
def GK (c:ByteArray×Int):Option aT:=aq (cS c.1) (aq (bc (decide (1<=c.2)&& decide (c.2<=3))) (some (32::RR c.2)))
def EE (x:ByteArray×Tr):Option aT:=aq (cS x.1) (aq (some [32,61,32]) x.2.whole)
def Cc (l:List Tr):Option aT:=aq (some [40]) (aq (dt (l.map Tr.whole)) (some [41]))
def oP (s:St):Option aT:=
 aq (bc (dv s true false false false true false false false false)) (aq (some [67,82,69,65,84,69,32,84,65,66,76,69,32]) (aq (cS s.name) (aq (some [32,40]) (aq (dt (s.aY.map GK)) (aq (some [41,32,84,73,77,69,32]) (aq (cS s.time) (aq (some [32,69,86,69,82,89,32]) (aq (vq s.every)
  (if s.space.toList=[] then bc (s.parts==0)else aq (some [32,83,80,65,67,69,32]) (aq (cS s.space) (aq (some [32,73,78,84,79,32]) (vq s.parts))))))))))))
def yz (k:Int):aT:=if k=9 then [82,69,70,82,69,83,72] else if k=10 then [67,79,77,80,82,69,83,83] else if k=12 then [68,82,79,80] else []
def Ce (s:St):Option aT:=
 aq (bc (dv s false false true true true false false false false)) (aq (some [67,82,69,65,84,69,32,74,79,66,32]) (aq (cS s.name) (aq (bc (!(yz s.what== []))) (aq (some (32::(yz s.what++ [32]))) (aq (cS s.cI) (aq
  (if s.what=9 then aq (some [32,70,82,79,77,32]) (aq (vq s.a) (aq (some [32,84,79,32]) (vq s.b)))else aq (bc (s.b==0)) (aq (some [32,65,70,84,69,82,32]) (vq s.a))) (aq (some [32,69,86,69,82,89,32]) (vq s.every))))))))
def tP (k:Int):aT:=if k=1 then [84,65,66,76,69] else if k=2 then [86,73,69,87] else if k=3 then [74,79,66] else []
def aci (k:Int):aT:=if k=9 then [114,101,102,114,101,115,104] else if k=10 then [99,111,109,112,114,101,115,115] else if k=11 then [100,101,99,111,109,112,114,101,115,115] else if k=12 then [100,114,111,112,95,99,104,117,110,107,115] else []
def cB (s:St):Option aT:=
 if s.kind=1 then oP s
 else if s.kind=3 then Ce s
 else if s.kind=2 then aq (bc (dv s false true false false false false false false false)) (aq (some [67,82,69,65,84,69,32,86,73,69,87,32]) (aq (cS s.name) (aq (some [32,65,83,32]) (jG s.query))))
 else if s.kind=4 then aq (bc (!(tP s.what== [])&& dv s false false false true false false false false false)) (aq (some ([68,82,79,80,32]++tP s.what++ [32])) (cS s.name))
 else if s.kind=5 then aq (bc (dv s false false false false false true false false false)) (aq (some [73,78,83,69,82,84,32,73,78,84,79,32]) (aq (cS s.name) (aq (some [32,86,65,76,85,69,83,32]) (dt (s.rows.map Cc)))))
 else if s.kind=6 then aq (bc (dv s false false false false false false true true false)) (aq (some [85,80,68,65,84,69,32]) (aq (cS s.name) (aq (some [32,83,69,84,32]) (aq (dt (s.bF.map EE)) (eQ [87,72,69,82,69] s.aP)))))
 else if s.kind=7 then aq (bc (dv s false false false false false false false true false)) (aq (some [68,69,76,69,84,69,32,70,82,79,77,32]) (aq (cS s.name) (eQ [87,72,69,82,69] s.aP)))
 else if s.kind=8 then aq (bc (dv s false true false false false false false false false && s.name.toList== [])) (jG s.query)
 else if 9<=s.kind/\s.kind<=12 then
  aq (bc (dv s false false false false false false false false true)) (aq (some ([67,65,76,76,32]++aci s.kind++ [40])) (aq (cS s.name) (aq (some [44,32]) (aq (if s.kind=9 then aq (yy s.aN) (some [44,32])else bc (nB s.aN)) (aq (yy s.dH) (some [41]))))))
 else none
def mD (o:Option aT):aT×Int:=match o with
 | none=>([],21)
 | some t=>if 4096 < t.length then([],2)else(t,0)
def EF (s:St):aT×Int:=mD (cB s)
def Cf (t:Tr):aT×Int:=mD t.whole
structure di (w:World):Prop where
 lex:kg w
 val:Et w
variable{w0 W:World}
theorem di.env(h:di w0)(hw:Below w0.heap.size w0 W):Env w0.heap.size W:=⟨w0,h.lex,rfl,hw⟩
theorem di.ack(h:di w0)(hw:Below w0.heap.size w0 W):Et W:=h.val.later hw
section
variable {w0:World} {b:Nat} {s:Option aT} {n:Nat}
theorem cn (t:ByteArray)(w:World)(h:eu w0.heap.size b s n w)(hl:t.size<=2097400)(hn:n<=50000000):
  Calls Tryz.prog 39 #[.pointer (some ⟨b,0,none⟩),.slice (some ⟨w.heap.size,0,none⟩) 1 1] (w.alloc (.cells #[.string t] 9)) λ e w'=>e=.returned (.tuple #[])/\eu w0.heap.size b (aq s (some t.data.toList)) (n+1) w'/\ck w0.heap.size b w w':=by have bm:=aa w (.cells #[.string t] 9);have hlt:=h.lt;refine(vg [t] w.heap.size 1 _ (h.later bm) rfl (av.new w _ _) Taa Taa (by intro x hx;simp at hx;subst hx;exact hl) hn).mono ?_;exact Zdi
theorem RT (t u:ByteArray)(w:World)(h:eu w0.heap.size b s n w)(hl:t.size<=2097400)(hu:u.size<=2097400)(hn:n<=50000000):
  Calls Tryz.prog 39 #[.pointer (some ⟨b,0,none⟩),.slice (some ⟨w.heap.size,0,none⟩) 2 2] (w.alloc (.cells #[.string t,.string u] 9)) λ e w'=>e=.returned (.tuple #[])/\eu w0.heap.size b (aq s (some (t.data.toList++u.data.toList))) (n+2) w'/\ck w0.heap.size b w w':=by have bm:=aa w (.cells #[.string t,.string u] 9);have hlt:=h.lt;refine(vg [t,u] w.heap.size 2 _ (h.later bm) rfl (av.new w _ _) Taa Taa (by intro x hx;simp at hx;rcases hx with rfl | rfl <;> assumption) hn).mono ?_;exact Zdi
theorem Ab (t u v:ByteArray)(w:World)(h:eu w0.heap.size b s n w)(hl:t.size<=2097400)(hu:u.size<=2097400)(hv:v.size<=2097400)(hn:n<=50000000):
  Calls Tryz.prog 39 #[.pointer (some ⟨b,0,none⟩),.slice (some ⟨w.heap.size,0,none⟩) 3 3] (w.alloc (.cells #[.string t,.string u,.string v] 9)) λ e w'=>e=.returned (.tuple #[])/\eu w0.heap.size b (aq s (some (t.data.toList++(u.data.toList++v.data.toList)))) (n+3) w'/\ck w0.heap.size b w w':=by have bm:=aa w (.cells #[.string t,.string u,.string v] 9);have hlt:=h.lt;refine(vg [t,u,v] w.heap.size 3 _ (h.later bm) rfl (av.new w _ _) Taa Taa (by intro x hx;simp at hx;rcases hx with rfl | rfl | rfl <;> assumption) hn).mono ?_;exact Zdi
theorem ee (hE:di w0)(t:ByteArray)(w:World)(h:eu w0.heap.size b s n w)(hw:Below w0.heap.size w0 w)(hs:t.size<=1048576)(hn:n<=50000000):
  Calls Tryz.prog 46 #[.pointer (some ⟨b,0,none⟩),.string t] w (aW w0.heap.size b (aq s (cS t)) (n+1) w):=by have HE:=hid (hE.env hw);have HH:=hid h;clear h hE;go_enter Tryz.func46,Tryz.ntmps46;go_wp2_with fail;refine(RG t w HE.out Taa).mono ?_;rintro e w1 ⟨rfl,b1⟩;have H1:=hid (HH.out.later b1);have D1:=hid (ck.aA (b:=b) b1 HH.out.size);clear b1 hw;go_wp2_with fail;refine(aX _ w1 H1.out).mono ?_;rintro e w2 ⟨rfl,h2,d2⟩;have H2:=hid h2;have D2:=hid (D1.out.trans d2);clear h2 d2 D1 H1;go_wp2_with fail;refine(cn t w2 H2.out Taa hn).mono ?_;rintro e w3 ⟨rfl,h3,d3⟩;have H3:=hid h3;have D3:=hid (D2.out.trans d3);clear h3 d3 D2 H2;go_wp2_with fail;go_end0;refine⟨rfl,?_,D3.out⟩;have:=H3.out;rwa [aB] at this
theorem RU (k:Int)(h0: -9223372036854775808<=k)(h1:k<=9223372036854775807):(Lib.itoa k).length<=21:=Lib.itoa_length_le k h0 h1
theorem fN (hE:di w0)(k:Int)(h0: -9223372036854775808<=k)(h1:k<=9223372036854775807)(w:World)(h:eu w0.heap.size b s n w)(hw:Below w0.heap.size w0 w)(hn:n<=50000000):
  Calls Tryz.prog 81 #[.pointer (some ⟨b,0,none⟩),.int .i64 k] w (aW w0.heap.size b (aq s (vq k)) (n+1) w):=by have HV:=hid hE.val;have HH:=hid h;clear h hE;have Ea:=RU k h0 h1;go_enter Tryz.func81,Tryz.ntmps81;go_wp2_with fail;refine(aX _ w HH.out).mono ?_;rintro e w2 ⟨rfl,h2,d2⟩;have H2:=hid h2;have D2:=hid d2;have hw2:=hw.trans d2.below;clear h2 d2 HH;go_wp2_with fail;refine(Tryz.strconv_FormatInt_10 k h0 h1 w2 (HV.out.later hw2).1).mono ?_;rintro e w1 ⟨rfl,q,os,rfl⟩;have b1:=zQ w2 q os;generalize «Sort».grow (w2.drewN q) os=W1 at*;have H3:=hid (H2.out.later b1);have D3:=hid (D2.out.later b1 (Nat.le_trans H2.out.size (Nat.le_refl _)|> λ _=>hw.size));clear b1 H2 D2 hw2;go_wp2_with fail;refine(cn ⟨(Lib.itoa k).toArray⟩ W1 H3.out (by show(Lib.itoa k).toArray.size<=_;simp;omega) hn).mono ?_;rintro e w3 ⟨rfl,h3,d3⟩;have H4:=hid h3;have D4:=hid (D3.out.trans d3);clear h3 d3 D3 H3;go_wp2_with fail;go_end0;refine⟨rfl,?_,D4.out⟩;have:=H4.out;rwa [aB] at this
end
end Go.Proofs.YtehhdlgjfdnafaaGreatDoor
