/- Parts of the proof. -/
import Derived.Lib.BufferKept
import Derived.Lib.ItoaLen
import Derived.Test.YtehhdlgjfdnafaaGreatDoorXB11
namespace Go.Proofs.YtehhdlgjfdnafaaGreatDoor
variable{p:Prop}
set_option maxHeartbeats 90000000
set_option maxRecDepth 100000
open Go.Lib (hid)
open Go.ChangeShapes Go.WideShapes Go.ChangeAt Go.RowKit Go.Shelf List
set_option linter.unusedVariables false
set_option linter.unusedSimpArgs false
abbrev aV:=List UInt8
theorem Kk:liesAt Tryz.prog Tryz.prog.depth 63 (3 / Tryz.prog.cellsOf 63) 0 61 1=true:=by exact Zhj
def si (B b:Nat)(p:Value)(bad:Bool)(l:aV)(w:World):Prop:=
 B<=b/\∃v,w.heap[b]?=some (.cells #[p,v,.bool bad] 63 (0,0))/\w.ownsRow B 5 1 v l.length (Lib.byteCells l)/\v.ownBlock≠some b/\(l=[]->v=.slice none 0 0)
def AD (B b:Nat)(bad:Bool)(l:aV)(w:World):Prop:=si B b (.pointer none) bad l w\/si B b (.pointer (some ⟨b,0,none⟩)) bad l w
variable{w:World}{b:Nat}{o:Obj}
theorem rp(h:w.heap[b]?=some o):b < w.heap.size:=by
 rcases Nat.lt_or_ge b w.heap.size with h' | h'
 ·exact h'
 ·rw[Array.getElem?_eq_none h'] at h;cases h
variable{k:Nat}
theorem Hp(w:World)(p:Addr)(n:Nat) (h:k≠p.block):(w.freeze p n).heap[k]?=w.heap[k]?:=by
 unfold World.freeze;split
 ·rfl
 ·simp only[Array.getElem?_modify];rw[if_neg (λ e=>h e.symm)]
theorem zf6.KbK(h:p:=by rw[Lib.run_from_unsafe w ⟨b,0,none⟩ Tryz.underlying184 Tryz.underlying58 hj Su Kk];exact Zf4):p:=h
theorem Hq (b:Nat)(w:World)(h0:w.cell? ⟨b,0,none⟩=some (.pointer none))(Su:w.shape? b=some (63,3))(hfz:w.frozen? ⟨b,0,none⟩=false):
  Calls Tryz.prog 138 #[.pointer (some ⟨b,0,none⟩)] w λ e w'=>e=.returned (.tuple #[])/\w'=w.setCell ⟨b,0,none⟩ (.pointer (some ⟨b,0,none⟩)):=by obtain⟨j,hj,WC⟩:=Option.map_eq_some_iff.1 rj;go_enter Tryz.func138,Tryz.ntmps138;go_wp2_with fail;rw[Lib.run_to_unsafe w ⟨b,0,none⟩ Tryz.underlying58 Tryz.underlying184 hj (by rw[WC];decide) Su (Nat.zero_lt_succ 2)];open zf6 in exact Zds
variable{B:Nat}{bad:Bool}{l:aV}
theorem si.cell0{p:Value}   (h:si B b p bad l w):w.cell? ⟨b,0,none⟩=some p:=by obtain⟨_,v,hb,_⟩:=h;rw[Lib.cell_of_heap hb];rfl
variable{q:Value}
theorem si.used{p:Value}   (h:si B b p bad l w):si B b q bad l (w.setCell ⟨b,0,none⟩ q):=by obtain⟨hB,v,hb,ho,hn,hz⟩:=h;have hlt:=rp hb;exact ZcV
theorem Ns (B b:Nat)(bad:Bool)(l:aV)(w:World)(h:AD B b bad l w):
  Calls Tryz.prog 138 #[.pointer (some ⟨b,0,none⟩)] w λ e w'=>e=.returned (.tuple #[])/\si B b (.pointer (some ⟨b,0,none⟩)) bad l w'/\Below B w w'/\Lib.OthersKept 5 (some b) w w':=by
 rcases h with h | h
 ·have hk:=h;obtain⟨hB,v,hb,ho,hn,hz⟩:=hk;refine(Hq b w h.cell0 (by simp[World.shape?,hb]) (Lib.frozen_of_heap hb 0)).mono ?_;rintro e w' ⟨rfl,rfl⟩;exact⟨rfl,h.used,(Below.refl B w).setCell (p:=⟨b,0,none⟩) h.1 _,(Lib.OthersKept.refl _ _ _).setCell ⟨b,0,none⟩ rfl _⟩
 ·refine(BU b w h.cell0).mono ?_;rintro e w' ⟨rfl,rfl⟩;exact⟨rfl,h,Below.refl B _,Lib.OthersKept.refl _ _ _⟩
theorem zg8.Kb9(h:p:=by
 have adQ:v'.ownBlock≠some b:=Lib.ownBlock_ne hown' hb2 Tab;have hz':l++s.data.toList=[]->v'=.slice none 0 0:=λ h0=>by obtain⟨h1,h2⟩:=List.append_eq_nil_iff.1 h0;exact hnil.2 ⟨hz h1,by have:=congrArg List.length h2;simpa using this⟩
 obtain⟨ao,n',cap,rfl⟩:∃ao n' cap,v'=.slice ao n' cap:=by
  rcases hown'.2 with ⟨hv,_⟩|⟨g,cap,cur,hv,_⟩
  ·exact⟨_,_,_,hv⟩
  ·exact⟨_,_,_,hv⟩
 go_wp2_with fail;go_ret2;refine⟨rfl,⟨hB,.slice ao n' cap,?_,?_,adQ,hz'⟩,?_,(AB.grown hgrow (Lib.ownsRowF_kind (World.ownsRowF_of hown))).setCell ⟨b,1,none⟩ rfl _⟩
 ·simp[World.setCell,Array.getElem?_modify,hb2]
 ·have hc:Lib.byteCells (l++s.data.toList)=Lib.byteCells l++Lib.strCells s:=by simp[Lib.byteCells,Lib.strCells]
  rw[hc,length_append];have e:s.data.toList.length=s.size:=by simp
  rw[e];exact hown'.kept (row:=some b) ⟨rfl,rfl,rfl,by simp[World.setCell],λ k _ hk=>Below.heap_setCell _ _ _ _ (λ e=>hk (by simp[e]))⟩ (Or.inr adQ)
 ·exact(hb1.grown hgrow (by have:=hb1.size;omega) (λ k hk=>(hown.lt k hk).1)).setCell (p:=⟨b,1,none⟩) hB _):p:=h
theorem ziv.KcM(h:p:=by
 go_wp2_with (at_builtin;refine Lib.wpList_append_own_string _ rfl _ _ 59 9 rfl B 5 i0 Tryz.underlying59 Tryz.underlying9 hi hz0 hz1 hz2 _ _ _ rfl hown s rfl ?c3 ?c4 ?c5 ?_);case c3=>unfold maxLen;omega
 case c4=>omega
 case c5=>have:=hb1.size;omega
 intro v' w2 hown' hgrow hnil;have hlt:=rp vH;have hb2:w2.heap[b]?=some (.cells #[.pointer (some ⟨b,0,none⟩),v,.bool bad] 63 (0,0)):=by rw[hgrow.block b hlt (λ e=>hne e.symm)];exact vH
 open zg8 in exact Zew):p:=h
theorem Kl (B b:Nat)(bad:Bool)(l:aV)(s:ByteArray)(w:World)(h:AD B b bad l w)(hlen:l.length+s.size<=140737488355328)(AA:B<=w.heap.size):
  Calls Tryz.prog 83 #[.pointer (some ⟨b,0,none⟩),.string s] w λ e w'=>e=.returned (.tuple #[.int .i64 s.size,.nilIface])/\si B b (.pointer (some ⟨b,0,none⟩)) bad (l++s.data.toList) w'/\Below B w w'/\Lib.OthersKept 5 (some b) w w':=by obtain⟨i0,hi,hz0,hz1,hz2⟩:=info_parts Fk;go_enter Tryz.func83,Tryz.ntmps83;go_wp2_with fail;refine(Ns B b bad l _ h).mono ?_;rintro e w1 ⟨rfl,h1,hb1,AB⟩;obtain⟨hB,v,vH,hown,hne,hz⟩:=h1;open ziv in exact ZgI
theorem Nt (B b:Nat)(p:Value)(bad:Bool)(l:aV)(w:World)(h:si B b p bad l w)(h0:l≠ []):
  Calls Tryz.prog 49 #[.pointer (some ⟨b,0,none⟩)] w λ e w'=>e=.returned (.string ⟨l.toArray⟩)/\Below B w w'/\w'.heap[b]?=w.heap[b]?:=by
 obtain⟨hB,v,vH,hown,hne,hz⟩:=h;have hl0:l.length≠0:=by simpa using h0
 obtain⟨g,cap,cur,rfl,hbg,hg,hnc,hcm,hcs,arH⟩:∃g cap cur,v=.slice (some ⟨g,0,none⟩) l.length cap/\B<=g/\w.heap[g]?=some (.cells cur 5 (0,0))/\l.length<=cap/\cap<=maxLen/\cur.size=cap*1/\cur.toList.take (l.length*1)=Lib.byteCells l:=by
  rcases hown.2 with ⟨_,hz⟩|⟨g,cap,cur,hv,r⟩
  ·exact absurd hz hl0
  ·exact⟨g,cap,cur,hv,r⟩
 have hgb:b≠g:=λ e=>hne (by simp[Value.ownBlock,e])
 have c1:w.drew.cell? ⟨b,1,none⟩=some (.slice (some ⟨g,0,none⟩) l.length cap):=by have:w.drew.heap[b]?=some (.cells #[p,.slice (some ⟨g,0,none⟩) l.length cap,.bool bad] 63 (0,0)):=vH;rw[Lib.cell_of_heap this];rfl
 have hSD:(Builtin.unsafeSliceData_ #[59] 139 #[.slice (some ⟨g,0,none⟩) l.length cap]).run Tryz.prog w.drew=.ok (.pointer (some ⟨g,0,none⟩)) w.drew:=
  Lib.run_unsafeSliceData_row _ _ _ _ _ _ Taa
 have hUS:(Builtin.unsafeString_ #[139,3] 9 #[.pointer (some ⟨g,0,none⟩),.int .i64 l.length]).run Tryz.prog w.drew=.ok (.string ⟨l.toArray⟩) (w.drew.freeze ⟨g,0,none⟩ l.length):=by refine Lib.run_unsafeString_row w.drew 139 3 9 5 Tryz.underlying139 Tac g cur.size (by have Sj:w.drew.heap[g]?=some (.cells cur 5 (0,0)):=hg;simp[World.shape?,Sj]) l h0 Taa (by unfold maxLen at hcm;omega) ?_;intro j x hx;have:=hown.cells (g:=g) rfl j (.int .u8 x.toNat) (by simp[Lib.byteCells,hx]);exact this
 have mixed:Tryz.prog.follows .mixedOrders=true:=by kernel_rfl
 go_enter Tryz.func49,Tryz.ntmps49;go_wp2_with fail;go_region_o;all_goals (go_wp2_with fail;go_ret;exact⟨rfl,Lib.below_freeze (Below.drew (Below.refl B w)) (p:=⟨g,0,none⟩) hbg _,Hp _ _ _ hgb⟩)
theorem Nu (B b:Nat)(p:Value)(bad:Bool)(w:World)(h:si B b p bad [] w):
  Calls Tryz.prog 49 #[.pointer (some ⟨b,0,none⟩)] w λ e w'=>e=.returned (.string ⟨#[]⟩)/\Below B w w'/\w'.heap[b]?=w.heap[b]?:=by
 obtain⟨hB,v,vH,hown,hne,hz⟩:=h;obtain rfl:=hz rfl;have hUS:∀(W:World) (q:Option Addr),(Builtin.unsafeString_ #[139,3] 9 #[.pointer q,.int .i64 0]).run Tryz.prog W=.ok (.string .empty) W:=λ W q=>Lib.run_unsafeString_none W _ _ _ q
 have c1:w.drew.cell? ⟨b,1,none⟩=some (.slice none 0 0):=by have:w.drew.heap[b]?=some (.cells #[p,.slice none 0 0,.bool bad] 63 (0,0)):=vH;rw[Lib.cell_of_heap this];rfl
 have hSD:(Builtin.unsafeSliceData_ #[59] 139 #[.slice none 0 0]).run Tryz.prog w.drew=.ok (.pointer none) w.drew:=rfl;have mixed:Tryz.prog.follows .mixedOrders=true:=by kernel_rfl
 go_enter Tryz.func49,Tryz.ntmps49;go_wp2_with fail;go_region_o;all_goals (go_wp2_with fail;go_ret;exact⟨rfl,Below.drew (Below.refl B w),rfl⟩)
theorem SE (B b:Nat)(bad:Bool)(l:aV)(w:World)(h:AD B b bad l w):
  Calls Tryz.prog 49 #[.pointer (some ⟨b,0,none⟩)] w λ e w'=>e=.returned (.string ⟨l.toArray⟩)/\Below B w w'/\w'.heap[b]?=w.heap[b]?:=by
 obtain⟨p,h⟩:∃p,si B b p bad l w:=by
  rcases h with h | h
  ·exact⟨_,h⟩
  ·exact⟨_,h⟩
 cases l with
 | nil=>exact Nu B b p bad w h
 | cons x r=>exact Nt B b p bad (x::r) w h Tae
variable{w':World}{n:Nat}{e:TypeId}{v:Value}{xs:List Value}
theorem SF{size:Nat}  (h:w.ownsRow B e size v n xs)(hb:Below w.heap.size w w'):w'.ownsRow B e size v n xs:=
 h.kept (row:=none) ⟨hb.os,hb.tape,hb.output,hb.size,λ k hk _=>hb.block k hk⟩ (by cases v.ownBlock <;> simp)
theorem si.later{p:Value}   (h:si B b p bad l w)(hb:Below w.heap.size w w'):si B b p bad l w':=by obtain⟨hB,v,h1,h2,h3,h4⟩:=h;exact⟨hB,v,(hb.block b (rp h1)).trans h1,SF h2 hb,h3,h4⟩
theorem AD.later(h:AD B b bad l w)(hb:Below w.heap.size w w'):AD B b bad l w':=h.imp (·.later hb) (·.later hb)
theorem AD.cells(h:AD B b bad l w):∃p v,w.heap[b]?=some (.cells #[p,v,.bool bad] 63 (0,0)):=by
 rcases h with ⟨_,v,h,_⟩|⟨_,v,h,_⟩
 ·exact⟨_,v,h⟩
 ·exact⟨_,v,h⟩
theorem si.set{p:Value}   (h:si B b p bad l w)(Nv:Bool):si B b p Nv l (w.setCell ⟨b,2,none⟩ (.bool Nv)):=by obtain⟨hB,v,hb,ho,hn,hz⟩:=h;exact ZcV
theorem AD.set(h:AD B b bad l w)(Nv:Bool):AD B b Nv l (w.setCell ⟨b,2,none⟩ (.bool Nv)):=h.imp (·.set Nv) (·.set Nv)
structure cy (B b:Nat) (w w':World):Prop where
 below:Below B w w'
 kept:Lib.OthersKept 5 (some b) w w'
section
variable {B b:Nat} {w w1 w2:World}
theorem cy.refl (w:World):cy B b w w:=⟨Below.refl _ _,Lib.OthersKept.refl _ _ _⟩
theorem cy.trans (h:cy B b w w1)(k:cy B b w1 w2):cy B b w w2:=⟨h.below.trans k.below,h.kept.trans k.kept⟩
theorem cy.aC (h:Below w.heap.size w w1)(hB:B<=w.heap.size):cy B b w w1:=⟨h.mono hB,λ k o hk _ _=>(h.block k (rp hk)).trans hk⟩
theorem cy.size (h:cy B b w w1):w.heap.size<=w1.heap.size:=h.below.size
theorem cy.later (h:cy B b w w1)(k:Below w1.heap.size w1 w2)(hB:B<=w.heap.size):cy B b w w2:=h.trans (.aC k (Nat.le_trans hB h.size))
theorem cy.blk (h:cy B b w w1) {g:Nat} {t:TypeId} {cs:Array Value}(hg:av w g t cs)(hb:g≠b)(ht:t≠5):av w1 g t cs:=
 h.kept g _ hg (λ e=>hb Ta3) (λ c fz e=>ht (by injection e with _ e _))
end
def eI (B b:Nat)(s:Option aV)(n:Nat)(w:World):Prop:=∃bad l,AD B b bad l w/\l.length<=n*2097400/\s=if bad then none else some l
variable{s:Option aV}
theorem eI.later(h:eI B b s n w)(hb:Below w.heap.size w w'):eI B b s n w':=by obtain⟨bad,l,h1,h2,h3⟩:=h;exact⟨bad,l,h1.later hb,h2,h3⟩
variable{m:Nat}
theorem eI.more(h:eI B b s n w)(hm:n<=m):eI B b s m w:=by obtain⟨bad,l,h1,h2,h3⟩:=h;exact⟨bad,l,h1,Nat.le_trans h2 (Nat.mul_le_mul_right _ hm),h3⟩
theorem eI.lt(h:eI B b s n w):B<=b/\b < w.heap.size:=by
 obtain⟨bad,l,h1,h2,h3⟩:=h;obtain⟨p,v,hb⟩:=h1.cells;rcases h1 with h1 | h1
 ·exact⟨h1.1,rp hb⟩
 ·exact⟨h1.1,rp hb⟩
theorem eI.size(h:eI B b s n w):B<=w.heap.size:=by have:=h.lt;omega
def aq (s o:Option aV):Option aV:=s.bind λ t=>o.map (t++ ·)
theorem dm (s:Option aV):aq s (some [])=s:=by cases s <;> simp[aq]
theorem aD (s o p:Option aV):aq (aq s o) p=aq s (aq o p):=by cases s <;> cases o <;> cases p <;> simp[aq]
theorem jC (s:Option aV):aq s none=none:=by cases s <;> rfl
theorem Fo (s t:aV):aq (some s) (some t)=some (s++t):=rfl
def bg (ok:Bool):Option aV:=if ok then some [] else none
def ba (B b:Nat)(s:Option aV)(n:Nat)(w:World)(e:Ending)(w':World):Prop:=e=.returned (.tuple #[])/\eI B b s n w'/\cy B b w w'
theorem bh(ok:Bool)(w:World)(h:eI B b s n w):Calls Tryz.prog 36 #[.pointer (some ⟨b,0,none⟩),.bool ok] w (ba B b (aq s (bg ok)) n w):=by
 have hlt:=h.lt;obtain⟨bad,l,h1,h2,rfl⟩:=h;obtain⟨p,v,hb⟩:=h1.cells;have c2:w.cell? ⟨b,2,none⟩=some (.bool bad):=by rw[Lib.cell_of_heap hb];rfl
 have f2:w.frozen? ⟨b,2,none⟩=false:=Lib.frozen_of_heap hb 2;have hs:aq (if bad then none else some l) (bg ok)=if bad || !ok then none else some l:=by cases bad <;> cases ok <;> simp[aq,bg]
 rw[hs];have H1:=hid (show∀x:Bool,x=(bad || !ok)->ba B b (if bad || !ok then none else some l) n w (.returned (.tuple #[])) (w.setCell ⟨b,2,none⟩ (.bool x))from λ x hx=>by
  subst hx
  exact⟨rfl,⟨_,l,h1.set _,h2,rfl⟩,⟨(Below.refl _ _).setCell (p:=⟨b,2,none⟩) hlt.1 _,(Lib.OthersKept.refl _ _ _).setCell ⟨b,2,none⟩ rfl _⟩⟩)
 clear hs h1 hb;go_enter Tryz.func36,Tryz.ntmps36;cases bad <;> cases ok <;>(go_wp2_with fail;go_end0;exact H1.out _ rfl)
theorem zX (s:ByteArray):s.data.toList.length=s.size:=by simp
def Q9 (ks:List ByteArray):Array Value:=(ks.map Value.string).toArray
def rq:List ByteArray->aV
 | []=> []
 | s::l=>s.data.toList++rq l
theorem Fp:∀(l:List ByteArray) (s:ByteArray),rq (l++ [s])=rq l++s.data.toList
 | [],s=>by simp[rq]
 | a::l,s=>by simp[rq,Fp l s]
variable{i:Nat}
theorem Fq{l:List ByteArray}  {s:ByteArray}(h:l[i]?=some s):rq (l.take (i+1))=rq (l.take i)++s.data.toList:=by rw[take_add_one,h];exact Fp _ _
variable{g:Nat}{ks:List ByteArray}
theorem Fs{s:ByteArray}(h:av w g 9 (Q9 ks))(hs:ks[i]?=some s):w.cell? ⟨g,i,none⟩=some (.string s):=by rw[h.cell];simp[Q9,hs]
theorem xf(ks:List ByteArray)(g k:Nat)(w:World)(h:eI B b s n w)(hk:ks.length=k)(hg:av w g 9 (Q9 ks))(hgb:g≠b)(hsm:k<=10)(hl:∀x∈ks,x.size<=2097400)(hn:n<=50000000):
  Calls Tryz.prog 39 #[.pointer (some ⟨b,0,none⟩),.slice (some ⟨g,0,none⟩) k k] w (ba B b (aq s (some (rq ks))) (n+k) w):=by have hB:=h.size;have HH:=hid h;have HG:=hid hg;have HL:=hid hl;have HK:=hid hk;clear h hg hl hk;go_enter Tryz.func39,Tryz.ntmps39;exact ZaI
theorem aea(ks:List ByteArray)(g k:Nat)(u0:FrameMode)(w:World)(h:eI B b s n w)(hk:ks.length=k)(hg:av w g 9 (Q9 ks))(hgb:g≠b)(hsm:k<=10)(hl:∀x∈ks,x.size<=2097400)(hn:n<=50000000):
  CallsD Tryz.prog 39 #[.pointer (some ⟨b,0,none⟩),.slice (some ⟨g,0,none⟩) k k] u0 w λ e u' w'=>u'=u0/\ba B b (aq s (some (rq ks))) (n+k) w e w':=by have hB:=h.size;have HH:=hid h;have HG:=hid hg;have HL:=hid hl;have HK:=hid hk;clear h hg hl hk;go_enter_d Tryz.func39,Tryz.ntmps39;exact ZaI
def vvV (v:Val):Value:=.agg #[.int .u8 v.k,.int .i64 v.n,.string v.s]
def Val.Ok (a:Val):Prop:= -9223372036854775808<=a.n/\a.n<=9223372036854775807
variable{t:TypeId}
theorem uy{k n:Int} {s:ByteArray}(h:av w g t #[.int .u8 k,.int .i64 n,.string s]):w.cell? ⟨g,0,none⟩=some (.int .u8 k)/\w.cell? ⟨g,1,none⟩=some (.int .i64 n)/\w.cell? ⟨g,2,none⟩=some (.string s):=⟨h.cell 0,h.cell 1,h.cell 2⟩
def rk (s:ByteArray):Bool:=s.toList== []
def good (v:Val):Bool:=
 if v.k=0 then(v.n==0 && rk v.s)else if v.k=1 then(rk v.s &&(v.n==0 || v.n==1))else if v.k=2 then rk v.s else if v.k=3 then v.n==0 else false
theorem xc (v:Val)(w:World):Calls Tryz.prog 89 #[.agg #[.int .u8 v.k,.int .i64 v.n,.string v.s]] w λ e w'=>e=.returned (.bool (good v))/\Below w.heap.size w w':=by
 obtain⟨k,n,s⟩:=v;unfold good rk;dsimp only;by_cases h0:k=0
 ·subst h0;exact Zbz
 ·have e0:(k==0)=false:=by simpa using h0
  by_cases h1:k=1
  ·subst h1;cases hs:(s.toList== [])
   ·exact Zbz
   ·cases hn:(n==0)
    ·exact Zbz
    ·exact Zbz
  ·have e1:(k==1)=false:=by simpa using h1
   by_cases h2:k=2
   ·subst h2;exact Zbz
   ·have e2:(k==2)=false:=by simpa using h2
    by_cases h3:k=3
    ·subst h3;exact Zbz
    ·have e3:(k==3)=false:=by simpa using h3
     exact Zbz
def JI:List UInt8->List UInt8
 | []=> []
 | b::l=>if b=39 then 39::39::JI l else b::JI l
theorem Hm:∀l:List UInt8,(JI l).length<=2*l.length
 | []=>by simp[JI]
 | b::l=>by have:=Hm l;unfold JI;split <;> simp <;> omega
theorem xd:∀s:List UInt8,Lib.replaceK [39] [39,39] (Lib.count s [39]) s=JI s
 | []=>by rfl
 | b::l=>by
   have ih:=xd l;by_cases hb:b=39
   ·subst hb;rw[Lib.count_cons_eq,Nat.add_comm,Lib.replaceK_hit _ _ _ _ 0 (by simp[Lib.index])];simp only[take_zero,nil_append,length_cons,length_nil,Nat.zero_add,drop_succ_cons,drop_zero];rw[ih];simp[JI]
   ·rw[Lib.count_cons_ne _ _ _ hb];cases hk:Lib.count l [39] with
    | zero=>rw[hk] at ih;simp only[Lib.replaceK] at ih ⊢;simp[JI,hb,<- ih]
    | succ k=>
      obtain⟨i,hi⟩:=Lib.index_of_count (s:=l) (old:=[39]) Taa;rw[hk,Lib.replaceK_hit _ _ _ _ i hi] at ih;have ME:Lib.index (b::l) [39]=((i+1:Nat):Int):=by
       have hne:(39:UInt8)≠b:=λ e=>hb e.symm
       simp[Lib.index,List.isPrefixOf,hne,hi]
      rw[Lib.replaceK_hit _ _ _ _ (i+1) ME];simp only[take_succ_cons,cons_append,length_cons,length_nil,Nat.zero_add] at ih ⊢;rw[show i+1+1=(i+1)+1 from rfl,drop_succ_cons,ih];simp[JI,hb]
theorem Cb (s:List UInt8):Lib.replaceAll s [39] [39,39]=JI s:=by unfold Lib.replaceAll Lib.replace;rw[if_neg Tab];unfold Lib.replaceNum;rw[if_pos (.inl Tab)];exact xd s
def Hn (w:World):Prop:=Lib.TabIs Tryz.prog w "internal/strconv.uint64pow10" .u64 Lib.pow10Tab/\∃m,w.cell? ⟨6,0,none⟩=some (.int .i64 m)
theorem Hn.later(h:Hn w)(hb:Below w.heap.size w w'):Hn w':=by obtain⟨h1,m,h2⟩:=h;exact⟨Fj h1 hb,m,(hb.cell (ax h2)).trans h2⟩
theorem WS (e:Bool)(k:Int)(w:World):(Instr.checkKey e 10000 5 (.int .u8 k)).run Tryz.prog w=.ok () w:=
 MapKept.run_checkKey Tryz.underlying5 Taw e 9999
theorem Ho (w:World)(g:Nat)(es:Array MapEntry)(c:Nat)(hg:w.heap[g]?=some (.map es c))(k:Int)(v:Value)(hf:Instr.findNow (.int .u8) (.int .u8 k) es.toList 0=some none):
  (Instr.mapUpdate 168 (.map (some g)) (.int .u8 k) v).run Tryz.prog w=.ok () (fo w g (es.push ⟨.int .u8 k,v,c⟩) (c+1)):=by unfold Instr.mapUpdate;simp only[Sem.run_bind,run_underlying Tryz.underlying168,Result.andThen_ok,MapKept.run_getObj_map hg,WS,Instr.findKey,run_underlying Tryz.underlying5,hf,Sem.run_pure,MapKept.run_setObj_map _ hg];rfl
theorem WT (w:World)(g:Nat)(es:Array MapEntry)(c:Nat)(hg:w.heap[g]?=some (.map es c))(k:Int)(i:Nat)(v:Value)(hf:Instr.findNow (.int .u8) (.int .u8 k) es.toList 0=some (some (i,v))):
  (Instr.lookup 168 (.map (some g)) (.int .u8 k) false).run Tryz.prog w=.ok v w:=by unfold Instr.lookup;simp only[Sem.run_bind,run_underlying Tryz.underlying168,Result.andThen_ok,MapKept.run_getObj_map hg,WS,Instr.findKey,run_underlying Tryz.underlying5,hf,Sem.run_pure];rfl
def Kj:Nat->FuncId
 | 0=>167
 | 1=>168
 | 2=>169
 | _=>170
def eH (k:Nat):Value:=.func (.func (Kj k)) #[] #[]
def yQ:Array MapEntry:= #[⟨.int .u8 0,eH 0,0⟩,⟨.int .u8 1,eH 1,1⟩,⟨.int .u8 2,eH 2,2⟩,⟨.int .u8 3,eH 3,3⟩]
def uz (w:World)(v:Value):Prop:=∃g,v=.map (some g)/\w.heap[g]?=some (.map yQ 4)
theorem uz.later(h:uz w v)(hb:Below w.heap.size w w'):uz w' v:=by
 obtain⟨g,rfl,h⟩:=h;refine⟨g,rfl,?_⟩;rcases Nat.lt_or_ge g w.heap.size with hlt | EX
 ·exact(hb.block g hlt).trans h
 ·exact ZgM
theorem Sz (w:World):Calls Tryz.prog 140 #[] w λ e w'=>∃v,e=.returned v/\uz w' v/\Below w.heap.size w w':=by
 have N8:= @run_makeMap Tryz.prog;have h0:(w.alloc (.map #[] 0)).heap[w.heap.size]?=some (.map #[] 0):=heap_alloc_new w _;have i0:=Ho (w.alloc (.map #[] 0)) w.heap.size #[] 0 h0 0 (eH 0) rfl;have h1:=nO (es':= #[⟨.int .u8 0,eH 0,0⟩]) (c':=1) h0;have i1:=Ho _ w.heap.size _ _ h1 1 (eH 1) rfl;have h2:=nO (es':= #[⟨.int .u8 0,eH 0,0⟩,⟨.int .u8 1,eH 1,1⟩]) (c':=2) h1;have i2:=Ho _ w.heap.size _ _ h2 2 (eH 2) rfl;have h3:=nO (es':= #[⟨.int .u8 0,eH 0,0⟩,⟨.int .u8 1,eH 1,1⟩,⟨.int .u8 2,eH 2,2⟩]) (c':=3) h2;have i3:=Ho _ w.heap.size _ _ h3 3 (eH 3) rfl;have h4:=nO (es':=yQ) (c':=4) h3;have H4:=hid h4;clear h4;simp only[push_toArray,nil_append,cons_append,Nat.reduceAdd,Nat.zero_add] at i0 i1 i2 i3;simp only[eH,Kj] at i0 i1 i2 i3 H4;clear h0 h1 h2 h3;have hB:=lj (lj (lj (lj (aa w (.map #[] 0)) w.heap.size (Nat.le_refl _) #[⟨.int .u8 0,eH 0,0⟩] 1) w.heap.size (Nat.le_refl _) #[⟨.int .u8 0,eH 0,0⟩,⟨.int .u8 1,eH 1,1⟩] 2) w.heap.size (Nat.le_refl _) #[⟨.int .u8 0,eH 0,0⟩,⟨.int .u8 1,eH 1,1⟩,⟨.int .u8 2,eH 2,2⟩] 3) w.heap.size (Nat.le_refl _) yQ 4;have HB:=hid hB;clear hB;go_enter Tryz.func140,Tryz.ntmps140;go_wp2_with fail;refine bodyPost_ret (v:=.map (some w.heap.size)) ?_ rfl ?_
 ·simp[results,Tryz.results140,go_sem]
 ·exact⟨_,rfl,⟨_,rfl,H4.out⟩,HB.out⟩
def lV (v:Val):List UInt8:=
 if good v then(if v.k=0 then [78,85,76,76] else if v.k=1 then(if v.n=1 then [84,82,85,69] else [70,65,76,83,69])else if v.k=2 then Lib.itoa v.n else 39::(JI v.s.data.toList++ [39]))else [63]
theorem Nn (v:Val)(w:World):Calls Tryz.prog 167 #[.agg #[.int .u8 v.k,.int .i64 v.n,.string v.s]] w λ e w'=>e=.returned (strOf [78,85,76,76])/\Below w.heap.size w w':=by go_enter Tryz.func167,Tryz.ntmps167;exact Zc1
theorem SA (v:Val)(w:World)(h:v.n=0):Calls Tryz.prog 168 #[.agg #[.int .u8 v.k,.int .i64 v.n,.string v.s]] w λ e w'=>e=.returned (strOf [70,65,76,83,69])/\Below w.heap.size w w':=by exact ZbD
theorem Np (v:Val)(w:World)(h:v.n=1):Calls Tryz.prog 168 #[.agg #[.int .u8 v.k,.int .i64 v.n,.string v.s]] w λ e w'=>e=.returned (strOf [84,82,85,69])/\Below w.heap.size w w':=by exact ZbD
theorem Cc (w:World)(k:Nat)(os:Array Obj):Below w.heap.size w («Sort».grow (w.drewN k) os):=by
 have h:=cE w k;refine⟨h.os,h.tape,h.output,?_,λ i hi=>?_⟩
 ·have:=h.size;simp[«Sort».grow]
 ·rw[<- h.block i hi];have:=h.size;simp only[«Sort».grow];rw[Array.getElem?_append_left Taa]
theorem ziQ.KcW(h:p:=by refine(Tryz.strconv_FormatInt_10 v.n hv.1 hv.2 W (hE.later bb).1).mono ?_;rintro e w1 ⟨rfl,k,os,rfl⟩;have b1:=Cc W k os;generalize «Sort».grow (W.drewN k) os=W1 at*;go_wp2_with fail;go_ret;exact⟨rfl,af.then bb b1⟩):p:=h
theorem Nq (v:Val)(hv:v.Ok)(w:World)(hE:Hn w):Calls Tryz.prog 169 #[.agg #[.int .u8 v.k,.int .i64 v.n,.string v.s]] w λ e w'=>e=.returned (strOf (Lib.itoa v.n))/\Below w.heap.size w w':=by go_enter Tryz.func169,Tryz.ntmps169;open ziQ in exact Zg9
theorem quoted (E:List UInt8):(⟨#[39]⟩:ByteArray)++⟨E.toArray⟩++⟨#[39]⟩=⟨(39::(E++ [39])).toArray⟩:=by apply ByteArray.ext;simp
theorem ziR.KcW(h:p:=by
 obtain⟨m,hm⟩:=(hE.later bb).2;refine(Tryz.strings_ReplaceAll v.s ⟨#[39]⟩ ⟨#[39,39]⟩ m W hs hm Tab ?_).mono ?_
 ·have:=Lib.count_le v.s.data.toList [39];have h2:Lib.countB v.s ⟨#[39]⟩<=v.s.size+1:=by simpa using this
  have h3:(⟨#[39,39]⟩:ByteArray).size=2:=rfl;rw[h3];omega
 rintro e w1 ⟨rfl,b1⟩;simp only[Cb];have hl:=Hm v.s.data.toList;have hl2:v.s.data.toList.length=v.s.size:=by simp
 have t1:(JI v.s.data.toList).length<=8589934562:=by omega
 clear hl hl2;have HQ:=hid (quoted (JI v.s.data.toList));generalize hEq:JI v.s.data.toList=E at*;have HE:=hid hEq;clear hEq;have n1:=decide_eq_false (show¬9223372036854775807 < 1+E.length by omega);go_wp2_with fail;go_ret;exact⟨by rw[HE.out];exact congrArg (λ x=>Ending.returned (.string x)) HQ.out,af.then bb b1⟩):p:=h
theorem Nr (v:Val)(hs:v.s.size < 4294967281)(w:World)(hE:Hn w):Calls Tryz.prog 170 #[.agg #[.int .u8 v.k,.int .i64 v.n,.string v.s]] w λ e w'=>e=.returned (strOf (39::(JI v.s.data.toList++ [39])))/\Below w.heap.size w w':=by go_enter Tryz.func170,Tryz.ntmps170;open ziR in exact Zg9
def wdV (g:Nat)(v:Val)(K:Nat):Nat->World->Value->Prop
 | 0,w,u=>uz w u
 | 1,_,u=>u=.pointer (some ⟨g,0,none⟩)
 | 2,_,u=>u=.int .u8 K
 | 3,_,u=>u=eH K
 | 4,_,u=>u=vvV v
 | _,_,_=>False
theorem SB (g:Nat)(v:Val)(K:Nat):∀i w w' u,wdV g v K i w u->af w w'->wdV g v K i w' u:=by
 intro i w w' u h hl
 match i with
 | 0=>exact uz.later h hl
 | 1=>exact h
 | 2=>exact h
 | 3=>exact h
 | 4=>exact h
 | _+5=>exact h
def Ce (l:List UInt8)(w:World)(e:Ending)(w':World):Prop:=e=.returned (strOf l)/\Below w.heap.size w w'
theorem Q8 (v:Val)(K:Nat)(hK:K<=3)(hk:v.k=K)(hg:good v=true)(hv:v.Ok)(hs:v.s.size < 4294967281)(w:World)(hE:Hn w):Calls Tryz.prog (Kj K) #[vvV v] w (Ce (lV v) w):=by
 unfold lV Ce;rw[if_pos hg]
 match K with
 | 0=>rw[if_pos TaB];exact Nn v w
 | 1=>
   rw[if_neg TaC,if_pos TaB];by_cases hn:v.n=1
   ·rw[if_pos hn];exact Np v w hn
   ·rw[if_neg hn];refine SA v w ?_;unfold good at hg;rw[if_neg TaC,if_pos TaB] at hg;simp only[Bool.and_eq_true,Bool.or_eq_true,beq_iff_eq] at hg;exact hg.2.resolve_right hn
 | 2=>rw[if_neg TaC,if_neg TaC,if_pos TaB];exact Nq v hv w hE
 | 3=>rw[if_neg TaC,if_neg TaC,if_neg TaC];exact Nr v hs w hE
 | _+4=>omega
theorem SC (K:Nat)(hK:K<=3):Instr.findNow (.int .u8) (.int .u8 K) yQ.toList 0=some (some (K,eH K)):=by
 match K with
 | 0=>rfl
 | 1=>rfl
 | 2=>rfl
 | 3=>rfl
 | _+4=>omega
theorem SD{v:Val}(h:good v=true):∃K:Nat,K<=3/\v.k=K:=by
 unfold good at h;by_cases h0:v.k=0
 ·exact⟨0,by omega,by simpa using h0⟩
 ·by_cases h1:v.k=1
  ·exact⟨1,by omega,by simpa using h1⟩
  ·by_cases h2:v.k=2
   ·exact⟨2,by omega,by simpa using h2⟩
   ·by_cases h3:v.k=3
    ·exact⟨3,by omega,by simpa using h3⟩
    ·simp[h0,h1,h2,h3] at h
theorem zhF.Kcp(h:p:=by go_ret;exact⟨by rw[HW.out];rfl,af.then bb b1⟩):p:=h
theorem zhG.Kcp(h:p:=by
 have hB1:=af.then bb b1;have aio:=vH.later b1;refine cM 5 (wdV w.heap.size v K) (SB _ _ _) Tac Tac Tac ?_ ?_
 ·simp only[take_succ_cons,take_zero];refine⟨?_,?_,?_,?_,?_,trivial⟩
  ·intro ρ w3 hc hL hr;have e1:=hc.func 140;refine dG (f:=140) (args:= #[]) (w':=w3) (by simp[go_sem,e1]) ?_;refine(Sz w3).mono ?_;rintro e w4 ⟨u,rfl,hu,b4⟩;exact⟨_,rfl,b4,hu⟩
  ·intro ρ w3 hc hL hr;have h1:_=_:=hr.1;exact ae (w':=w3) (by simp[go_sem,h1]) ⟨af.refl _,rfl⟩
  ·intro ρ w3 hc hL hr;have h1:_=_:=hr.1;have c0:=(aio.later hL).cell 0;simp only[Uaa] at c0;exact ae (v:=.int .u8 v.k) (w':=w3) (by simp[go_sem,h1,c0]) ⟨af.refl _,by rw[HK.out];rfl⟩
  ·intro ρ w3 hc hL hr;obtain⟨g,h1,hg1⟩:∃g,ρ (.tmp 6)=.map (some g)/\w3.heap[g]?=some (.map yQ 4):=hr.1;have h2:_=_:=hr.2.1;have lk:=WT w3 g yQ 4 hg1 K K (eH K) (SC K hK);exact ae (w':=w3) (by simp[go_sem,h1,h2,lk]) ⟨af.refl _,rfl⟩
  ·intro ρ w3 hc hL hr;have h1:_=_:=hr.1;have c0:=uy (aio.later hL);exact ae (w':=w3) (by simp[go_sem,h1,c0,vvV]) ⟨af.refl _,rfl⟩
 ·intro w3 hL;simp only[Uab];intro a0 h0 a1 h1 a2 h2 a3 h3 a4 h4;have h3:eH K=a3:=Eq.symm h3;have h4:vvV v=a4:=Eq.symm h4;subst h3 h4;clear h0 h1 h2;have hE3:=(hE.later hB1).later hL;have hB3:=af.then hB1 hL;have hf:=Q8 v K hK HK.out hg hv hs w3 hE3;clear hE hE3;have jn:K=0\/K=1\/K=2\/K=3:=by omega
  rcases jn with rfl | rfl | rfl | rfl;all_goals
   simp only[Kj,vvV] at hf;simp only[cU,Act.put,Uac,eH,Kj,vvV];go_wp2_with fail;refine hf.mono ?_;rintro e w4 ⟨rfl,b4⟩;go_wp2_with fail;go_ret;exact⟨rfl,af.then hB3 b4⟩):p:=h
theorem Fm (v:Val)(hv:v.Ok)(hs:v.s.size < 4294967281)(w:World)(hE:Hn w):Calls Tryz.prog 90 #[.agg #[.int .u8 v.k,.int .i64 v.n,.string v.s]] w (Ce (lV v) w):=by
 have vH:=av.new w 32 #[.int .u8 v.k,.int .i64 v.n,.string v.s];have bb:=aa w (.cells #[.int .u8 v.k,.int .i64 v.n,.string v.s] 32);cases hg:good v
 ·have HW:=hid (show lV v=[63] by unfold lV;rw[hg];rfl);open zhF in exact Zfg
 ·obtain⟨K,hK,hk⟩:=SD hg;have HK:=hid hk;clear hk;open zhG in exact Zfg
def dM:List (Option aV)->Option aV
 | []=>some []
 | o::l=>aq o (match l with | []=>some [] | p::r=>aq (some [44,32]) (dM (p::r)))
theorem pX (o:Option aV):dM [o]=o:=dm o
theorem oa (o p:Option aV)(l:List (Option aV)):dM (o::p::l)=aq o (aq (some [44,32]) (dM (p::l))):=by rw[dM]
theorem Cl (q:Option aV):∀(l:List (Option aV)),l≠ []->dM (l++ [q])=aq (dM l) (aq (some [44,32]) q)
 | [],h=>absurd rfl h
 | [o],_=>by show dM (o::q:: [])=_;rw[oa,pX,pX]
 | o::p::l,_=>by show dM (o::p::(l++ [q]))=_;have ih:=Cl q (p::l) Tae;rw[oa,oa,show p::(l++ [q])=(p::l)++ [q] from rfl,ih];simp only[aD]
def dC (l:List (Option aV)):Option aV:=aq (bg (decide (0 < l.length)&& decide (l.length<=64))) (dM l)
def oP (v:Val):Bool:=v.k==0 &&(v.n==0 && v.s.toList== [])
def tj (n:Int):Option aV:=aq (bg (decide (0<=n))) (some (Lib.itoa n))
def dx (s:ByteArray):Option aV:=aq (bg (pR s.data.toList)) (some s.data.toList)
def pH (op:Int):aV:=if op=5 then [43] else if op=6 then [45] else if op=7 then [42] else if op=8 then [47] else if op=9 then [37] else if op=10 then [61] else if op=11 then [60,62] else if op=12 then [60] else if op=13 then [60,61] else if op=14 then [62] else if op=15 then [62,61] else if op=16 then [65,78,68] else if op=17 then [79,82] else []
def dc (op:Int):Bool:=decide (5<=op)&& decide (op<=17)
def iY (op:Int):Bool:=op==3 ||(op==4 ||(op==18 ||(op==19 || dc op)))
def nB (op:Int):aV×Nat:=if op=20 then([98,117,99,107,101,116],1)else if op=22 then([99,111,117,110,116],1)else if op=23 then([115,117,109],1)else if op=24 then([109,105,110],1)else if op=25 then([109,97,120],1)else if op=26 then([97,118,103],1)else if op=27 then([102,105,114,115,116],2)else if op=28 then([108,97,115,116],2)else([],0)
def kQ (op:Int):Bool:=op==20 || decide (22<=op)&& decide (op<=28)
def jO (a:Int×Option aV):Option aV:=if iY a.1 then aq (some [40]) (aq a.2 (some [41]))else a.2
def bF (v:Val)(name:ByteArray)(width:Int):Bool:=oP v &&(name.toList== [] && width==0)
def od (op:Int)(v:Val)(name:ByteArray)(width:Int)(l:List (Int×Option aV)):Option aV:=
 if op=1 then aq (bg (l.length==0 &&(name.toList== [] &&(width==0 &&(good v &&(v.k != 2 || decide (0<=v.n))))))) (some (lV v))
 else if op=2 then aq (bg (l.length==0 &&(oP v && width==0))) (dx name)
 else if op=21 then aq (bg (l.length==0 && bF v name width)) (some [99,111,117,110,116,40,42,41])
 else if dc op then match l with
  | [x,y]=>if bF v name width then aq (jO x) (aq (some (32::(pH op++ [32]))) (jO y))else none
  | _=>none
 else if op=3 then match l with
  | [x]=>if bF v name width then aq (some [45,32]) (jO x)else none
  | _=>none
 else if op=4 then match l with
  | [x]=>if bF v name width then aq (some [78,79,84,32]) (jO x)else none
  | _=>none
 else if op=18 then match l with
  | [x]=>if bF v name width then aq (jO x) (some [32,73,83,32,78,85,76,76])else none
  | _=>none
 else if op=19 then match l with
  | [x]=>if bF v name width then aq (jO x) (some [32,73,83,32,78,79,84,32,78,85,76,76])else none
  | _=>none
 else if kQ op && l.length==(nB op).2 then
  aq (bg (oP v &&(name.toList== [] &&(op==20 || width==0)))) (aq (some ((nB op).1++ [40])) (aq (if op=20 then aq (tj width) (some [44,32])else some []) (aq (dM (l.map (·.2))) (some [41]))))
 else none
def Tr.op:Tr->Int
 | .mk op _ _ _ _=>op
mutual
def Tr.out:Tr->Option aV
 | .mk op v name width args=>od op v name width (Tr.outs args)
def Tr.outs:List Tr->List (Int×Option aV)
 | []=> []
 | t::ts=>(t.op,t.out)::Tr.outs ts
end
theorem Cm:∀ts:List Tr,Tr.outs ts=ts.map λ t=>(t.op,t.out)
 | []=>rfl
 | t::ts=>by simp[Tr.outs,Cm ts]
def Tr.whole (t:Tr):Option aV:=if 32 < t.depth then none else t.out
def eh (word:aV)(l:List Tr):Option aV:=aq (bg (decide (l.length<=1))) (match l with | []=>some [] | t::_=>aq (some (32::(word++ [32]))) t.whole)
def pd (x:Tr×ByteArray):Option aV:=aq x.1.whole (if x.2.toList=[] then some [] else aq (some [32,65,83,32]) (dx x.2))
def jq (x:Tr×Bool):Option aV:=aq x.1.whole (if x.2 then some [32,68,69,83,67] else some [])
def za (l:List Int):Option aV:=aq (bg (decide (l.length<=1))) (match l with | []=>some [] | n::_=>aq (some [32,76,73,77,73,84,32]) (tj n))
def iP (lead:aV)(l:List (Option aV)):Option aV:=if l.length=0 then some [] else aq (some lead) (dC l)
def jr (q:Qu):Option aV:=
 aq (some [83,69,76,69,67,84,32]) (aq (if q.items.length=0 then some [42] else dC (q.items.map pd)) (aq (some [32,70,82,79,77,32]) (aq (some (if q.only then [79,78,76,89,32] else [])) (aq (dx q.aK) (aq (eh [87,72,69,82,69] q.aR) (aq (iP [32,71,82,79,85,80,32,66,89,32] (q.group.map Tr.whole)) (aq (eh [72,65,86,73,78,71] q.having) (aq (iP [32,79,82,68,69,82,32,66,89,32] (q.order.map jq)) (za q.aG)))))))))
def xi (v:Val):Option aV:=aq (bg (v.k==0 || v.k==2 && decide (-9223372036854775808 < v.n))) (aq (bg (good v)) (some (lV v)))
def R4 (q:Qu):Bool:=decide (q.items.length+q.aR.length+q.group.length+q.having.length+q.order.length+q.aG.length=0)&&(q.aK.toList== [] && !q.only)
def dJ (s:St)(c q j w e r u h t:Bool):Bool:=
 (c || s.aJ.length==0 && s.time.toList== [] && s.space.toList== [] && s.parts==0)&&(e || s.every==0)&&(q || R4 s.query)&&(w || s.what==0)&&(j || s.cr.toList== [] && s.a==0 && s.b==0)&&(r || s.rows.length==0)&&(u || s.aS.length==0)&&(h || s.aR.length==0)&&(t || oP s.aK && oP s.cP)
def WZ (t:Int):aV:=if t=1 then [66,79,79,76] else if t=2 then [73,78,84] else if t=3 then [84,69,88,84] else []
def Eu (c:ByteArray×Int):Option aV:=aq (dx c.1) (aq (bg (decide (1<=c.2)&& decide (c.2<=3))) (some (32::WZ c.2)))
def Cn (x:ByteArray×Tr):Option aV:=aq (dx x.1) (aq (some [32,61,32]) x.2.whole)
def AE (l:List Tr):Option aV:=aq (some [40]) (aq (dC (l.map Tr.whole)) (some [41]))
def og (s:St):Option aV:=
 aq (bg (dJ s true false false false true false false false false)) (aq (some [67,82,69,65,84,69,32,84,65,66,76,69,32]) (aq (dx s.name) (aq (some [32,40]) (aq (dC (s.aJ.map Eu)) (aq (some [41,32,84,73,77,69,32]) (aq (dx s.time) (aq (some [32,69,86,69,82,89,32]) (aq (tj s.every)
  (if s.space.toList=[] then bg (s.parts==0)else aq (some [32,83,80,65,67,69,32]) (aq (dx s.space) (aq (some [32,73,78,84,79,32]) (tj s.parts))))))))))))
def xj (k:Int):aV:=if k=9 then [82,69,70,82,69,83,72] else if k=10 then [67,79,77,80,82,69,83,83] else if k=12 then [68,82,79,80] else []
def Co (s:St):Option aV:=
 aq (bg (dJ s false false true true true false false false false)) (aq (some [67,82,69,65,84,69,32,74,79,66,32]) (aq (dx s.name) (aq (bg (!(xj s.what== []))) (aq (some (32::(xj s.what++ [32]))) (aq (dx s.cr) (aq
  (if s.what=9 then aq (some [32,70,82,79,77,32]) (aq (tj s.a) (aq (some [32,84,79,32]) (tj s.b)))else aq (bg (s.b==0)) (aq (some [32,65,70,84,69,82,32]) (tj s.a))) (aq (some [32,69,86,69,82,89,32]) (tj s.every))))))))
def pY (k:Int):aV:=if k=1 then [84,65,66,76,69] else if k=2 then [86,73,69,87] else if k=3 then [74,79,66] else []
def Xa (k:Int):aV:=if k=9 then [114,101,102,114,101,115,104] else if k=10 then [99,111,109,112,114,101,115,115] else if k=11 then [100,101,99,111,109,112,114,101,115,115] else if k=12 then [100,114,111,112,95,99,104,117,110,107,115] else []
def cF (s:St):Option aV:=
 if s.kind=1 then og s
 else if s.kind=3 then Co s
 else if s.kind=2 then aq (bg (dJ s false true false false false false false false false)) (aq (some [67,82,69,65,84,69,32,86,73,69,87,32]) (aq (dx s.name) (aq (some [32,65,83,32]) (jr s.query))))
 else if s.kind=4 then aq (bg (!(pY s.what== [])&& dJ s false false false true false false false false false)) (aq (some ([68,82,79,80,32]++pY s.what++ [32])) (dx s.name))
 else if s.kind=5 then aq (bg (dJ s false false false false false true false false false)) (aq (some [73,78,83,69,82,84,32,73,78,84,79,32]) (aq (dx s.name) (aq (some [32,86,65,76,85,69,83,32]) (dC (s.rows.map AE)))))
 else if s.kind=6 then aq (bg (dJ s false false false false false false true true false)) (aq (some [85,80,68,65,84,69,32]) (aq (dx s.name) (aq (some [32,83,69,84,32]) (aq (dC (s.aS.map Cn)) (eh [87,72,69,82,69] s.aR)))))
 else if s.kind=7 then aq (bg (dJ s false false false false false false false true false)) (aq (some [68,69,76,69,84,69,32,70,82,79,77,32]) (aq (dx s.name) (eh [87,72,69,82,69] s.aR)))
 else if s.kind=8 then aq (bg (dJ s false true false false false false false false false && s.name.toList== [])) (jr s.query)
 else if 9<=s.kind/\s.kind<=12 then
  aq (bg (dJ s false false false false false false false false true)) (aq (some ([67,65,76,76,32]++Xa s.kind++ [40])) (aq (dx s.name) (aq (some [44,32]) (aq (if s.kind=9 then aq (xi s.aK) (some [44,32])else bg (oP s.aK)) (aq (xi s.cP) (some [41]))))))
 else none
def pZ (o:Option aV):aV×Int:=match o with
 | none=>([],21)
 | some t=>if 4096 < t.length then([],2)else(t,0)
def vQ (s:St):aV×Int:=pZ (cF s)
def ait (t:Tr):aV×Int:=pZ t.whole
structure dy (w:World):Prop where
 lex:kX w
 val:Hn w
variable{w0 W:World}
theorem dy.env(h:dy w0)(hw:Below w0.heap.size w0 W):Env w0.heap.size W:=⟨w0,h.lex,rfl,hw⟩
theorem dy.aiv(h:dy w0)(hw:Below w0.heap.size w0 W):Hn W:=h.val.later hw
section
variable {w0:World} {b:Nat} {s:Option aV} {n:Nat}
theorem cA (t:ByteArray)(w:World)(h:eI w0.heap.size b s n w)(hl:t.size<=2097400)(hn:n<=50000000):
  Calls Tryz.prog 39 #[.pointer (some ⟨b,0,none⟩),.slice (some ⟨w.heap.size,0,none⟩) 1 1] (w.alloc (.cells #[.string t] 9)) λ e w'=>e=.returned (.tuple #[])/\eI w0.heap.size b (aq s (some t.data.toList)) (n+1) w'/\cy w0.heap.size b w w':=by have bm:=aa w (.cells #[.string t] 9);have hlt:=h.lt;refine(xf [t] w.heap.size 1 _ (h.later bm) rfl (av.new w _ _) Taa Taa (by intro x hx;simp at hx;subst hx;exact hl) hn).mono ?_;exact Zdw
theorem Xc (t u:ByteArray)(w:World)(h:eI w0.heap.size b s n w)(hl:t.size<=2097400)(hu:u.size<=2097400)(hn:n<=50000000):
  Calls Tryz.prog 39 #[.pointer (some ⟨b,0,none⟩),.slice (some ⟨w.heap.size,0,none⟩) 2 2] (w.alloc (.cells #[.string t,.string u] 9)) λ e w'=>e=.returned (.tuple #[])/\eI w0.heap.size b (aq s (some (t.data.toList++u.data.toList))) (n+2) w'/\cy w0.heap.size b w w':=by have bm:=aa w (.cells #[.string t,.string u] 9);have hlt:=h.lt;refine(xf [t,u] w.heap.size 2 _ (h.later bm) rfl (av.new w _ _) Taa Taa (by intro x hx;simp at hx;rcases hx with rfl | rfl <;> assumption) hn).mono ?_;exact Zdw
theorem Cs (t u v:ByteArray)(w:World)(h:eI w0.heap.size b s n w)(hl:t.size<=2097400)(hu:u.size<=2097400)(hv:v.size<=2097400)(hn:n<=50000000):
  Calls Tryz.prog 39 #[.pointer (some ⟨b,0,none⟩),.slice (some ⟨w.heap.size,0,none⟩) 3 3] (w.alloc (.cells #[.string t,.string u,.string v] 9)) λ e w'=>e=.returned (.tuple #[])/\eI w0.heap.size b (aq s (some (t.data.toList++(u.data.toList++v.data.toList)))) (n+3) w'/\cy w0.heap.size b w w':=by have bm:=aa w (.cells #[.string t,.string u,.string v] 9);have hlt:=h.lt;refine(xf [t,u,v] w.heap.size 3 _ (h.later bm) rfl (av.new w _ _) Taa Taa (by intro x hx;simp at hx;rcases hx with rfl | rfl | rfl <;> assumption) hn).mono ?_;exact Zdw
theorem ey (hE:dy w0)(t:ByteArray)(w:World)(h:eI w0.heap.size b s n w)(hw:Below w0.heap.size w0 w)(hs:t.size<=1048576)(hn:n<=50000000):
  Calls Tryz.prog 46 #[.pointer (some ⟨b,0,none⟩),.string t] w (ba w0.heap.size b (aq s (dx t)) (n+1) w):=by have HE:=hid (hE.env hw);have HH:=hid h;clear h hE;go_enter Tryz.func46,Tryz.ntmps46;go_wp2_with fail;refine(WO t w HE.out Taa).mono ?_;rintro e w1 ⟨rfl,b1⟩;have H1:=hid (HH.out.later b1);have D1:=hid (cy.aC (b:=b) b1 HH.out.size);clear b1 hw;go_wp2_with fail;refine(bh _ w1 H1.out).mono ?_;rintro e w2 ⟨rfl,h2,d2⟩;have H2:=hid h2;have D2:=hid (D1.out.trans d2);clear h2 d2 D1 H1;go_wp2_with fail;refine(cA t w2 H2.out Taa hn).mono ?_;rintro e w3 ⟨rfl,h3,d3⟩;have H3:=hid h3;have D3:=hid (D2.out.trans d3);clear h3 d3 D2 H2;go_wp2_with fail;go_end0;refine⟨rfl,?_,D3.out⟩;have:=H3.out;rwa [aD] at this
theorem Xd (k:Int)(h0: -9223372036854775808<=k)(h1:k<=9223372036854775807):(Lib.itoa k).length<=21:=Lib.itoa_length_le k h0 h1
theorem gD (hE:dy w0)(k:Int)(h0: -9223372036854775808<=k)(h1:k<=9223372036854775807)(w:World)(h:eI w0.heap.size b s n w)(hw:Below w0.heap.size w0 w)(hn:n<=50000000):
  Calls Tryz.prog 81 #[.pointer (some ⟨b,0,none⟩),.int .i64 k] w (ba w0.heap.size b (aq s (tj k)) (n+1) w):=by have HV:=hid hE.val;have HH:=hid h;clear h hE;have GV:=Xd k h0 h1;go_enter Tryz.func81,Tryz.ntmps81;go_wp2_with fail;refine(bh _ w HH.out).mono ?_;rintro e w2 ⟨rfl,h2,d2⟩;have H2:=hid h2;have D2:=hid d2;have hw2:=hw.trans d2.below;clear h2 d2 HH;go_wp2_with fail;refine(Tryz.strconv_FormatInt_10 k h0 h1 w2 (HV.out.later hw2).1).mono ?_;rintro e w1 ⟨rfl,q,os,rfl⟩;have b1:=Cc w2 q os;generalize «Sort».grow (w2.drewN q) os=W1 at*;have H3:=hid (H2.out.later b1);have D3:=hid (D2.out.later b1 (Nat.le_trans H2.out.size (Nat.le_refl _)|> λ _=>hw.size));clear b1 H2 D2 hw2;go_wp2_with fail;refine(cA ⟨(Lib.itoa k).toArray⟩ W1 H3.out (by show(Lib.itoa k).toArray.size<=_;simp;omega) hn).mono ?_;rintro e w3 ⟨rfl,h3,d3⟩;have H4:=hid h3;have D4:=hid (D3.out.trans d3);clear h3 d3 D3 H3;go_wp2_with fail;go_end0;refine⟨rfl,?_,D4.out⟩;have:=H4.out;rwa [aD] at this
end
end Go.Proofs.YtehhdlgjfdnafaaGreatDoor
