/- Parts of the proof. -/
import Derived.LaidMore
import Derived.Stop.Joined
import Derived.HandedShaped
import Derived.Test.YtcneefmaghoejaaGreatDoorRows
import Derived.Lay
import Derived.Stop.LaidErr
import Derived.Test.YtcneefmaghoejaaGreatDoorC3
namespace Go.Proofs.YtcneefmaghoejaaGreatDoor
open Go.ChangeShapes Go.WideShapes Go.ChangeAt Go.RowKit
set_option linter.unusedVariables false
theorem Oa {H:Type} {enc:TypeId×Value→H} {C:Checked} {os:Os} {f:FuncId} {fn:Func} {s:ChangeSpec} {conds:List PathCond} {apart fresh handsOn again:Bool} {X:World→Array Value→Prop}
  (hX:∀(w w':World) (args:Array Value),w.heap=w'.heap→X w args→X w' args)
  (own:ownKnob C.prog.godebug=none) (started:os.Started) (E7:C.prog.inits.idxOf? f=none) (hfn:C.prog.funcs[f]?=some fn)
  (witness:∃(w:World) (tape:Tape) (i:Input),w.os=os∧(w.forCall tape i).Shaped C.prog∧i.vars=[]∧Input.okWide C.prog (w.forCall tape i) .any w.heap.size f i∧
    ((s.pre enc C.prog fn conds apart (w.forCall tape i).memory i.args∧X (w.forCall tape i).memory i.args)∧sizedMet enc C.prog fn (OpenSpec.ofChange s) apart (w.forCall tape i).memory i.args)∧({}:Assume).holds C.prog (lone (Frame.enter C.prog f i.args .normal) [] (w.forCall tape i)))
  (contract:∀(W:World) (base:Nat) (args:Array Value) (ds gs:List (DataW H)) (before:List MemPlace),
    (∀(j:Nat) t v,fn.params[j]?=some t→args[j]?=some v→Value.okWide C.prog W .any base t v)→
    DataW.Whole enc C.prog fn.params.toList s.vars apart W args.toList ds gs before→
    (DataW.weightsEach C.prog (fn.params.toList++s.plain.varTypes C.prog) (ds++gs)).all (· ≤reachBytes)=true→X W args→W.ShapedOpen C.prog→
    Calls C.prog f args W fun e W'=>∃v,e=.returned v∧s.post enc C.prog fn apart fresh handsOn again W args v W'):
  ReturnsInHanded {} C os f .any (fun w args=>(s.pre enc C.prog fn conds apart w args∧X w args)∧sizedMet enc C.prog fn (OpenSpec.ofChange s) apart w args) (s.post enc C.prog fn apart fresh handsOn again):=by
 refine returnsInHanded_of_calls own started E7 witness ?_;intro w tape i _ LU _ aO afa afb;obtain⟨_,_,_,fn',afc,_,_,_,_,hval⟩:=aO;have e:fn'=fn:=Option.some.inj (afc.symm.trans hfn);subst e;obtain⟨⟨⟨ds,gs,before,hw,hc⟩,hx⟩,hz⟩:=afa;have hw':=DataW.Whole.of_heap (w':=w.forCall tape i) (by rfl) hw;refine(contract (w.forCall tape i) w.heap.size i.args ds gs before hval hw' (hz.weights hw) (hX _ _ _ (by rfl) hx) LU).mono fun e W' ⟨v,he,hp⟩=>?_
 subst he;exact ChangeSpec.post_blind hp
def CO:List (String×DataW Unit):=Rows.parseTellsRow.laid
noncomputable def LV (os:Os):World:=World.laidAll Tryz.prog os CO
theorem Wl (os:Os):(LV os).os=os:=World.laidAll_os _ _ _
set_option maxRecDepth 100000
theorem Rh (os:Os)(args:Array Value):laidMetH Tryz.prog CO ((LV os).forCall (fun _ _=>0) ⟨#[],args,[]⟩).memory:=by rw[MakeChecks.laidMetH_plain _ _ _ (by kernel_rfl)];exact laidMet_laidAll _ (by kernel_rfl) (by kernel_rfl)
theorem Gw (os:Os)(args:Array Value):((LV os).forCall (fun _ _=>0) ⟨#[],args,[]⟩).Shaped Tryz.prog:=World.shaped_of_ZipB (by kernel_rfl) (by kernel_rfl)
theorem Ob:(Rows.laid_strings_asciiSpace:DataW Unit)=Lib.tabData .u8 Lib.asciiSpaceTab:=by kernel_rfl
theorem Oc:∀u,Tryz.prog.typeName? 3 u=some "*errors.errorString" →u=196:=by
 intro u h;have star: "*" ++ "errors.errorString" = "*errors.errorString" :=by decide
 exact typeName_ptr_named (nm:= "errors.errorString") (by rw[star];kernel_rfl) (by kernel_rfl) (by decide) u (by rw[star];exact h)
theorem E8 {W:World}(h:laidMetH Tryz.prog CO W):jO W:=by rw[MakeChecks.laidMetH_plain _ _ _ (by kernel_rfl)] at h;have h4:laidMet Tryz.prog (("strconv.ErrRange",.iface "*errors.errorString" (.ptr (.agg [.lit (.string [118,97,108,117,101,32,111,117,116,32,111,102,32,114,97,110,103,101])]))):: [("strconv.ErrSyntax",Rows.laid_strconv_ErrSyntax),("unicode.White_Space",Rows.laid_unicode_White_Space),("strings.asciiSpace",Rows.laid_strings_asciiSpace),("unicode.CaseRanges",Rows.laid_unicode_CaseRanges),("unicode/utf8.first",Rows.laid_unicode_utf8_first)]) W:=h.tail.tail.tail.tail;have h7:laidMet Tryz.prog (("strings.asciiSpace",Rows.laid_strings_asciiSpace):: [("unicode.CaseRanges",Rows.laid_unicode_CaseRanges),("unicode/utf8.first",Rows.laid_unicode_utf8_first)]) W:=h4.tail.tail.tail;rw[Ob] at h7;refine⟨Lib.tabIs_of_head (g:=0) (t:=137) (e:=5) (n:=256) (by kernel_rfl) (by kernel_rfl) Tryz.underlying137 Tryz.underlying5 (by kernel_rfl) (by kernel_rfl) h7,?_⟩;obtain⟨a,s,hv,_⟩:=laid_sentinel (g:=4) (ti:=119) h4 (by kernel_rfl) (by kernel_rfl) Tryz.underlying119 Oc Tryz.underlying196 Tryz.underlying198 rfl rfl Tryz.underlying9 (by kernel_rfl) (by kernel_rfl);exact⟨_,_,hv⟩
structure Val where
 k:Int
 n:Int
 s:ByteArray
def Val.cells (x:Val):Array Value:= #[.int .u8 x.k,.int .i64 x.n,.string x.s]
inductive Tr where
 | mk (op:Int) (v:Val) (name:ByteArray) (width:Int) (args:List Tr)
def cX:Val:=⟨0,0,ByteArray.empty⟩
def lI (op:Int)(l:List Tr):Tr:=.mk op cX ByteArray.empty 0 l
def mJ (v:Val):Tr:=.mk 1 v ByteArray.empty 0 []
def Ch (n:ByteArray):Tr:=.mk 2 cX n 0 []
theorem tB {α:Type} {f:α→List Value} {size:Nat}(hf:∀x,(f x).length=size):∀(l:List α) (k:Nat) (x:α),l[k]?=some x→∀r u,(f x)[r]?=some u→(l.flatMap f)[k*size+r]?=some u
 | [],k,x,h,_,_,_=>by simp at h
 | y::l,0,x,h,r,u,hu=>by
   simp at h;subst h;have hr:r <(f y).length:=by
    rcases Nat.lt_or_ge r (f y).length with h' | h'
    ·exact h'
    ·rw[List.getElem?_eq_none h'] at hu;cases hu
   rw[Nat.zero_mul,Nat.zero_add,List.flatMap_cons,List.getElem?_append_left hr];exact hu
 | y::l,k+1,x,h,r,u,hu=>by have:=tB hf l k x (by simpa using h) r u hu;rw[List.flatMap_cons,List.getElem?_append_right (by rw[hf,Nat.succ_mul];omega),hf];rw[show(k+1)*size+r - size=k*size+r by rw[Nat.succ_mul];omega];exact this
section
variable {α:Type} {f:α→List Value} {e:TypeId} {size:Nat} {w w':World} {base:Nat} {v:Value} {l:List α}
theorem df.cell (hf:∀x,(f x).length=size)(h:df f e size w base v l) {k:Nat} {x:α}(hk:l[k]?=some x):
  ∃g c,v=.slice (some ⟨g,0,none⟩) l.length c∧base≤g∧g < w.heap.size∧∀r u,(f x)[r]?=some u→w.cell? ⟨g,k*size+r,none⟩=some u:=by
 have Wh:k < l.length:=by
  rcases Nat.lt_or_ge k l.length with h' | h'
  ·exact h'
  ·rw[List.getElem?_eq_none h'] at hk;cases hk
 rcases h.2 with ⟨_,h0⟩|⟨g,cap,cur,rfl,hb,hg,hn,hm,hs,ht⟩
 ·omega
 ·have hlt:g < w.heap.size:=by
   rcases Nat.lt_or_ge g w.heap.size with h' | h'
   ·exact h'
   ·rw[Array.getElem?_eq_none h'] at hg;cases hg
  refine⟨g,cap,rfl,hb,hlt,fun r u hu=>?_⟩;have h1:=tB hf l k x hk r u hu;rw[← ht] at h1;have h2:cur[k*size+r]?=some u:=by
   rw[List.getElem?_take] at h1;split at h1
   ·simpa using h1
   ·cases h1
  unfold World.cell?;simp[hg,h2]
theorem df.form (h:df f e size w base v l):∃A c,v=.slice A l.length c:=by obtain⟨A,c,hv,_⟩:=h.reads;exact⟨A,c,hv⟩
end
set_option linter.unusedSimpArgs false
structure Ex where
 op:Int
 v:Val
 name:ByteArray
 width:Int
 A:Option Addr
 n:Nat
 c:Nat
def bl (y:Ex):List Value:=[.int .u8 y.op,.int .u8 y.v.k,.int .i64 y.v.n,.string y.v.s,.string y.name,.int .i64 y.width,.slice y.A y.n y.c]
def ee (y:Ex):Value:=.agg (bl y).toArray
def RL {β:Type}(f:β→List Value)(size:Nat)(w:World)(S:Nat→Prop)(A:Option Addr)(l:List β):Prop:=
 l=[]∨∃b off,A=some ⟨b,off,none⟩∧S b∧∀i y j u,l[i]?=some y→(f y)[j]?=some u→w.cell? ⟨b,off+i*size+j,none⟩=some u
theorem RL.keep {β:Type} {f:β→List Value} {size:Nat} {w w':World} {S S':Nat→Prop} {A:Option Addr} {l:List β}(h:RL f size w S A l)(hk:∀b,S b→(∀o,w'.cell? ⟨b,o,none⟩=w.cell? ⟨b,o,none⟩)∧S' b):RL f size w' S' A l:=by
 rcases h with h |⟨b,off,h1,h2,h3⟩
 ·exact .inl h
 ·exact .inr ⟨b,off,h1,(hk b h2).2,fun i y j u hy hu=>((hk b h2).1 _).trans (h3 i y j u hy hu)⟩
mutual
def Tr.at_ (w:World)(S:Nat→Prop):Tr→Ex→Prop
 | .mk op v name width args,y=>y.op=op∧y.v=v∧y.name=name∧y.width=width∧y.n=args.length∧∃ys,RL bl 7 w S y.A ys∧Tr.gK w S args ys
def Tr.gK (w:World)(S:Nat→Prop):List Tr→List Ex→Prop
 | [],ys=>ys=[]
 | t::ts,ys=>∃y ys',ys=y::ys'∧Tr.at_ w S t y∧Tr.gK w S ts ys'
end
mutual
theorem Tr.at_.keep {w w':World} {S S':Nat→Prop}(hk:∀b,S b→(∀o,w'.cell? ⟨b,o,none⟩=w.cell? ⟨b,o,none⟩)∧S' b):∀(t:Tr) (y:Ex),t.at_ w S y→t.at_ w' S' y
 | .mk op v name width args,y,h=>by unfold Tr.at_ at h ⊢;obtain⟨h1,h2,h3,h4,h5,ys,h6,h7⟩:=h;exact⟨h1,h2,h3,h4,h5,ys,h6.keep hk,Tr.gK.keep hk args ys h7⟩
theorem Tr.gK.keep {w w':World} {S S':Nat→Prop}(hk:∀b,S b→(∀o,w'.cell? ⟨b,o,none⟩=w.cell? ⟨b,o,none⟩)∧S' b):∀(ts:List Tr) (ys:List Ex),Tr.gK w S ts ys→Tr.gK w' S' ts ys
 | [],ys,h=>by unfold Tr.gK at h ⊢;exact h
 | t::ts,ys,h=>by unfold Tr.gK at h ⊢;obtain⟨y,ys',h1,h2,h3⟩:=h;exact⟨y,ys',h1,Tr.at_.keep hk t y h2,Tr.gK.keep hk ts ys' h3⟩
end
theorem Tr.gK.length {w:World} {S:Nat→Prop}:∀ {ts:List Tr} {ys:List Ex},Tr.gK w S ts ys→ys.length=ts.length
 | [],ys,h=>by unfold Tr.gK at h;subst h;rfl
 | t::ts,ys,h=>by unfold Tr.gK at h;obtain⟨y,ys',rfl,_,h3⟩:=h;simp[Tr.gK.length h3]
theorem Tr.gK.append {w:World} {S:Nat→Prop}:∀ {ts us:List Tr} {ys zs:List Ex},Tr.gK w S ts ys→Tr.gK w S us zs→Tr.gK w S (ts++us) (ys++zs)
 | [],us,ys,zs,h,k=>by unfold Tr.gK at h;subst h;exact k
 | t::ts,us,ys,zs,h,k=>by unfold Tr.gK at h;obtain⟨y,ys',rfl,h2,h3⟩:=h;show Tr.gK w S (t::(ts++us)) (y::(ys'++zs));unfold Tr.gK;exact⟨y,_,rfl,h2,h3.append k⟩
theorem Tr.tC {w:World} {S:Nat→Prop} {t:Tr} {y:Ex}(h:t.at_ w S y):Tr.gK w S [t] [y]:=by unfold Tr.gK;exact⟨y,[],rfl,h,by unfold Tr.gK;rfl⟩
theorem Tr.Ev {w:World} {S:Nat→Prop} {t u:Tr} {y z:Ex}(h:t.at_ w S y)(k:u.at_ w S z):Tr.gK w S [t,u] [y,z]:=by unfold Tr.gK;exact⟨y,[z],rfl,h,Tr.tC k⟩
theorem Tr.all_nil {w:World} {S:Nat→Prop}:Tr.gK w S [] []:=by unfold Tr.gK;rfl
structure El (α:Type) where
 β:Type
 f:β→List Value
 size:Nat
 hf:∀y,(f y).length=size
 rel:World→(Nat→Prop)→α→β→Prop
 keep:∀ {w w':World} {S S':Nat→Prop} {x:α} {y:β},(∀b,S b→(∀o,w'.cell? ⟨b,o,none⟩=w.cell? ⟨b,o,none⟩)∧S' b)→rel w S x y→rel w' S' x y
inductive jP {α β:Type} (R:α→β→Prop):List α→List β→Prop
 | nil:jP R [] []
 | cons {x:α} {y:β} {l:List α} {m:List β}:R x y→jP R l m→jP R (x::l) (y::m)
theorem jP.imp {α β:Type} {R R':α→β→Prop}(h:∀x y,R x y→R' x y):∀ {l:List α} {m:List β},jP R l m→jP R' l m
 | _,_,.nil=> .nil
 | _,_,.cons a b=> .cons (h _ _ a) (b.imp h)
theorem jP.len {α β:Type} {R:α→β→Prop}:∀ {l:List α} {m:List β},jP R l m→m.length=l.length
 | _,_,.nil=>rfl
 | _,_,.cons a b=>by simp[b.len]
theorem jP.append {α β:Type} {R:α→β→Prop}:∀ {l l':List α} {m m':List β},jP R l m→jP R l' m'→jP R (l++l') (m++m')
 | _,_,_,_,.nil,k=>k
 | _,_,_,_,.cons a b,k=> .cons a (b.append k)
theorem jP.one {α β:Type} {R:α→β→Prop} {x:α} {y:β}(h:R x y):jP R [x] [y]:=.cons h .nil
theorem zb {w:World} {S:Nat→Prop}:∀ {ts:List Tr} {ys:List Ex},jP (Tr.at_ w S) ts ys↔Tr.gK w S ts ys
 | [],ys=>⟨fun h=>by cases h;exact Tr.all_nil,fun h=>by unfold Tr.gK at h;subst h;exact .nil⟩
 | t::ts,ys=>⟨fun h=>by cases h with | cons a b=>unfold Tr.gK;exact⟨_,_,rfl,a,zb.1 b⟩,fun h=>by
    unfold Tr.gK at h
    obtain⟨y,ys',rfl,h2,h3⟩:=h
    exact .cons h2 (zb.2 h3)⟩
def El.lies {α:Type}(E:El α)(w:World)(S:Nat→Prop)(A:Option Addr)(n:Nat)(l:List α):Prop:=n=l.length∧∃ys,RL E.f E.size w S A ys∧jP (E.rel w S) l ys
theorem El.lies.keep {α:Type} {E:El α} {w w':World} {S S':Nat→Prop} {A:Option Addr} {n:Nat} {l:List α}(h:E.lies w S A n l)(hk:∀b,S b→(∀o,w'.cell? ⟨b,o,none⟩=w.cell? ⟨b,o,none⟩)∧S' b):E.lies w' S' A n l:=by obtain⟨h1,ys,h2,h3⟩:=h;exact⟨h1,ys,h2.keep hk,h3.imp fun x y=>E.keep hk⟩
theorem El.Ri {α:Type}(E:El α)(w:World)(S:Nat→Prop):E.lies w S none 0 []:=⟨rfl,[],.inl rfl,.nil⟩
def gL:El Tr:=⟨Ex,bl,7,fun _=>rfl,Tr.at_,fun hk h=>Tr.at_.keep hk _ _ h⟩
def jE:El (Tr×ByteArray):=⟨Ex×ByteArray,fun y=>bl y.1++ [.string y.2],8,fun _=>rfl,fun w S x y=>x.1.at_ w S y.1∧y.2=x.2,fun hk h=>⟨Tr.at_.keep hk _ _ h.1,h.2⟩⟩
def iM:El (Tr×Bool):=⟨Ex×Bool,fun y=>bl y.1++ [.bool y.2],8,fun _=>rfl,fun w S x y=>x.1.at_ w S y.1∧y.2=x.2,fun hk h=>⟨Tr.at_.keep hk _ _ h.1,h.2⟩⟩
def pJ:El (ByteArray×Int):=⟨ByteArray×Int,fun y=> [.string y.1,.int .u8 y.2],2,fun _=>rfl,fun _ _ x y=>y=x,fun _ h=>h⟩
def LW:El Int:=⟨Int,fun y=> [.int .i64 y],1,fun _=>rfl,fun _ _ x y=>y=x,fun _ h=>h⟩
def pK:El (ByteArray×Tr):=⟨ByteArray×Ex,fun y=> .string y.1::bl y.2,8,fun _=>rfl,fun w S x y=>y.1=x.1∧x.2.at_ w S y.2,fun hk h=>⟨h.1,Tr.at_.keep hk _ _ h.2⟩⟩
structure Sl where
 A:Option Addr
 n:Nat
 c:Nat
def pL:El (List Tr):=⟨Sl,fun y=> [.slice y.A y.n y.c],1,fun _=>rfl,fun w S x y=>gL.lies w S y.A y.n x,fun hk h=>El.lies.keep h hk⟩
def eD (B:Nat)(w:World):Nat→Prop:=fun b=>B≤b∧b < w.heap.size
theorem cell_of_heap {w w':World} {b:Nat}(h:w'.heap[b]?=w.heap[b]?)(o:Nat):w'.cell? ⟨b,o,none⟩=w.cell? ⟨b,o,none⟩:=by unfold World.cell?;simp only[h]
theorem cK {g B:Nat} {w w':World}(h:w.grownBy w' (some g))(hg:g < B):∀b,eD B w b→(∀o,w'.cell? ⟨b,o,none⟩=w.cell? ⟨b,o,none⟩)∧eD B w' b:=fun b hb=>
 ⟨cell_of_heap (h.block b hb.2 (fun e=>by injection e with e;have:=hb.1;omega)),hb.1,Nat.lt_of_lt_of_le hb.2 h.size⟩
theorem cP {B:Nat} {w w':World}(h:Below w.heap.size w w'):∀b,eD B w b→(∀o,w'.cell? ⟨b,o,none⟩=w.cell? ⟨b,o,none⟩)∧eD B w' b:=fun b hb=>
 ⟨cell_of_heap (h.block b hb.2),hb.1,Nat.lt_of_lt_of_le hb.2 h.size⟩
theorem iO {B q:Nat} {w:World}(hq:q < B)(i:Nat)(u:Value):∀b,eD B w b→(∀o,(w.setCell ⟨q,i,none⟩ u).cell? ⟨b,o,none⟩=w.cell? ⟨b,o,none⟩)∧eD B (w.setCell ⟨q,i,none⟩ u) b:=fun b hb=>
 ⟨cell_of_heap (Below.heap_setCell w ⟨q,i,none⟩ u b (by have:=hb.1;simp;omega)),hb.1,by simpa [World.setCell] using hb.2⟩
theorem et {B B':Nat} {w:World}(h:B'≤B):∀b,eD B w b→(∀o,w.cell? ⟨b,o,none⟩=w.cell? ⟨b,o,none⟩)∧eD B' w b:=fun b hb=>⟨fun _=>rfl,Nat.le_trans h hb.1,hb.2⟩
section
variable {B B' g q:Nat} {w w':World} {t:Tr} {y:Ex}
theorem Tr.at_.grown (h:t.at_ w (eD B w) y)(hg:w.grownBy w' (some g))(hB:g < B):t.at_ w' (eD B w') y:=Tr.at_.keep (cK hg hB) t y h
theorem Tr.at_.later (h:t.at_ w (eD B w) y)(hb:Below w.heap.size w w'):t.at_ w' (eD B w') y:=Tr.at_.keep (cP hb) t y h
theorem Tr.at_.set (h:t.at_ w (eD B w) y)(hq:q < B)(i:Nat)(u:Value):t.at_ (w.setCell ⟨q,i,none⟩ u) (eD B (w.setCell ⟨q,i,none⟩ u)) y:=Tr.at_.keep (iO hq i u) t y h
theorem Tr.at_.more (h:t.at_ w (eD B w) y)(hB:B'≤B):t.at_ w (eD B' w) y:=Tr.at_.keep (et hB) t y h
end
section
variable {α:Type} {E:El α} {B B' g q:Nat} {w w':World} {A:Option Addr} {n:Nat} {l:List α}
theorem El.lies.grown (h:E.lies w (eD B w) A n l)(hg:w.grownBy w' (some g))(hB:g < B):E.lies w' (eD B w') A n l:=h.keep (cK hg hB)
theorem El.lies.later (h:E.lies w (eD B w) A n l)(hb:Below w.heap.size w w'):E.lies w' (eD B w') A n l:=h.keep (cP hb)
theorem El.lies.set (h:E.lies w (eD B w) A n l)(hq:q < B)(i:Nat)(u:Value):E.lies (w.setCell ⟨q,i,none⟩ u) (eD B (w.setCell ⟨q,i,none⟩ u)) A n l:=h.keep (iO hq i u)
theorem El.lies.more (h:E.lies w (eD B w) A n l)(hB:B'≤B):E.lies w (eD B' w) A n l:=h.keep (et hB)
end
def Bx (B q:Nat)(w:World):Nat→Prop:=fun b=>B≤b∧b < w.heap.size∧b≠q
section
variable {B B' g q:Nat} {w w':World} {t:Tr} {y:Ex}
theorem eL (h:w.grownBy w' (some g))(hg:g < B):∀b,Bx B q w b→(∀o,w'.cell? ⟨b,o,none⟩=w.cell? ⟨b,o,none⟩)∧Bx B q w' b:=fun b hb=>
 ⟨cell_of_heap (h.block b hb.2.1 (fun e=>by injection e with e;have:=hb.1;omega)),hb.1,Nat.lt_of_lt_of_le hb.2.1 h.size,hb.2.2⟩
theorem eu (h:Below w.heap.size w w'):∀b,Bx B q w b→(∀o,w'.cell? ⟨b,o,none⟩=w.cell? ⟨b,o,none⟩)∧Bx B q w' b:=fun b hb=>
 ⟨cell_of_heap (h.block b hb.2.1),hb.1,Nat.lt_of_lt_of_le hb.2.1 h.size,hb.2.2⟩
theorem zV (i:Nat)(u:Value):∀b,Bx B q w b→(∀o,(w.setCell ⟨q,i,none⟩ u).cell? ⟨b,o,none⟩=w.cell? ⟨b,o,none⟩)∧Bx B q (w.setCell ⟨q,i,none⟩ u) b:=fun b hb=>
 ⟨cell_of_heap (Below.heap_setCell w ⟨q,i,none⟩ u b (fun e=>hb.2.2 e)),hb.1,by simpa [World.setCell] using hb.2.1,hb.2.2⟩
theorem Ew {p:Nat}(hp:p < B)(i:Nat)(u:Value):∀b,Bx B q w b→(∀o,(w.setCell ⟨p,i,none⟩ u).cell? ⟨b,o,none⟩=w.cell? ⟨b,o,none⟩)∧Bx B q (w.setCell ⟨p,i,none⟩ u) b:=fun b hb=>
 ⟨cell_of_heap (Below.heap_setCell w ⟨p,i,none⟩ u b (by have:=hb.1;simp;omega)),hb.1,by simpa [World.setCell] using hb.2.1,hb.2.2⟩
theorem ir (hB:B'≤B):∀b,Bx B q w b→(∀o,w.cell? ⟨b,o,none⟩=w.cell? ⟨b,o,none⟩)∧eD B' w b:=fun b hb=>⟨fun _=>rfl,Nat.le_trans hB hb.1,hb.2.1⟩
theorem qC (o:Obj)(hB:B'≤B):∀b,eD B w b→(∀i,(w.alloc o).cell? ⟨b,i,none⟩=w.cell? ⟨b,i,none⟩)∧Bx B' w.heap.size (w.alloc o) b:=fun b hb=>
 ⟨cell_of_heap (Below.heap_alloc w o b hb.2),Nat.le_trans hB hb.1,by have:=hb.2;simp;omega,by have:=hb.2;omega⟩
theorem Gx (hq:q < B)(hB:B'≤B):∀b,eD B w b→(∀i,w.cell? ⟨b,i,none⟩=w.cell? ⟨b,i,none⟩)∧Bx B' q w b:=fun b hb=>
 ⟨fun _=>rfl,Nat.le_trans hB hb.1,hb.2,by have:=hb.1;omega⟩
end
theorem xk {β:Type} {f:β→List Value} {size:Nat}(hf:∀x,(f x).length=size) {w:World} {S:Nat→Prop} {G:Nat} {T:TypeId} {ys:List β}(h:au w G T (ys.flatMap f).toArray)(hS:S G):RL f size w S (some ⟨G,0,none⟩) ys:=by refine .inr ⟨G,0,rfl,hS,fun i y j u hy hu=>?_⟩;have:=tB hf ys i y hy j u hu;have hc:=h.cell (i*size+j);rw[Nat.zero_add,hc];simpa using this
theorem lJ (y:Ex):(bl y).length=7:=rfl
def jm:Val:=⟨0,0,⟨#[]⟩⟩
def nU (op:Int)(G n:Nat):Ex:=⟨op,jm,⟨#[]⟩,0,some ⟨G,0,none⟩,n,n⟩
theorem rL {w:World} {S:Nat→Prop} {G:Nat} {T:TypeId} {x:Tr} {y:Ex}(op:Int)(h:au w G T (bl y).toArray)(hS:S G)(hx:x.at_ w S y):(lI op [x]).at_ w S (nU op G 1):=by unfold lI Tr.at_;exact⟨rfl,rfl,rfl,rfl,rfl,[y],xk lJ (by simpa using h) hS,Tr.tC hx⟩
theorem Ey {w:World} {S:Nat→Prop} {G:Nat} {T:TypeId} {x x2:Tr} {y y2:Ex}(op:Int)(h:au w G T (bl y++bl y2).toArray)(hS:S G)(hx:x.at_ w S y)(hx2:x2.at_ w S y2):(lI op [x,x2]).at_ w S (nU op G 2):=by unfold lI Tr.at_;exact⟨rfl,rfl,rfl,rfl,rfl,[y,y2],xk lJ (by simpa using h) hS,Tr.Ev hx hx2⟩
theorem xm (w:World)(S:Nat→Prop)(v:Val):(mJ v).at_ w S ⟨1,v,⟨#[]⟩,0,none,0,0⟩:=by unfold mJ Tr.at_;exact⟨rfl,rfl,rfl,rfl,rfl,[],.inl rfl,Tr.all_nil⟩
theorem Rj (w:World)(S:Nat→Prop)(n:ByteArray):(Ch n).at_ w S ⟨2,jm,n,0,none,0,0⟩:=by unfold Ch Tr.at_;exact⟨rfl,rfl,rfl,rfl,rfl,[],.inl rfl,Tr.all_nil⟩
theorem JR (w:World)(S:Nat→Prop)(op:Int):(lI op []).at_ w S ⟨op,jm,⟨#[]⟩,0,none,0,0⟩:=by unfold lI Tr.at_;exact⟨rfl,rfl,rfl,rfl,rfl,[],.inl rfl,Tr.all_nil⟩
def Wm:List UInt8:=[111,114]
def LY:List UInt8:=[97,110,100]
def kD:List UInt8:=[110,111,116]
def pk:List UInt8:=[105,115]
def cE:List UInt8:=[110,117,108,108]
def eE:List UInt8:=[116,114,117,101]
def ei:List UInt8:=[102,97,108,115,101]
def bt:List UInt8:=[115,101,108,101,99,116]
def dE:List UInt8:=[102,114,111,109]
def jF:List UInt8:=[111,110,108,121]
def eO:List UInt8:=[119,104,101,114,101]
def jI:List UInt8:=[103,114,111,117,112]
def nx:List UInt8:=[98,121]
def lK:List UInt8:=[104,97,118,105,110,103]
def jJ:List UInt8:=[111,114,100,101,114]
def kN:List UInt8:=[108,105,109,105,116]
def mi:List UInt8:=[100,101,115,99]
def mK:List UInt8:=[97,115]
def ea:List UInt8:=[99,114,101,97,116,101]
def dh:List UInt8:=[100,114,111,112]
def ew:List UInt8:=[105,110,115,101,114,116]
def ey:List UInt8:=[117,112,100,97,116,101]
def eb:List UInt8:=[100,101,108,101,116,101]
def iu:List UInt8:=[99,97,108,108]
def aV:List UInt8:=[116,97,98,108,101]
def bz:List UInt8:=[118,105,101,119]
def cB:List UInt8:=[106,111,98]
def jK:List UInt8:=[105,110,116]
def gm:List UInt8:=[98,111,111,108]
def gS:List UInt8:=[116,101,120,116]
def mj:List UInt8:=[116,105,109,101]
def cn:List UInt8:=[101,118,101,114,121]
def lL:List UInt8:=[115,112,97,99,101]
def fM:List UInt8:=[105,110,116,111]
def aU:List UInt8:=[114,101,102,114,101,115,104]
def aQ:List UInt8:=[99,111,109,112,114,101,115,115]
def bG:List UInt8:=[100,101,99,111,109,112,114,101,115,115]
def bN:List UInt8:=[100,114,111,112,95,99,104,117,110,107,115]
def uf:List UInt8:=[116,111]
def dX:List UInt8:=[97,102,116,101,114]
def iR:List UInt8:=[118,97,108,117,101,115]
def qU:List UInt8:=[115,101,116]
def Gy:List UInt8:=[98,117,99,107,101,116]
def LZ:List UInt8:=[99,111,117,110,116]
def YK:List UInt8:=[115,117,109]
def YL:List UInt8:=[109,105,110]
def YM:List UInt8:=[109,97,120]
def YN:List UInt8:=[97,118,103]
def Ma:List UInt8:=[102,105,114,115,116]
def Rk:List UInt8:=[108,97,115,116]
def ax:List UInt8:=[44]
def aX:List UInt8:=[40]
def aq:List UInt8:=[41]
def jQ:List UInt8:=[59]
def eI:List UInt8:=[42]
def fu:List UInt8:=[45]
def Ez:List UInt8:=[43]
def EA:List UInt8:=[47]
def xo:List UInt8:=[37]
def rM:List UInt8:=[61]
def aal:List UInt8:=[60,62]
def aam:List UInt8:=[60]
def aan:List UInt8:=[60,61]
def aao:List UInt8:=[62]
def aap:List UInt8:=[62,61]
structure Qu where
 items:List (Tr×ByteArray):=[]
 bw:ByteArray:=ByteArray.empty
 only:Bool:=false
 bK:List Tr:=[]
 group:List Tr:=[]
 having:List Tr:=[]
 order:List (Tr×Bool):=[]
 cG:List Int:=[]
structure St where
 kind:Int:=0
 name:ByteArray:=ByteArray.empty
 cp:List (ByteArray×Int):=[]
 time:ByteArray:=ByteArray.empty
 every:Int:=0
 space:ByteArray:=ByteArray.empty
 parts:Int:=0
 query:Qu:= {}
 what:Int:=0
 cf:ByteArray:=ByteArray.empty
 a:Int:=0
 b:Int:=0
 rows:List (List Tr):=[]
 ej:List (ByteArray×Tr):=[]
 bK:List Tr:=[]
 bw:Val:=cX
 ez:Val:=cX
abbrev bH:=List Wd
def Ps (α:Type):Type:=bH→Except Nat (α×bH)
instance:Monad Ps where
 pure x:=fun l=> .ok (x,l)
 bind p f:=fun l=>match p l with
  | .error n=> .error n
  | .ok (x,r)=>f x r
def kO (s:List UInt8)(t:Wd):Bool:=(t.k==1 || t.k==4)&& t.s==s
def av (s:List UInt8):bH→Bool
 | []=>false
 | t::_=>kO s t
def xp {α:Type}:Ps α:=fun l=> .error l.length
def may (s:List UInt8):Ps Bool:=fun l=>if av s l then .ok (true,l.tail)else .ok (false,l)
def must (s:List UInt8):Ps Unit:=fun l=>if av s l then .ok ((),l.tail)else .error l.length
def dC:List (List UInt8)→Ps (List UInt8)
 | []=>xp
 | s::ks=>fun l=>if av s l then .ok (s,l.tail)else dC ks l
def aN:Ps ByteArray
 | []=> .error 0
 | t::r=>if t.k=1∧vC t.s=false then .ok (⟨t.s.toArray⟩,r)else .error (t::r).length
def cY:Ps Int
 | []=> .error 0
 | t::r=>if t.k=2 then .ok (t.n,r)else .error (t::r).length
def nV {α:Type}(el:Ps α):Nat→List α→Ps (List α)
 | 0,acc=>pure acc
 | f+1,acc=>fun l=>if av ax l then(do let y ← el;nV el f (acc++ [y])) l.tail else .ok (acc,l)
def dx {α:Type}(el:Ps α):Ps (List α):=do
 let x ← el
 fun l=>nV el l.length [x] l
def opsL:Nat→List (List UInt8×Int)
 | 0=> [(Wm,17)]
 | 1=> [(LY,16)]
 | 3=> [(rM,10),(aal,11),(aam,12),(aan,13),(aao,14),(aap,15)]
 | 4=> [(Ez,5),(fu,6)]
 | 5=> [(eI,7),(EA,8),(xo,9)]
 | _=> []
def gT:List (List UInt8×Int)→bH→Option Int
 | [],_=>none
 |(s,o)::k,l=>if av s l then some o else gT k l
def lM (below:Ps Tr)(lv:Nat):Nat→Tr→Ps Tr
 | 0,x=>pure x
 | f+1,x=>fun l=>match gT (opsL lv) l with
   | none=> .ok (x,l)
   | some o=>(do let y ← below;lM below lv f (lI o [x,y])) l.tail
def lY (below:Ps Tr)(lv:Nat):Ps Tr:=do
 let x ← below
 fun l=>lM below lv l.length x l
def rN (below:Ps Tr)(x:Tr):Ps Tr:=fun l=>match gT (opsL 3) l with
 | none=> .ok (x,l)
 | some o=>(do let y ← below;return lI o [x,y]) l.tail
def vG (below:Ps Tr):Ps Tr:=do
 let x ← below
 if ← may pk then
  let n ← may kD
  must cE
  return lI (if n then 19 else 18) [x]
 else rN below x
def EB (s:List UInt8)(op:Int)(same below:Ps Tr):Ps Tr:=do
 if ← may s then
  let x ← same
  return lI op [x]
 else below
def zW:List (List UInt8×Int):=[(Gy,20),(LZ,22),(YK,23),(YL,24),(YM,25),(YN,26),(Ma,27),(Rk,28)]
def fT (n:ByteArray):Option Int:=zW.lookup n.data.toList
def ml (op:Int):Ps Int:=
 if op=20 then(do
  let n ← cY
  must ax
  return n)else pure 0
def jZ (whole:Ps Tr)(op:Int):Ps (List Tr):=
 if op=27∨op=28 then(do
  must ax
  let y ← whole
  return [y])else pure []
def nW (whole:Ps Tr)(op:Int):Ps Tr:=do
 let width ← ml op
 let x ← whole
 let ys ← jZ whole op
 must aq
 return .mk op cX ByteArray.empty width (x::ys)
def countP (whole:Ps Tr):Ps Tr:=do
 if ← may eI then
  must aq
  return lI 21 []
 else nW whole 22
def jn (whole:Ps Tr)(op:Int):Ps Tr:=if op=22 then countP whole else nW whole op
def nX (whole:Ps Tr):Ps Tr:=do
 let n ← aN
 fun l=>if av aX l then(match fT n with
  | none=> .error l.length
  | some op=>jn whole op l.tail)else .ok (Ch n,l)
def fB (whole:Ps Tr):Ps Tr:=fun l=>
 match l with
 | []=> .error 0
 | t::r=>
   if t.k=2 then .ok (mJ ⟨2,t.n,ByteArray.empty⟩,r)
   else if t.k=3 then .ok (mJ ⟨3,0,⟨t.s.toArray⟩⟩,r)
   else if kO eE t then .ok (mJ ⟨1,1,ByteArray.empty⟩,r)
   else if kO ei t then .ok (mJ ⟨1,0,ByteArray.empty⟩,r)
   else if kO cE t then .ok (mJ cX,r)
   else if kO aX t then(do let x ← whole;must aq;return x) r
   else nX whole (t::r)
def pE:Nat→Nat→Ps Tr
 | 0,_=>xp
 | f+1,0=>lY (pE f 1) 0
 | f+1,1=>lY (pE f 2) 1
 | f+1,2=>EB kD 4 (pE f 2) (pE f 3)
 | f+1,3=>vG (pE f 4)
 | f+1,4=>lY (pE f 5) 4
 | f+1,5=>lY (pE f 6) 5
 | f+1,6=>EB fu 3 (pE f 6) (pE f 7)
 | f+1,_=>fB (pE f 0)
def az (lv:Nat):Ps Tr:=fun l=>pE (8*l.length+8 - lv) lv l
def cW:Ps Tr:=az 0
def cL (s:List UInt8):Ps (List Tr):=do
 if ← may s then
  let x ← cW
  return [x]
 else return []
def gy:Ps (Tr×ByteArray):=do
 let x ← cW
 if ← may mK then
  let n ← aN
  return (x,n)
 else return (x,ByteArray.empty)
def fN:Ps (Tr×Bool):=do
 let x ← cW
 let d ← may mi
 return (x,d)
def jR:Ps (List (Tr×ByteArray)):=do
 if ← may eI then
  return []
 else dx gy
def iT:Ps (List Tr):=do
 if ← may jI then
  must nx
  dx cW
 else return []
def fU:Ps (List (Tr×Bool)):=do
 if ← may jJ then
  must nx
  dx fN
 else return []
def jo:Ps (List Int):=do
 if ← may kN then
  let n ← cY
  return [n]
 else return []
def cH:Ps Qu:=do
 must bt
 let items ← jR
 must dE
 let only ← may jF
 let bw ← aN
 let bK ← cL eO
 let group ← iT
 let having ← cL lK
 let order ← fU
 let cG ← jo
 return { items,bw,only,bK,group,having,order,cG }
def typeOf (s:List UInt8):Int:=if s=jK then 2 else if s=gm then 1 else 3
def eX:Ps (ByteArray×Int):=do
 let n ← aN
 let t ← dC [jK,gm,gS]
 return (n,typeOf t)
def rO:Ps (ByteArray×Int):=do
 if ← may lL then
  let s ← aN
  must fM
  let n ← cY
  return (s,n)
 else return (ByteArray.empty,0)
def na:Ps St:=do
 let name ← aN
 must aX
 let cp ← dx eX
 must aq
 must mj
 let time ← aN
 must cn
 let every ← cY
 let sp ← rO
 return { kind:=1,name,cp,time,every,space:=sp.1,parts:=sp.2 }
def xW:Ps St:=do
 let name ← aN
 must mK
 let query ← cH
 return { kind:=2,name,query }
def xX (s:List UInt8):Ps (Int×Int):=do
 if s=aU then
  must dE
  let a ← cY
  must uf
  let b ← cY
  return (a,b)
 else
  must dX
  let a ← cY
  return (a,0)
def uK:Ps St:=do
 let name ← aN
 let s ← dC [aU,aQ,dh]
 let cf ← aN
 let ab ← xX s
 must cn
 let every ← cY
 return { kind:=3,name,what:=if s=aU then 9 else if s=aQ then 10 else 12,cf,a:=ab.1,b:=ab.2,every }
def fV:Ps St:=do
 let s ← dC [aV,bz,cB]
 if s=aV then na else if s=bz then xW else uK
def vH:Ps St:=do
 let s ← dC [aV,bz,cB]
 let name ← aN
 return { kind:=4,what:=if s=aV then 1 else if s=bz then 2 else 3,name }
def mL:Ps (List Tr):=do
 must aX
 let l ← dx cW
 must aq
 return l
def ny:Ps St:=do
 must fM
 let name ← aN
 must iR
 let rows ← dx mL
 return { kind:=5,name,rows }
def oJ:Ps (ByteArray×Tr):=do
 let n ← aN
 must rM
 let x ← cW
 return (n,x)
def nz:Ps St:=do
 let name ← aN
 must qU
 let ej ← dx oJ
 let bK ← cL eO
 return { kind:=6,name,ej,bK }
def nA:Ps St:=do
 must dE
 let name ← aN
 let bK ← cL eO
 return { kind:=7,name,bK }
def qD:Ps St:=do
 let query ← cH
 return { kind:=8,query }
def jq:Ps Val:=do
 if ← may cE then
  return cX
 else
  let less ← may fu
  let n ← cY
  return ⟨2,if less then -n else n,ByteArray.empty⟩
def nY (k:Int):Ps Val:=do
 if k=9 then
  let v ← jq
  must ax
  return v
 else return cX
def uv:Ps St:=do
 let s ← dC [aU,aQ,bG,bN]
 let kind:Int:=if s=aU then 9 else if s=aQ then 10 else if s=bG then 11 else 12
 must aX
 let name ← aN
 must ax
 let bw ← nY kind
 let ez ← jq
 must aq
 return { kind,name,bw,ez }
def aB:Ps St:=fun l=>
 match l with
 | []=> .error 0
 | t::r=>
   if¬t.k=1 then .error (t::r).length
   else if t.s=bt then qD (t::r)
   else if t.s=ea then fV r
   else if t.s=dh then vH r
   else if t.s=ew then ny r
   else if t.s=ey then nz r
   else if t.s=eb then nA r
   else if t.s=iu then uv r
   else .error (t::r).length
def qV:Ps Unit
 | []=> .error 0
 | t::r=>if t.k=0 then .ok ((),t::r)else .error (t::r).length
def nc:Ps St:=do
 let s ← aB
 let _ ← may jQ
 qV
 return s
mutual
def Tr.depth:Tr→Nat
 | .mk _ _ _ _ args=>Tr.pn args+1
def Tr.pn:List Tr→Nat
 | []=>0
 | t::l=>max t.depth (Tr.pn l)
end
def Qu.exprs (q:Qu):List Tr:=q.items.map (·.1)++q.bK++q.group++q.having++q.order.map (·.1)
def St.exprs (s:St):List Tr:=s.rows.flatten++s.ej.map (·.2)++s.bK++s.query.exprs
def dU (l:List Tr):Bool:=l.any fun t=>decide (32 < t.depth)
def Qu.long (q:Qu):Bool:=decide (64 < q.items.length)|| decide (64 < q.group.length)|| decide (64 < q.order.length)
def St.long (s:St):Bool:=decide (64 < s.cp.length)|| decide (64 < s.rows.length)|| s.rows.any (fun r=>decide (64 < r.length))|| decide (64 < s.ej.length)|| s.query.long
def fO (s:List UInt8):Except (Nat×Nat) St:=
 match mh s with
 | .error x=> .error x
 | .ok l=>match nc (l.map (·.w))with
   | .error n=> .error (((l[l.length - n]?).map (·.p)).getD 0,31)
   | .ok (t,_)=>if t.long then .error (0,2)else if dU t.exprs then .error (0,32)else .ok t
theorem fw {α β:Type}(p:Ps α)(f:α→Ps β)(l:bH):(p >>= f) l=match p l with | .error n=> .error n | .ok (x,r)=>f x r:=rfl
theorem ak {α β:Type} {p:Ps α} {f:α→Ps β} {l r:bH} {x:α}(h:p l=.ok (x,r)):(p >>= f) l=f x r:=by rw[fw,h]
theorem ai {α β:Type} {p:Ps α} {f:α→Ps β} {l:bH} {n:Nat}(h:p l=.error n):(p >>= f) l=.error n:=by rw[fw,h]
def ik (l:bH):Prop:=∃x e,l=x++ [e]∧e.k=0
theorem ik.tail {t:Wd} {r:bH}(h:ik (t::r))(ht:t.k≠0):ik r:=by
 obtain⟨x,e,hx,he⟩:=h
 match x with
 | []=>simp at hx;exact absurd (hx.1▸he) ht
 | y::x=>simp at hx;exact⟨x,e,hx.2,he⟩
theorem ik.pos {l:bH}(h:ik l):0 < l.length:=by obtain⟨x,e,rfl,_⟩:=h;simp
theorem vI {s:List UInt8} {t:Wd}(h:kO s t=true):t.k≠0:=by unfold kO at h;simp at h;omega
theorem fP {s:List UInt8} {l:bH}(h:av s l=true):∃t r,l=t::r∧kO s t=true:=by
 match l with
 | []=>simp[av] at h
 | t::r=>exact⟨t,r,rfl,h⟩
def cy {α:Type}(p:Ps α):Prop:=∀l,match p l with
 | .ok (_,r)=>r <:+ l∧(ik l→ik r)
 | .error n=>n≤l.length∧(ik l→0 < n)
theorem cy.ok {α:Type} {p:Ps α}(h:cy p) {l r:bH} {x:α}(e:p l=.ok (x,r)):r <:+ l∧(ik l→ik r):=by have:=h l;rw[e] at this;exact this
theorem cy.err {α:Type} {p:Ps α}(h:cy p) {l:bH} {n:Nat}(e:p l=.error n):n≤l.length∧(ik l→0 < n):=by have:=h l;rw[e] at this;exact this
theorem cy.len {α:Type} {p:Ps α}(h:cy p) {l r:bH} {x:α}(e:p l=.ok (x,r)):r.length≤l.length:=(h.ok e).1.length_le
theorem cy.of {α:Type} {p:Ps α}(h1:∀l x r,p l=.ok (x,r)→r <:+ l∧(ik l→ik r))(h2:∀l n,p l=.error n→n≤l.length∧(ik l→0 < n)):cy p:=by
 intro l;split
 ·rename_i x r e;exact h1 l _ _ e
 ·rename_i n e;exact h2 l _ e
theorem bo {α:Type}(x:α):cy (pure x:Ps α):=fun l=>⟨List.suffix_refl _,id⟩
theorem ba {α β:Type} {p:Ps α} {f:α→Ps β}(h:cy p)(k:∀x,cy (f x)):cy (p >>= f):=by
 intro l;rw[fw];cases e:p l with
 | error n=>exact h.err e
 | ok y=>
   obtain⟨x,r⟩:=y;obtain⟨h1,h2⟩:=h.ok e;show match f x r with | .ok (_,r)=>r <:+ l∧(ik l→ik r)| .error n=>n≤l.length∧(ik l→0 < n)
   cases e2:f x r with
   | error n=>obtain⟨k1,k2⟩:=(k x).err e2;exact⟨Nat.le_trans k1 h1.length_le,fun hl=>k2 (h2 hl)⟩
   | ok y=>obtain⟨z,r2⟩:=y;obtain⟨k1,k2⟩:=(k x).ok e2;exact⟨k1.trans h1,fun hl=>k2 (h2 hl)⟩
theorem EC {α:Type} {q:bH→Ps α}(h:∀l,cy (q l)):cy (fun l=>q l l):=fun l=>h l l
theorem nZ {α:Type}:cy (xp:Ps α):=fun l=>⟨Nat.le_refl _,ik.pos⟩
theorem pM {α:Type}(s:List UInt8) {p q:Ps α}(hp:cy p)(hq:cy q):cy (fun l=>if av s l then p l.tail else q l):=by
 intro l;by_cases h:av s l=true
 ·obtain⟨t,r,rfl,ht⟩:=fP h;simp only[h,if_true,List.tail_cons];cases e:p r with
  | error n=>obtain⟨k1,k2⟩:=hp.err e;exact⟨by simp;omega,fun hl=>k2 (hl.tail (vI ht))⟩
  | ok y=>obtain⟨z,r2⟩:=y;obtain⟨k1,k2⟩:=hp.ok e;exact⟨k1.trans (List.suffix_cons _ _),fun hl=>k2 (hl.tail (vI ht))⟩
 ·simp only[h];exact hq l
theorem cj (s:List UInt8):cy (may s):=pM s (p:=pure true) (q:=pure false) (bo _) (bo _)
theorem aM (s:List UInt8):cy (must s):=pM s (p:=pure ()) (q:=xp) (bo _) nZ
theorem di:∀ks,cy (dC ks)
 | []=>nZ
 | s::ks=>pM s (p:=pure s) (q:=dC ks) (bo _) (di ks)
theorem CP {α:Type} {c:Wd→Prop} [DecidablePred c] {v:Wd→α}(hc:∀t,c t→t.k≠0):
  cy (fun l=>match l with | []=> .error 0 | t::r=>if c t then .ok (v t,r)else .error (t::r).length:Ps α):=by
 intro l
 match l with
 | []=>exact⟨Nat.le_refl _,fun h=>h.pos⟩
 | t::r=>
   by_cases h:c t
   ·simp only[h,if_true];exact⟨List.suffix_cons _ _,fun hl=>hl.tail (hc t h)⟩
   ·simp only[h];exact⟨Nat.le_refl _,fun hl=>by simp⟩
theorem bB:cy aN:=by
 have:=CP (c:=fun t=>t.k=1∧vC t.s=false) (v:=fun t=>(⟨t.s.toArray⟩:ByteArray)) (fun t h=>by rw[h.1];decide);intro l;have h:=this l
 match l with
 | []=>exact h
 | t::r=>exact h
theorem cC:cy cY:=by
 have:=CP (c:=fun t=>t.k=2) (v:=fun t=>t.n) (fun t h=>by rw[h];decide);intro l;have h:=this l
 match l with
 | []=>exact h
 | t::r=>exact h
theorem CQ {α:Type} {el:Ps α}(h:cy el):∀f acc,cy (nV el f acc)
 | 0,acc=>bo _
 | f+1,acc=>pM ax (p:=do let y ← el;nV el f (acc++ [y])) (q:=pure acc) (ba h fun y=>CQ h f _) (bo _)
theorem cZ {α:Type} {el:Ps α}(h:cy el):cy (dx el):=ba h fun x=>EC (q:=fun l=>nV el l.length [x]) fun l=>CQ h _ _
theorem cU {α:Type} {c:Prop} [Decidable c] {p q:Ps α}(hp:cy p)(hq:cy q):cy (if c then p else q):=by
 split
 ·exact hp
 ·exact hq
def Rl:Tr:=lI 0 []
theorem kf:∀ {ks:List (List UInt8×Int)} {l:bH} {o:Int},gT ks l=some o→∃s,(s,o)∈ks∧av s l=true
 | [],l,o,h=>by simp[gT] at h
 |(s,k)::ks,l,o,h=>by
  simp only[gT] at h;split at h
  ·rename_i hs;injection h with h;subst h;exact⟨s,List.mem_cons_self,hs⟩
  ·obtain⟨s',h1,h2⟩:=kf h;exact⟨s',List.mem_cons_of_mem _ h1,h2⟩
theorem tD {α:Type} {p:Ps α}(hp:cy p) {s:List UInt8} {l:bH}(h:av s l=true):match p l.tail with
 | .ok (_,r)=>r <:+ l∧(ik l→ik r)
 | .error n=>n≤l.length∧(ik l→0 < n):=by
 have:=pM s hp (q:=xp) nZ l;simpa only[h,if_true] using this
theorem zX {below:Ps Tr}(hb:cy below)(lv:Nat):∀f x,cy (lM below lv f x)
 | 0,x=>bo _
 | f+1,x=>by
   intro l;simp only[lM];cases e:gT (opsL lv) l with
   | none=>exact bo x l
   | some o=>obtain⟨s,_,hs⟩:=kf e;exact tD (p:=do let y ← below;lM below lv f (lI o [x,y])) (ba hb fun y=>zX hb lv f _) hs
theorem qE {below:Ps Tr}(hb:cy below)(lv:Nat):cy (lY below lv):=ba hb fun x=>EC (q:=fun l=>lM below lv l.length x) fun l=>zX hb lv _ _
theorem Od {below:Ps Tr}(hb:cy below)(x:Tr):cy (rN below x):=by
 intro l;unfold rN;cases e:gT (opsL 3) l with
 | none=>exact bo x l
 | some o=>obtain⟨s,_,hs⟩:=kf e;exact tD (p:=do let y ← below;return lI o [x,y]) (ba hb fun y=>bo _) hs
theorem Rm {below:Ps Tr}(hb:cy below):cy (vG below):=
 ba hb fun x=>ba (cj _) fun b=>cU (ba (cj _) fun n=>ba (aM _) fun _=>bo _) (Od hb x)
theorem Mb {same below:Ps Tr}(s:List UInt8)(op:Int)(hs:cy same)(hb:cy below):cy (EB s op same below):=by
 refine ba (cj _) fun b=>?_
 split
 ·exact ba hs fun x=>bo _
 ·exact hb
theorem CR {whole:Ps Tr}(hw:cy whole)(op:Int):cy (nW whole op):=
 ba (cU (ba cC fun n=>ba (aM _) fun _=>bo _) (bo _)) fun _=>ba hw fun x=>
  ba (cU (ba (aM _) fun _=>ba hw fun y=>bo _) (bo _)) fun _=>ba (aM _) fun _=>bo _
theorem Rn {whole:Ps Tr}(hw:cy whole)(op:Int):cy (jn whole op):=
 cU (ba (cj _) fun b=>cU (ba (aM _) fun _=>bo _) (CR hw _)) (CR hw op)
theorem JS {whole:Ps Tr}(hw:cy whole):cy (nX whole):=by
 refine ba bB fun n=>?_
 intro l;by_cases h:av aX l=true
 ·simp only[h,if_true];cases e:fT n with
  | none=>exact nZ (α:=Tr) l
  | some op=>exact tD (Rn hw op) h
 ·simp only[h];exact bo (Ch n) l
theorem Oe {whole:Ps Tr}(hw:cy whole):cy (fB whole):=by
 intro l
 match l with
 | []=>exact⟨Nat.le_refl _,fun h=>h.pos⟩
 | t::r=>
   have one:∀(x:Tr),t.k≠0→r <:+ t::r∧(ik (t::r)→ik r):=fun x h=>⟨List.suffix_cons _ _,fun hl=>hl.tail h⟩
   simp only[fB];by_cases h1:t.k=2
   ·simp only[h1,if_true];exact one Rl (by omega)
   by_cases h2:t.k=3
   ·simp only[h1,h2,if_true];exact one Rl (by omega)
   by_cases h3:kO eE t=true
   ·simp only[h1,h2,h3,if_true];exact one Rl (vI h3)
   by_cases h4:kO ei t=true
   ·simp only[h1,h2,h3,h4,if_true];exact one Rl (vI h4)
   by_cases h5:kO cE t=true
   ·simp only[h1,h2,h3,h4,h5,if_true];exact one Rl (vI h5)
   by_cases h6:kO aX t=true
   ·simp only[h1,h2,h3,h4,h5,h6,if_true];exact tD (l:=t::r) (s:=aX) (p:=do let x ← whole;must aq;return x) (ba hw fun x=>ba (aM _) fun _=>bo _) h6
   ·simp only[h1,h2,h3,h4,h5,h6,if_false];exact JS hw (t::r)
theorem ek:∀f lv,cy (pE f lv)
 | 0,_=>nZ
 | f+1,0=>qE (ek f 1) 0
 | f+1,1=>qE (ek f 2) 1
 | f+1,2=>Mb _ _ (ek f 2) (ek f 3)
 | f+1,3=>Rm (ek f 4)
 | f+1,4=>qE (ek f 5) 4
 | f+1,5=>qE (ek f 6) 5
 | f+1,6=>Mb _ _ (ek f 6) (ek f 7)
 | f+1,_+7=>Oe (ek f 0)
theorem cI (lv:Nat):cy (az lv):=EC (q:=fun l=>pE (8*l.length+8 - lv) lv) fun l=>ek _ _
theorem cA:cy cW:=cI 0
end Go.Proofs.YtcneefmaghoejaaGreatDoor
