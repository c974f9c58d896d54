/- Parts of the proof. -/
import Derived.Test.YtehhdlgjfdnafaaGreatDoorRows
import Derived.Lay
import Derived.LaidMore
import Derived.Stop.LaidErr
import Derived.HandedShaped
import Derived.Deep.DeepHandedRow
import Derived.Deep.Strs
import Derived.Test.YtehhdlgjfdnafaaGreatDoorXF14
namespace Go.Proofs.YtehhdlgjfdnafaaGreatDoor
variable{p:Prop}
set_option maxHeartbeats 90000000
set_option maxRecDepth 100000
open Go.Lib (hid)
open Go.ChangeShapes Go.WideShapes Go.ChangeAt Go.RowKit List
set_option linter.unusedVariables false
set_option linter.unusedSimpArgs false
theorem zcY.KaE(h:p:=by go_enter Tryz.func59,Tryz.ntmps59;exact Zaj):p:=h
theorem LC (w:World)(y:Ex)(ys:List Ex)(ds:List Nat)(S:Nat->Prop)(hS:∀b,S b->b < w.heap.size)(hn:y.n=ys.length)(hA:RL aU 7 w S y.A ys)(hd:ds.length=ys.length)(hD:∀(i:Nat) x d,ys[i]?=some x->ds[i]?=some d->sV 59 w x d)(hm:iY ds<=1000000)(hl:ys.length<=1000000000):sV 59 w y (iY ds+1):=by
 open zcY in exact Za1
mutual
theorem Tr.alm {w:World} {S:Nat->Prop}(hS:∀b,S b->b < w.heap.size):∀(t:Tr) (y:Ex),t.at_ w S y->t.thin->t.depth<=1000000->sV 59 w y t.depth
 | .mk op v name width args,y,h,ht,hd=>by unfold Tr.at_ at h;obtain⟨_,_,_,_,hn,ys,hr,ha⟩:=h;unfold Tr.thin at ht;simp only[Tr.depth] at hd ⊢;have hl:=Tr.gq.length ha;rw[ql] at hd ⊢;exact LC w y ys (args.map Tr.depth) S hS (by rw[hn,hl]) hr (by simp[hl]) (Tr.adC hS args ys ha ht.2 Taa) Taa Ta4
theorem Tr.adC {w:World} {S:Nat->Prop}(hS:∀b,S b->b < w.heap.size):∀(ts:List Tr) (ys:List Ex),Tr.gq w S ts ys->Tr.iP ts->iY (ts.map Tr.depth)<=1000000->∀(i:Nat) x d,ys[i]?=some x->(ts.map Tr.depth)[i]?=some d->sV 59 w x d
 | [],ys,h,_,_,i,x,d,hx,hd=>by simp at hd
 | t::ts,ys,h,ht,hm,i,x,d,hx,hd=>by
   unfold Tr.gq at h;obtain⟨y,ys',rfl,h1,h2⟩:=h;unfold Tr.iP at ht;simp only[map_cons,iY] at hm
   match i,hx,hd with
   | 0,hx,hd=>simp at hx hd;subst hx hd;exact Tr.alm hS t y h1 ht.1 Taa
   | i+1,hx,hd=>exact Tr.adC hS ts ys' h2 ht.2 Taa i x d TaY (by simpa using hd)
end
def laidL:List (String×DataW Unit):=Rows.printBackRow.laid
noncomputable def laidW (os:Os):World:=World.laidAll Tryz.prog os laidL
theorem laid_os (os:Os):(laidW os).os=os:=World.laidAll_os _ _ _
theorem laid_met (os:Os)(args:Array Value):laidMetH Tryz.prog laidL ((laidW os).forCall (λ _ _=>0) ⟨#[],args,[]⟩).memory:=by rw[MakeChecks.laidMetH_plain _ _ _ Tac];exact laidMet_laidAll _ Tac Tac
theorem laid_shaped (os:Os)(args:Array Value):((laidW os).forCall (λ _ _=>0) ⟨#[],args,[]⟩).Shaped Tryz.prog:=World.shaped_of_ZipB Tac Tac
variable{H:Type}{enc:TypeId×Value->H}{C:Checked}{os:Os}{f:FuncId}{fn:Func}{s:OpenSpec}{conds:List PathCond}{apart:Bool}{laid:List (String×DataW Unit)}
theorem witness_sh(w0:World)(args:Array Value)(hos:w0.os=os)
  (Tm:(w0.forCall (λ _ _=>0) ⟨#[],args,[]⟩).Shaped C.prog)
  (aC:Input.okWideB C.prog (w0.forCall (λ _ _=>0) ⟨#[],args,[]⟩) f ⟨#[],args,[]⟩=true)
  (hrow:s.preRow enc C.prog fn conds apart laid (w0.forCall (λ _ _=>0) ⟨#[],args,[]⟩).memory args):
  ∃(w:World) (tape:Tape) (i:Input),w.os=os/\(w.forCall tape i).Shaped C.prog/\i.vars=[]/\Input.okWide C.prog (w.forCall tape i) .any w.heap.size f i/\
   s.preRow enc C.prog fn conds apart laid (w.forCall tape i).memory i.args/\({}:Assume).holds C.prog (lone (Frame.enter C.prog f i.args .normal) [] (w.forCall tape i)):=
 ⟨w0,λ _ _=>0,⟨#[],args,[]⟩,hos,Tm,(Input.okWide_of_okWideB (base:=0) aC).1,(Input.okWide_of_okWideB aC).2,hrow,by
   simp only[Assume.holds]
   exact⟨by simp,by simp,by simp,by simp,by simp⟩⟩
theorem WV:(Rows.laid_strings_asciiSpace:DataW Unit)=Lib.tabData .u8 Lib.asciiSpaceTab:=by kernel_rfl
theorem WW:∀u,Tryz.prog.typeName? 3 u=some "*errors.errorString" ->u=267:=by
 intro u h;have star: "*" ++ "errors.errorString" = "*errors.errorString" :=by decide
 exact typeName_ptr_named (nm:= "errors.errorString") (by rw[star];kernel_rfl) Tac Tab u (by rw[star];exact h)
variable{W:World}
theorem ain(h:laidMetH Tryz.prog laidL W):lU W:=by rw[MakeChecks.laidMetH_plain _ _ _ Tac] at h;have h4:laidMet Tryz.prog (("strconv.ErrRange",.iface "*errors.errorString" (.ptr (.agg [.lit (.string [118,97,108,117,101,32,111,117,116,32,111,102,32,114,97,110,103,101])]))):: [("strconv.ErrSyntax",Rows.laid_strconv_ErrSyntax),("unicode.White_Space",Rows.laid_unicode_White_Space),("strings.asciiSpace",Rows.laid_strings_asciiSpace),("unicode.CaseRanges",Rows.laid_unicode_CaseRanges),("unicode/utf8.first",Rows.laid_unicode_utf8_first)]) W:=h.tail.tail.tail.tail;have h7:laidMet Tryz.prog (("strings.asciiSpace",Rows.laid_strings_asciiSpace):: [("unicode.CaseRanges",Rows.laid_unicode_CaseRanges),("unicode/utf8.first",Rows.laid_unicode_utf8_first)]) W:=h4.tail.tail.tail;rw[WV] at h7;refine⟨Lib.tabIs_of_head (g:=0) (t:=194) (e:=5) (n:=256) Tac Tac Tryz.underlying194 Tryz.underlying5 Tac Tac h7,?_⟩;obtain⟨a,s,hv,_⟩:=laid_sentinel (g:=5) (ti:=132) h4 Tac Tac Tryz.underlying132 WW Tryz.underlying267 Tryz.underlying269 rfl rfl Tryz.underlying9 Tac Tac;exact⟨_,_,hv⟩
theorem env_of(h:laidMetH Tryz.prog laidL W)(hs:W.ShapedOpen Tryz.prog):dM W:=by refine⟨ain h,?_,Go.Proofs.cell_of_shapedOpen_int (zero:= #[.int .i64 0]) (t:=3) hs (of_decide_eq_true Tac) Tac rfl Tac Tac Tryz.underlying3⟩;rw[MakeChecks.laidMetH_plain _ _ _ Tac] at h;have h3:laidMet Tryz.prog (("internal/strconv.uint64pow10",Lib.tabData .u64 Lib.pow10Tab):: [("unicode/utf8.acceptRanges",Rows.laid_unicode_utf8_acceptRanges),("strconv.ErrRange",Rows.laid_strconv_ErrRange),("strconv.ErrSyntax",Rows.laid_strconv_ErrSyntax),("unicode.White_Space",Rows.laid_unicode_White_Space),("strings.asciiSpace",Rows.laid_strings_asciiSpace),("unicode.CaseRanges",Rows.laid_unicode_CaseRanges),("unicode/utf8.first",Rows.laid_unicode_utf8_first)]) W:=h.tail.tail;exact Lib.tabIs_of_head (g:=2) (t:=234) (e:=203) (n:=20) Tac Tac Tryz.underlying234 Tryz.underlying203 Tac Tac h3
end Go.Proofs.YtehhdlgjfdnafaaGreatDoor
