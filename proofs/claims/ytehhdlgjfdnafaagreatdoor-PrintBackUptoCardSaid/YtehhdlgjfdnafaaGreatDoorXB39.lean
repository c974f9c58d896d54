/- Parts of the proof. -/
import Derived.Laws.CopyOwn
import Derived.Lay
import Derived.LaidMore
import Derived.Stop.LaidErr
import Derived.HandedShaped
import Derived.Deep.DeepHandedRow
import Derived.Test.YtehhdlgjfdnafaaGreatDoorXB33
import Derived.Test.YtehhdlgjfdnafaaGreatDoorXB35
import Derived.Test.YtehhdlgjfdnafaaGreatDoorXB37
import Derived.Test.YtehhdlgjfdnafaaGreatDoorXB38
namespace Go.Proofs.YtehhdlgjfdnafaaGreatDoor
set_option maxHeartbeats 90000000
set_option maxRecDepth 100000
open Go.Lib (hid)
open Go.ChangeShapes Go.WideShapes Go.ChangeAt Go.RowKit Go.Shelf List
set_option linter.unusedVariables false
set_option linter.unusedSimpArgs false
def kS:St:= { kind:=8,query:= { items:=[(.mk 5 ⟨0,0,⟨#[]⟩⟩ ⟨#[]⟩ 0 [.mk 2 ⟨0,0,⟨#[]⟩⟩ ⟨#[97]⟩ 0 [],.mk 7 ⟨0,0,⟨#[]⟩⟩ ⟨#[]⟩ 0 [.mk 1 ⟨2,1,⟨#[]⟩⟩ ⟨#[]⟩ 0 [],.mk 1 ⟨2,2,⟨#[]⟩⟩ ⟨#[]⟩ 0 []]],⟨#[120]⟩)],aK:=⟨#[116]⟩,aR:=[.mk 4 ⟨0,0,⟨#[]⟩⟩ ⟨#[]⟩ 0 [.mk 18 ⟨0,0,⟨#[]⟩⟩ ⟨#[]⟩ 0 [.mk 2 ⟨0,0,⟨#[]⟩⟩ ⟨#[98]⟩ 0 []]]] } }
theorem alL:II kcQ=kS:=by exact Zhj
theorem aaQ:vQ kS=([83,69,76,69,67,84,32,97,32,43,32,40,49,32,42,32,50,41,32,65,83,32,120,32,70,82,79,77,32,116,32,87,72,69,82,69,32,78,79,84,32,40,98,32,73,83,32,78,85,76,76,41],0):=by exact Zhj
theorem aaR:kS.jb 1048576:=by refine⟨?_,?_,?_,?_,?_,?_,?_,?_,?_,?_,?_,?_,?_,⟨?_,?_,?_,?_,?_,?_,?_,?_⟩,?_,?_⟩<;> simp[kS,Tr.fine,Tr.tx,Tr.thin,Tr.ix,Val.Ok,Tr.aQ,Tr.nodes,St.exprs,Qu.exprs,ct] <;> decide
def kE:Ex:=⟨1,⟨2, -1,ByteArray.empty⟩,ByteArray.empty,0,none,0,0⟩
theorem aaS:ait (.mk 1 ⟨2, -1,ByteArray.empty⟩ ByteArray.empty 0 [])=([],21):=by exact Zhj
theorem Rk:(Tr.mk 1 ⟨2, -1,ByteArray.empty⟩ ByteArray.empty 0 []).fine/\(Tr.mk 1 ⟨2, -1,ByteArray.empty⟩ ByteArray.empty 0 []).thin:=by simp[Tr.fine,Tr.tx,Tr.thin,Tr.ix,Val.Ok]
theorem LY (w:World):Calls Tryz.prog 18 #[] w λ e w'=>∃y,e=.returned (ji y)/\kS.at_ w' (eC 0 w') y/\Below w.heap.size w w':=by
 have hB:=aa w (.cells (bD {}).toArray 34);have HB:=hid hB;have K0:=av.new w 34 (bD {}).toArray;go_enter Tryz.func18,Tryz.ntmps18;go_upto_region 1 with fail;change Code.wp _ _ _ _ (w.alloc (.cells (bD {}).toArray 34));generalize w.alloc _=W at*;obtain⟨gz,hgz⟩:∃gz,gz=w.heap.size:=⟨_,rfl⟩;rw[<- hgz] at K0 ⊢;have HZ:=hid hgz;have HK:=hid K0;clear hgz hB K0;go_wp2_with fail;refine(Z6 W).mono ?_;rintro e w1 ⟨qy,rfl,hq,hb⟩;obtain⟨y,hy⟩:∃y:fl,y= { kind:=8,query:=qy }:=⟨_,rfl⟩;have hat:kS.at_ w1 (eC W.heap.size w1) y:=by rw[hy,<- alL];exact QL hq
 rw[<- hy];clear hq hy;obtain⟨cs,hcs⟩:∃cs,cs=(bD y).toArray:=⟨_,rfl⟩;have dK:=hid (show(Tryz.prog.info? 34).map (·.size)=some cs.size by rw[hcs];exact kg y);have mo:=hid (show cN.size=cs.size by rw[hcs,bB];exact bB _);have jM:=hid (show cs.all (·.oneCell')=true by rw[hcs];exact cS _);have HCS:=hid hcs;unfold ji;rw[<- hcs];clear hcs;have jg:=hid (St.at_.keep (gh (aa w1 (.cells cs 34))) hat);have HLT:=hid (show gz < W.heap.size from HK.out.lt);have JK:=hid ((HK.out.later hb).later (aa w1 (.cells cs 34)));have qc:=hid (af.then (af.then HB.out hb) (aa w1 (.cells cs 34)));have HBL:=hid (av.new w1 34 cs);clear hat hb HK HB;go_upto_region 2 with (first
  |(refine wpList_store_row rfl 34 (.tmp 1) (.tmp 6) rfl w1.heap.size cs rfl rfl 34 cN (av.new w1 34 cN) dK.out mo.out jM.out ?_
    rw[jI]))
 change Code.wp _ _ _ _ (w1.alloc (.cells cs 34));generalize w1.heap.size=q1 at*;generalize (World.alloc w1 _)=W2 at*;go_wp2_with (first
  |(refine wpList_load_row rfl 34 (.tmp 1) rfl q1 rfl 34 cs (0,0) _ HBL.out Tryz.underlying34 rfl dK.out ?_)
  |(refine wpList_store_row rfl 34 (.tmp 0) (.tmp 9) rfl gz cs rfl rfl 34 cN JK.out dK.out mo.out jM.out ?_))
 exact bodyPost_ret (v:=.agg cs) (results_cell_row Tryz.results18 _ _ gz 34 _ (0,0) _ rfl (av.row JK.out cs) Tryz.underlying34 rfl dK.out) rfl ⟨y,by rw[HCS.out];rfl,St.at_.keep (λ b hb=>⟨λ _=>rfl,Nat.zero_le _,hb.2⟩) (St.at_.keep (iI W2 HLT.out cs) jg.out),below_setRow qc.out (Nat.le_of_eq HZ.out.symm) cs⟩
theorem pz (w:World)(hE:dy w):Calls Tryz.prog 9 #[] w λ e w'=>e=.returned (.bool true)/\Below w.heap.size w w':=by have HE:=hid hE;clear hE;go_enter Tryz.func9,Tryz.ntmps9;go_wp2_with fail;refine(LY w).mono ?_;rintro e w1 ⟨y,rfl,hat,b1⟩;have jg:=hid hat;have jB:=hid b1;have vU:=hid (show dy w1 from⟨HE.out.lex.later b1,HE.out.val.later b1⟩);clear hat b1;go_wp2_with fail;refine(wk vU.out (λ b hb=>hb.2) jg.out aaR Tab).mono ?_;rintro e w2 ⟨rfl,b2⟩;have qc:=hid (af.then jB.out b2);have yI:=hid (show dy w2 from⟨vU.out.lex.later b2,vU.out.val.later b2⟩);clear b2;rw[aaQ];unfold OB strOf;dsimp only;go_wp2_with fail;refine(OC yI.out (S:=λ _=>False) (λ b hb=>hb.elim) (t:=.mk 1 ⟨2, -1,ByteArray.empty⟩ ByteArray.empty 0 []) (y:=kE) ⟨rfl,rfl,rfl,rfl,rfl,[],.inl rfl,rfl⟩ Rk.1 Rk.2 Tab).mono ?_;rintro e w3 ⟨rfl,b3⟩;have tq:=hid (af.then qc.out b3);clear b3;rw[aaS];unfold OB strOf;dsimp only;go_wp2_with fail;go_ret;exact⟨rfl,tq.out⟩
variable{P:Program}{ops:Array Oper}{rest:List Oper}{o:Oper}{a:Act}{w:World}{Q:Exit->Act->World->Prop}
theorem qT(hw:Region.wanted o (yielded ops a.tmps)=true)(ty:TypeId)(x:Operand)(ho:o.op=.load ty x)
  (g:Nat) (hx:a.eval x=.pointer (some ⟨g,0,none⟩)) (t:TypeId) (cs:Array Value) (fr:Nat×Nat) (d:TypeDesc) (hg:w.heap[g]?=some (.cells cs t fr))
  (hu:P.underlying ty=some d) (hd:(match d with | .struct _ | .array _ _=>true | _=>false)=true) (hi:(P.info? ty).map (·.size)=some cs.size)
  (h:wpList P ops Q rest (a.put o.dst (.agg cs)) w):wpList P ops Q (o::rest) a w:=
 wpList_step λ K hK=>by simp only[hw,if_true];exact wp_load_row ty x ho g hx t cs fr d hg hu hd hi (hK _ _ h)
variable{s:St}
theorem VG:s.exprs.length=s.rows.flatten.length+s.aS.length+s.aR.length+(s.query.items.length+s.query.aR.length+s.query.group.length+s.query.having.length+s.query.order.length):=by simp only[St.exprs,Qu.exprs,length_append,length_map]
variable{m:Nat}
theorem VH(h:s.jb m)(hm:m<=1048576):s.I5:=by obtain⟨l1,l2,l3,l4,l5,l6,l7⟩:=St.lens h hm;rw[VG] at l1;refine⟨by omega,by omega,by omega,by omega,kI _ λ t ht=>(h.aR t ht).2,λ r hr=>⟨kI _ λ t ht=>((h.rows r hr).1 t ht).2,Nat.le_trans (h.rows r hr).2 Tab⟩,λ t ht=>(h.aS t ht).2.1,⟨by omega,by omega,by omega,by omega,by omega,by omega,λ t ht=>(h.query.items t ht).2.1,λ t ht=>(h.query.order t ht).2,kI _ λ t ht=>(h.query.aR t ht).2,kI _ λ t ht=>(h.query.group t ht).2,kI _ λ t ht=>(h.query.having t ht).2⟩⟩
theorem M3(h:s.jb m):s.Lxs:=by
 refine⟨h.every.2,h.parts.2,h.a.2,h.b.2,h.aK.1,h.cP.1,λ t ht=>?_,λ n hn=>(h.query.aG n hn).2⟩;unfold St.exprs Qu.exprs at ht;simp only[mem_append,mem_flatten,mem_map] at ht;rcases ht with ((⟨r,hr,ht⟩|⟨x,hx,rfl⟩)| ht)|((((⟨x,hx,rfl⟩| ht)| ht)| ht)|⟨x,hx,rfl⟩)
 ·exact(((h.rows r hr).1) t ht).1
 ·exact(h.aS x hx).1
 ·exact(h.aR t ht).1
 ·exact(h.query.items x hx).1
 ·exact(h.query.aR t ht).1
 ·exact(h.query.group t ht).1
 ·exact(h.query.having t ht).1
 ·exact(h.query.order x hx).1
theorem aby (o:Option aV):(∃t,pZ o=(t,0)/\t.length<=4096)\/pZ o=([],21)\/pZ o=([],2):=by
 cases o with
 | none=>exact .inr (.inl rfl)
 | some t=>
   unfold pZ;dsimp only;split
   ·exact .inr (.inr rfl)
   ·exact .inl ⟨t,rfl,by omega⟩
variable{S:Nat->Prop}{y:fl}
theorem printBack_any(hE:dy w) (hS:∀b,S b->b < w.heap.size)  (hat:s.at_ w S y) (hf:s.jb m)(hm:m<=1048576):
  Calls Tryz.prog 4 #[ji y] w λ e w'=>e=.returned (.bool true)/\Below w.heap.size w w':=by
 obtain⟨cs,hcs⟩:∃cs,cs=(bD y).toArray:=⟨_,rfl⟩;have dK:=hid (show(Tryz.prog.info? 34).map (·.size)=some cs.size by rw[hcs];exact kg y);have KEEP:∀W,Below w.heap.size w W->s.at_ W S y:=λ W hW=>hat.keep λ b hb=>⟨cell_of_heap (hW.block b (hS b hb)),hb⟩
 have SIN:∀W,Below w.heap.size w W->∀b,S b->b < W.heap.size:=λ W hW b hb=>Nat.lt_of_lt_of_le (hS b hb) hW.size
 have PX:=hid (λ W (hW:Below w.heap.size w W)=>(show dy W from⟨hE.lex.later hW,hE.val.later hW⟩));have HGR:=hid (λ W (hW:Below w.heap.size w W)=>Ma s S m (SIN W hW) (KEEP W hW) hf hm);have HPR:=hid (λ W (hW:Below w.heap.size w W)=>wk (PX.out W hW) (SIN W hW) (KEEP W hW) hf hm);have VI:=hid (λ W W0 y2 (hW:Below w.heap.size w W) (h2:s.at_ W (eC W0 W) y2)=>wk (PX.out W hW) (λ b hb=>hb.2) h2 hf hm);have HST:=hid (λ W W0 y2 (hW:Below w.heap.size w W) (h2:s.at_ W (eC W0 W) y2)=>Vm (SIN W hW) (λ b hb=>hb.2) (KEEP W hW) h2 (VH hf hm) W (Below.refl _ _))
 have hpt:(∃t,vQ s=(t,0)/\t.length<=4096/\lz t=.ok s)\/vQ s=([],21)\/vQ s=([],2):=by
  rcases aby (cF s)with ⟨t,h1,h2⟩| h | h
  ·exact .inl ⟨t,h1,h2,PR (M3 hf) h1⟩
  ·exact .inr (.inl h)
  ·exact .inr (.inr h)
 clear KEEP SIN hE hS hat hf hm;have HB:=hid (aa w (.cells cs 34));have HK:=hid (av.new w 34 cs);unfold ji at HGR HPR VI HST ⊢;rw[<- hcs] at HGR HPR HST ⊢;clear hcs;go_enter Tryz.func4,Tryz.ntmps4;go_upto_region 1 with fail
 change Code.wp _ _ _ _ (w.alloc (.cells cs 34));generalize w.alloc _=W1 at*;obtain⟨gs,Aw⟩:∃gs,gs=w.heap.size:=⟨_,rfl⟩;rw[<- Aw] at HK ⊢;clear Aw;go_wp2_with (first
  |(refine wpList_load_row rfl 34 (.tmp 1) rfl gs rfl 34 cs (0,0) _ HK.out Tryz.underlying34 rfl dK.out ?_))
 refine(HGR.out W1 HB.out).mono ?_;rintro e w2 ⟨b,rfl,b2⟩;have qc:=hid (Below.trans HB.out (b2.mono HB.out.size));have JK:=hid (HK.out.later b2);clear b2 HB HK HGR
 cases b with
 | true=>go_wp2_with fail;refine(pz w2 (PX.out w2 qc.out)).mono ?_;rintro e w3 ⟨rfl,b3⟩;have tq:=hid (Below.trans qc.out (b3.mono qc.out.size));clear b3;go_wp2_with fail;go_ret;exact⟨rfl,tq.out⟩
 | false=>
   go_wp2_with (first
    |(refine wpList_load_row rfl 34 (.tmp 1) rfl gs rfl 34 cs (0,0) _ JK.out Tryz.underlying34 rfl dK.out ?_))
   refine(HPR.out w2 qc.out).mono ?_;rintro e w3 ⟨rfl,b3⟩;have tq:=hid (Below.trans qc.out (b3.mono qc.out.size));have HK3:=hid (JK.out.later b3);clear b3 qc JK HPR;rcases hpt with ⟨t,ht,htl,hpl⟩| ht | ht;rotate_left
   ·exact ZcP
   ·exact ZcP
   rw[ht] at VI;rw[ht];unfold OB strOf at VI ⊢;dsimp only at VI ⊢;clear ht;obtain⟨ts,hts⟩:∃ts:ByteArray,ts=⟨t.toArray⟩:=⟨_,rfl⟩;rw[<- hts] at VI ⊢;have amp:lz ts.data.toList=.ok s:=by rw[hts];simpa using hpl
   have kZ:ts.size<=4294967280:=by rw[hts];show t.toArray.size<=_;simp;omega
   clear hts hpl htl;have HGP:=hid (PD ts w3 (PX.out w3 tq.out).lex kZ);clear kZ;unfold mE at HGP;rw[amp] at HGP;clear amp;go_wp2_with fail;refine HGP.out.mono ?_;rintro e w4 ⟨y2,rfl,h2,b4⟩;have VT:=hid (Below.trans tq.out (b4.mono tq.out.size));have HK4:=hid (HK3.out.later b4);clear b4 tq HK3 HGP;obtain⟨M4,VJ⟩:∃cs,cs=(bD y2).toArray:=⟨_,rfl⟩;have agJ:=hid (show(Tryz.prog.info? 34).map (·.size)=some M4.size by rw[VJ];exact kg y2);have mo:=hid (show cN.size=M4.size by rw[VJ,bB];exact bB _);have jM:=hid (show M4.all (·.oneCell')=true by rw[VJ];exact cS _);have jg:=hid (St.at_.keep (gh (aa w4 (.cells M4 34))) h2);have amq:=hid VJ;unfold ji;rw[<- VJ];clear VJ h2;have HK5:=hid (HK4.out.later (aa w4 (.cells M4 34)));have Z4:=hid (af.then VT.out (aa w4 (.cells M4 34)));have HBL:=hid (av.new w4 34 M4);clear HK4 VT;go_upto_region 7 with (first
    |(refine wpList_store_row rfl 34 (.tmp 5) (.tmp 36) rfl w4.heap.size M4 rfl rfl 34 cN (av.new w4 34 cN) agJ.out mo.out jM.out ?_
      rw[jI]))
   change Code.wp _ _ _ _ (w4.alloc (.cells M4 34));generalize w4.heap.size=q1 at*;generalize (World.alloc w4 _)=W5 at*;go_wp2_with (first
    |(refine qT rfl 34 (.tmp 1) rfl gs rfl 34 cs (0,0) _ HK5.out Tryz.underlying34 rfl dK.out ?_)
    |(refine qT rfl 34 (.tmp 5) rfl q1 rfl 34 M4 (0,0) _ HBL.out Tryz.underlying34 rfl agJ.out ?_))
   have hst:=HST.out W5 _ y2 Z4.out jg.out;rw[<- amq.out] at hst;refine hst.mono ?_;rintro e w6 ⟨rfl,b6⟩;have HB6:=hid (Below.trans Z4.out (b6.mono Z4.out.size));have aro:=hid (HBL.out.later b6);have arp:=hid (St.at_.keep (gh b6) jg.out);clear b6 Z4 HBL jg HST;go_wp2_with (first
    |(refine wpList_load_row rfl 34 (.tmp 5) rfl q1 rfl 34 M4 (0,0) _ aro.out Tryz.underlying34 rfl agJ.out ?_))
   have hpr:=VI.out w6 _ y2 HB6.out arp.out;rw[<- amq.out] at hpr;refine hpr.mono ?_;rintro e w7 ⟨rfl,b7⟩;have Wf:=hid (Below.trans HB6.out (b7.mono HB6.out.size));clear b7 HB6;go_wp2_with fail;refine(pz w7 (PX.out w7 Wf.out)).mono ?_;rintro e w8 ⟨rfl,b8⟩;have HB8:=hid (Below.trans Wf.out (b8.mono Wf.out.size));clear b8;go_wp2_with fail;go_ret;exact⟨rfl,HB8.out⟩
def laidL:List (String×DataW Unit):=Rows.printBackRow.laid
noncomputable def laidW (os:Os):World:=World.laidAll Tryz.prog os laidL
theorem laid_os (os:Os):(laidW os).os=os:=World.laidAll_os _ _ _
theorem laid_met (os:Os)(args:Array Value):laidMetH Tryz.prog laidL ((laidW os).forCall (λ _ _=>0) ⟨#[],args,[]⟩).memory:=by rw[MakeChecks.laidMetH_plain _ _ _ Tac];exact laidMet_laidAll _ Tac Tac
theorem laid_shaped (os:Os)(args:Array Value):((laidW os).forCall (λ _ _=>0) ⟨#[],args,[]⟩).Shaped Tryz.prog:=World.shaped_of_ZipB Tac Tac
variable{H:Type}{enc:TypeId×Value->H}{C:Checked}{os:Os}{f:FuncId}{fn:Func}{conds:List PathCond}{apart:Bool}{laid:List (String×DataW Unit)}
theorem witness_sh{s:OpenSpec}   (w0:World)(args:Array Value)(hos:w0.os=os)
  (Su:(w0.forCall (λ _ _=>0) ⟨#[],args,[]⟩).Shaped C.prog)
  (az:Input.okWideB C.prog (w0.forCall (λ _ _=>0) ⟨#[],args,[]⟩) f ⟨#[],args,[]⟩=true)
  (hrow:s.preRow enc C.prog fn conds apart laid (w0.forCall (λ _ _=>0) ⟨#[],args,[]⟩).memory args):
  ∃(w:World) (tape:Tape) (i:Input),w.os=os/\(w.forCall tape i).Shaped C.prog/\i.vars=[]/\Input.okWide C.prog (w.forCall tape i) .any w.heap.size f i/\
   s.preRow enc C.prog fn conds apart laid (w.forCall tape i).memory i.args/\({}:Assume).holds C.prog (lone (Frame.enter C.prog f i.args .normal) [] (w.forCall tape i)):=
 ⟨w0,λ _ _=>0,⟨#[],args,[]⟩,hos,Su,(Input.okWide_of_okWideB (base:=0) az).1,(Input.okWide_of_okWideB az).2,hrow,by
   simp only[Assume.holds]
   exact⟨by simp,by simp,by simp,by simp,by simp⟩⟩
theorem VM:(Rows.laid_strings_asciiSpace:DataW Unit)=Lib.tabData .u8 Lib.asciiSpaceTab:=by exact Zhj
theorem VN:∀u,Tryz.prog.typeName? 3 u=some "*errors.errorString" ->u=267:=by
 intro u h;have star: "*" ++ "errors.errorString" = "*errors.errorString" :=by decide
 exact typeName_ptr_named (nm:= "errors.errorString") (by rw[star];kernel_rfl) Tac Tab u (by rw[star];exact h)
variable{W:World}
theorem agM(h:laidMetH Tryz.prog laidL W):kX W:=by rw[MakeChecks.laidMetH_plain _ _ _ Tac] at h;have h4:laidMet Tryz.prog (("strconv.ErrRange",.iface "*errors.errorString" (.ptr (.agg [.lit (.string [118,97,108,117,101,32,111,117,116,32,111,102,32,114,97,110,103,101])]))):: [("strconv.ErrSyntax",Rows.laid_strconv_ErrSyntax),("unicode.White_Space",Rows.laid_unicode_White_Space),("strings.asciiSpace",Rows.laid_strings_asciiSpace),("unicode.CaseRanges",Rows.laid_unicode_CaseRanges),("unicode/utf8.first",Rows.laid_unicode_utf8_first)]) W:=h.tail.tail.tail.tail;have h7:laidMet Tryz.prog (("strings.asciiSpace",Rows.laid_strings_asciiSpace):: [("unicode.CaseRanges",Rows.laid_unicode_CaseRanges),("unicode/utf8.first",Rows.laid_unicode_utf8_first)]) W:=h4.tail.tail.tail;rw[VM] at h7;refine⟨Lib.tabIs_of_head (g:=0) (t:=194) (e:=5) (n:=256) Tac Tac Tryz.underlying194 Tryz.underlying5 Tac Tac h7,?_⟩;obtain⟨a,s,hv,_⟩:=laid_sentinel (g:=5) (ti:=132) h4 Tac Tac Tryz.underlying132 VN Tryz.underlying267 Tryz.underlying269 rfl rfl Tryz.underlying9 Tac Tac;exact⟨_,_,hv⟩
theorem env_of(h:laidMetH Tryz.prog laidL W)(hs:W.ShapedOpen Tryz.prog):dy W:=by refine⟨agM h,?_,Go.Proofs.cell_of_shapedOpen_int (zero:= #[.int .i64 0]) (t:=3) hs (of_decide_eq_true Tac) Tac rfl Tac Tac Tryz.underlying3⟩;rw[MakeChecks.laidMetH_plain _ _ _ Tac] at h;have h3:laidMet Tryz.prog (("internal/strconv.uint64pow10",Lib.tabData .u64 Lib.pow10Tab):: [("unicode/utf8.acceptRanges",Rows.laid_unicode_utf8_acceptRanges),("strconv.ErrRange",Rows.laid_strconv_ErrRange),("strconv.ErrSyntax",Rows.laid_strconv_ErrSyntax),("unicode.White_Space",Rows.laid_unicode_White_Space),("strings.asciiSpace",Rows.laid_strings_asciiSpace),("unicode.CaseRanges",Rows.laid_unicode_CaseRanges),("unicode/utf8.first",Rows.laid_unicode_utf8_first)]) W:=h.tail.tail;exact Lib.tabIs_of_head (g:=2) (t:=234) (e:=203) (n:=20) Tac Tac Tryz.underlying234 Tryz.underlying203 Tac Tac h3
variable{base:Nat}{v:Value}{d:DataW H}
theorem stmt_open{p:List MemPlace}(ok:Value.okWide Tryz.prog W .any base 34 v)(k:DataW.Trod enc Tryz.prog W 0 (λ _=>true) true 34 v d p)(hb:Rows.uptoBulk d<=1048576):∃(s:St) (y:fl),v=ji y/\s.at_ W (wP W) y/\s.jb (Rows.uptoBulk d):=by obtain⟨cs,rfl,_⟩:=okWide_struct Tryz.underlying34 ok;obtain⟨fuel,hf⟩:=k;obtain⟨s,y,h,h1,h2⟩:=N5 hf hb;refine⟨s,y,?_,h1,h2⟩;cases cs;simp only[Value.cells] at h;rw[h];rfl
end Go.Proofs.YtehhdlgjfdnafaaGreatDoor
