/- Parts of the proof. -/
import Derived.Test.YtehhdlgjfdnafaaGreatDoorXE3
import Derived.Test.YtehhdlgjfdnafaaGreatDoorXE4
namespace Go.Proofs.YtehhdlgjfdnafaaGreatDoor
variable{p:Prop}
set_option maxHeartbeats 90000000
set_option maxRecDepth 100000
open Go.Lib (hid)
open Go.ChangeShapes Go.WideShapes Go.ChangeAt Go.RowKit Go.Shelf List
set_option linter.unusedVariables false
set_option linter.unusedSimpArgs false
def WL (g:Nat)(w:World):Nat:=match w.cell? ⟨g,1,none⟩with | some (.int .i64 n)=>n.toNat | _=>0
variable{w:World}{g:Nat}{t:TypeId}{s:ByteArray}{a:Nat}
theorem uX(h:av w g t (qT s a)):WL g w=a:=by unfold WL;rw[(cJ h).2];simp
def At (s:ByteArray)(g:Nat)(w:World)(a:Nat)(w':World):Prop:=av w' g 118 (qT s a)/\w.grownBy w' (some g)
theorem At.refl(h:av w g 118 (qT s a)):At s g w a w:=⟨h,az (Below.refl _ _)⟩
variable{b:Nat}{w':World}
theorem At.set(h:At s g w a w'):At s g w b (w'.setCell ⟨g,1,none⟩ (.int .i64 b)):=⟨h.1.cr 1 _,bn h.2 1 _⟩
variable{w1 w2:World}
theorem At.later(h:At s g w a w1)(k:Below w1.heap.size w1 w2):At s g w a w2:=⟨h.1.later k,ai h.2 (az k)⟩
theorem At.trans(h:At s g w a w1)(k:At s g w1 b w2):At s g w b w2:=⟨k.1,ai h.2 k.2⟩
variable{q:Nat}{cs:Array Value}
theorem At.other(h:At s g w a w')(hq:av w q t cs)(hne:q≠g):av w' q t cs:=hq.grown h.2 λ e=>hne Ta3
theorem At.far(h:At s g w a w')(hq:w.heap.size<=q)(hne:q≠g)(i:Nat)(v:Value):At s g w a (w'.setCell ⟨q,i,none⟩ v):=by
 refine⟨h.1.far (p:=⟨q,i,none⟩) (λ e=>hne e.symm) v,h.2.os,h.2.tape,h.2.output,?_,λ k hk WN=>?_⟩
 ·have:(w'.setCell ⟨q,i,none⟩ v).heap.size=w'.heap.size:=by simp[World.setCell]
  rw[this];exact h.2.size
 ·rw[Below.heap_setCell w' ⟨q,i,none⟩ v k Tad];exact h.2.block k hk WN
variable{d:Value}
theorem aI{a b c:Value}(h:av w q t #[a,b,c,d]):
  w.cell? ⟨q,0,none⟩=some a/\w.cell? ⟨q,1,none⟩=some b/\w.cell? ⟨q,2,none⟩=some c/\w.cell? ⟨q,3,none⟩=some d/\w.frozen? ⟨q,0,none⟩=false/\w.frozen? ⟨q,1,none⟩=false/\w.frozen? ⟨q,2,none⟩=false/\w.frozen? ⟨q,3,none⟩=false:=
 ⟨h.cell 0,h.cell 1,h.cell 2,h.cell 3,h.frozen 0,h.frozen 1,h.frozen 2,h.frozen 3⟩
theorem ua(h:av w g t (qT s a))(i:Nat):w.frozen? ⟨g,i,none⟩=false:=h.frozen i
theorem zH (s p:ByteArray)(w:World):Calls Tryz.prog 101 #[.string s,.string p] w λ e w'=>e=.returned (.bool (Lib.hasPrefix s.data.toList p.data.toList))/\w'=w:=Tryz.strings_HasPrefix s p w
theorem mH (s:ByteArray)(a b:Nat):(s.extract a b).data.toList=(s.data.toList.take b).drop a:=by rw[ByteArray.data_extract,Array.toList_extract,extract_eq_take_drop,drop_take]
theorem Gr (s:ByteArray)(a:Nat):(s.extract a s.size).data.toList=s.data.toList.drop a:=by rw[mH];congr 1;rw[take_of_length_le Tae]
variable{k:Nat}
theorem sN{p:ByteArray}  {b:Bool}(h:Lib.hasPrefix (s.data.toList.drop k) p.data.toList=b)(w:World):Calls Tryz.prog 101 #[.string (s.extract k s.size),.string p] w λ e w'=>e=.returned (.bool b)/\w'=w:=
 (zH _ _ w).mono λ e w' ⟨he,hw⟩=>⟨by rw[he,Gr,h],hw⟩
def dD (s:ByteArray)(a:Nat):Nat:=s.size - (bG false (s.data.toList.drop a)).length
theorem gQ (s:ByteArray)(a:Nat):s.data.toList.drop (dD s a)=bG false (s.data.toList.drop a):=by have h:bG false (s.data.toList.drop a)<:+ s.data.toList:=(lV _ _).trans (List.drop_suffix _ _);have:=drop_suffix h;simpa [dD] using this
theorem mX (s:ByteArray)(a:Nat):dD s a<=s.size:=Nat.sub_le _ _
theorem CN(s:ByteArray) (h:bG false (s.data.toList.drop a)=bG false (s.data.toList.drop b)):dD s a=dD s b:=by unfold dD;rw[h]
theorem Gs(s:ByteArray) (ha:a<=s.size)(h:Lib.hasPrefix (s.data.toList.drop (dR cG s.data.toList a)) [45,45]=false):dD s a=dR cG s.data.toList a:=by rw[lU] at h;have h2:=NK h;unfold dD;rw[h2,<- lU,length_drop];have:=om cG s.data.toList a TaK;simp at this ⊢;omega
theorem Gt(s:ByteArray) (ha:a<=s.size)(h:Lib.hasPrefix (s.data.toList.drop (dR cG s.data.toList a)) [45,45]=true):
  dD s a=dD s (dR (λ c=> !(c==10)) s.data.toList (dR cG s.data.toList a))/\a < dR (λ c=> !(c==10)) s.data.toList (dR cG s.data.toList a):=by
 refine⟨CN s ?_,?_⟩
 ·rw[lU _ _ (dR _ _ _),<- Rq h,lU,<- tY]
 ·have h1:=pX cG s.data.toList a;generalize dR cG s.data.toList a=k at*
  match hk:s.data.toList[k]? with
  | none=>rw[drop_eq_nil_of_le TaB] at h;simp[Lib.hasPrefix] at h
  | some c=>
    rw[drop_at hk] at h;have hc:c=45:=by simp[Lib.hasPrefix,List.isPrefixOf] at h;exact h.1.symm
    subst hc;rw[pj hk Tac];have:=pX (λ c=> !(c==10)) s.data.toList (k+1);omega
def Rt (s:ByteArray)(g a:Nat)(w:World)(e:Ending)(w':World):Prop:=e=.returned (.tuple #[])/\At s g w (dD s a) w'
theorem Gu (s:ByteArray)(g at_:Nat)(w:World)(hL:av w g 118 (qT s at_))(ha:at_<=s.size)(hs:s.size<=4294967280):
  Calls Tryz.prog 65 #[.pointer (some ⟨g,0,none⟩)] w (Rt s g at_ w):=by
 go_enter Tryz.func65,Tryz.ntmps65;go_wp2_with fail;go_loopw [] (λ wr=>∃a:Nat,a<=s.size/\At s g w a wr/\dD s at_=dD s a) (λ wr=>s.size - WL g wr);case atStart=>exact⟨at_,ha,At.refl hL,rfl⟩
 case round=>
  obtain⟨a,ha1,hat,hsk⟩:=hrel;have HS:=hid hsk;clear hsk;obtain⟨c0,c1⟩:=cJ hat.1;have HL:=hid hat.1;have f1:=ua hat.1 1;have hle:=om cG s.data.toList a (by simpa using ha1);have CE:=pX cG s.data.toList a;have HM:=hid (Gt s ha1);have HD:=hid (Gs s ha1);go_wp2_with fail;refine(mG JH s a a g _ HL.out ha1 hs).mono ?_;rintro e w' ⟨rfl,rfl⟩;generalize hk:dR cG s.data.toList a=k at*;have HK:=hid hk;clear hk;simp at hle;go_wp2_with fail;have oK:At s g w k (wr.setCell ⟨g,1,none⟩ (.int .i64 k)):=hat.set;generalize wr.setCell ⟨g,1,none⟩ (.int .i64 k)=W at*;clear c0 c1 f1;obtain⟨c0,c1⟩:=cJ oK.1;have HL2:=hid oK;clear oK;cases hp:Lib.hasPrefix (s.data.toList.drop k) [45,45]
  ·have HP:=hid hp;clear hp;go_quiet ((go_at_call 101;exact Calls.quiet_of_same (sN HP.out _)));go_wp2_with fail;go_end0;refine⟨rfl,?_⟩;rw[HS.out,HD.out HP.out];exact HL2.out.later (cu _ _)
  ·have HP:=hid hp;clear hp;go_quiet ((go_at_call 101;exact Calls.quiet_of_same (sN HP.out _)));have HL3:=hid (HL2.out.later (cu _ nq));have d0:(W.drewN nq).cell? ⟨g,0,none⟩=some (.string s):=c0;have d1:(W.drewN nq).cell? ⟨g,1,none⟩=some (.int .i64 k):=c1;generalize W.drewN nq=W2 at*;clear c0 c1 HL2;have f1:=ua HL3.out.1 1;go_wp2_with fail;refine(mG NR s k k g _ HL3.out.1 hle hs).mono ?_;rintro e w' ⟨rfl,rfl⟩;go_wp2_with fail;have HM2:=hid (HM.out HP.out);go_roundw;case rel=>exact⟨_,by simpa using om (λ c=> !(c==10)) s.data.toList k (by simpa using hle),HL3.out.set,by rw[HS.out,HM2.out.1]⟩
   case measure=>rw[uX hat.1,uX (HL3.out.set (b:=dR (λ c=> !(c==10)) s.data.toList k)).1];have:=HM2.out.2;have:=om (λ c=> !(c==10)) s.data.toList k (by simpa using hle);simp at this;omega
theorem mY (s:ByteArray)(g at_ q:Nat)(k:Int)(t:ByteArray)(n a:Int)(w:World)(hL:av w g 118 (qT s at_)):
  Calls Tryz.prog 145 #[.pointer (some ⟨g,0,none⟩),.agg #[.int .u8 k,.string t,.int .i64 n,.int .i64 a],.int .i64 q] w λ e w'=>e=.returned (.tuple #[.agg #[.int .u8 k,.string t,.int .i64 n,.int .i64 at_],.int .i64 0])/\At s g w q w':=by
 have HL:=hid hL;obtain⟨c0,c1⟩:=cJ hL;have f1:=ua hL 1;have hlt:=hL.lt;go_enter Tryz.func145,Tryz.ntmps145;go_wp2_with fail;refine bodyPost_ret (v:=.tuple #[.agg #[.int .u8 k,.string t,.int .i64 n,.int .i64 at_],.int .i64 0]) ?_ rfl ⟨rfl,?_⟩
 ·simp[results,Tryz.results145,go_sem]
 ·exact((At.refl hL).set (b:=q)).later (((Below.refl _ _).alloc (Nat.le_refl _) _).alloc Tae _)
def Gv (s:ByteArray)(g at_:Nat)(w:World)(r:Except Nat (Wd×List UInt8))(e:Ending)(w':World):Prop:=
 match r with
 | .ok (d,rest)=>e=.returned (.tuple #[.agg #[.int .u8 d.k,.string ⟨d.s.toArray⟩,.int .i64 d.n,.int .i64 at_],.int .i64 0])/\At s g w (s.size - rest.length) w'
 | .error x=>e=.returned (.tuple #[.agg #[.int .u8 0,.string ⟨#[]⟩,.int .i64 0,.int .i64 0],.int .i64 x])/\At s g w at_ w'
theorem Eh(hs:s.size<=4294967280)(h:∀c∈s.data.toList,cj c=true)(w:World):Calls Tryz.prog 146 #[.string s] w λ e w'=>e=.returned (.string ⟨(s.data.toList.map nY).toArray⟩)/\Below w.heap.size w w':=
 Tryz.strings_ToLower_ascii s w Taa λ j b hb=>JF (h b (mem_of_getElem? hb))
theorem jL (p:UInt8->Bool)(s:ByteArray)(k:Nat):(s.extract k (dR p s.data.toList k)).data.toList=(s.data.toList.drop k).takeWhile p:=by rw[mH,<- Gm,drop_take]
theorem Mm (p:UInt8->Bool)(l:List UInt8)(k:Nat):dR p l k - k=((l.drop k).takeWhile p).length:=by unfold dR;omega
theorem pk(p:UInt8->Bool)(s:ByteArray) (hk:k<=s.size):s.size - ((s.data.toList.drop k).dropWhile p).length=dR p s.data.toList k:=by rw[<- lU,length_drop];have:=om p s.data.toList k TaB;simp at this ⊢;omega
variable{P:Program}{n:String}{x:Array Value}
theorem CO(h:w.var? P n=some x)(hb:Below w.heap.size w w'):w'.var? P n=some x:=by
 unfold World.var? at*
 cases hg:P.globalNamed n with
 | none=>rw[hg] at h;simp at h
 | some g=>
   rw[hg] at h;simp only[Option.bind_some] at h ⊢
   have:g < w.heap.size:=by
    rcases Nat.lt_or_ge g w.heap.size with hlt | CE
    ·exact hlt
    ·rw[Array.getElem?_eq_none CE] at h;simp at h
   rw[hb.block g this];exact h
variable{zs:List Int}
theorem CP{k:IntKind} (h:Lib.TabIs P w n k zs)(hb:Below w.heap.size w w'):Lib.TabIs P w' n k zs:=by unfold Lib.TabIs at*;exact CO h hb
structure kg (w:World):Prop where
 space:Lib.TabIs Tryz.prog w "strings.asciiSpace" .u8 Lib.asciiSpaceTab
 range:∃tp p,w.var? Tryz.prog "strconv.ErrRange" =some #[.iface tp p]
theorem kg.later(h:kg w)(hb:Below w.heap.size w w'):kg w':=by obtain⟨tp,p,h2⟩:=h.range;exact⟨CP h.space hb,tp,p,CO h2 hb⟩
def Env (B:Nat)(w:World):Prop:=∃w0,kg w0/\w0.heap.size=B/\Below B w0 w
theorem Env.mk0(h:kg w):Env w.heap.size w:=⟨w,h,rfl,Below.refl _ _⟩
variable{B:Nat}
theorem Env.lib(h:Env B w):kg w:=by obtain⟨w0,h1,rfl,h2⟩:=h;exact h1.later h2
theorem Env.size(h:Env B w):B<=w.heap.size:=by obtain⟨w0,h1,rfl,h2⟩:=h;exact h2.size
theorem Env.below(h:Env B w)(hb:Below B w w'):Env B w':=by obtain⟨w0,h1,h2,h3⟩:=h;exact⟨w0,h1,h2,h3.trans hb⟩
theorem Env.later(h:Env B w)(hb:Below w.heap.size w w'):Env B w':=h.below (hb.mono h.size)
theorem Env.grown(h:Env B w)(hg:w.grownBy w' (some g))(hB:B<=g):Env B w':=h.below (aJ hg h.size hB)
theorem Env.at_(h:Env B w)(hg:At s g w a w')(hB:B<=g):Env B w':=h.grown hg.2 hB
theorem Ru(hs:s.size<=4294967280)(hne:s.data.toList≠ [])(hd:∀c∈s.data.toList,aH c=true)(h:gh s.data.toList<=9223372036854775807)(w:World):
  Calls Tryz.prog 147 #[.string s,.int .i64 10,.int .i64 64] w λ e w'=>e=.returned (.tuple #[.int .i64 (gh s.data.toList:Int),.nilIface])/\Below w.heap.size w w':=by
 refine(Tryz.strconv_ParseInt_10_at64_ok s Taa _ (by rw[zD hne hd,if_pos h]) w).mono ?_;rintro e w' ⟨he,hw⟩;refine⟨he,?_⟩;rcases hw with rfl |⟨t,rfl⟩
 ·exact Below.refl _ _
 ·exact⟨rfl,rfl,rfl,by rw[Lib.bytesWorld_size];omega,λ j hj=>Lib.bytesWorld_at_old w _ _ j hj⟩
theorem Gw(hs:s.size<=4294967280)(hne:s.data.toList≠ [])(hd:∀c∈s.data.toList,aH c=true)(h:¬gh s.data.toList<=9223372036854775807) (hE:Env B w):
  Calls Tryz.prog 147 #[.string s,.int .i64 10,.int .i64 64] w λ e w'=>(∃N,e=.returned (.tuple #[.int .i64 9223372036854775807,.iface 219 (.pointer (some ⟨N,0,none⟩))]))/\Below w.heap.size w w':=by
 obtain⟨tp,p,hv⟩:=hE.lib.range;refine(Tryz.strconv_ParseInt_10_at64_range_var s Taa (by rw[zD hne hd,if_neg h]) tp p w hv).mono ?_;rintro e w' ⟨N,he,_,_,hb⟩;refine⟨⟨N,?_⟩,hb⟩
 have:Lib.intSat 64 s.data.toList=9223372036854775807:=by
  match hl:s.data.toList with
  | []=>exact absurd hl hne
  | c::r=>
    have:=hd c (by rw[hl];exact mem_cons_self);simp[aH,UInt8.le_iff_toNat_le] at this;have e2:¬c.toNat=45:=by omega
    simp[Lib.intSat,e2]
 rw[he,this]
def more (acc:List UInt8)(x:Option (List UInt8×List UInt8)):Option (List UInt8×List UInt8):=x.map λ y=>(acc++y.1,y.2)
theorem Gz (x:Option (List UInt8×List UInt8)):more [] x=x:=by cases x <;> rfl
variable{c:UInt8}
theorem ud(h:c≠39)(r acc:List UInt8):more acc (fJ (c::r))=more (acc++ [c]) (fJ r):=by
 cases r with
 | nil=>simp[fJ,h,more]
 | cons d r=>simp only[fJ,if_neg h,more];cases fJ (d::r)<;> simp
theorem zL (r acc:List UInt8):more acc (fJ (39::39::r))=more (acc++ [39]) (fJ r):=by simp only[fJ,more,if_true];cases fJ r <;> simp
variable{r:List UInt8}
theorem rH(h:r.head?≠some 39)(acc:List UInt8):more acc (fJ (39::r))=some (acc,r):=by
 cases r with
 | nil=>simp[fJ,more]
 | cons d r=>
   have:d≠39:=λ e=>h (by rw[e];rfl)
   simp[fJ,this,more]
theorem rI (B b:Nat)(l:List UInt8)(w:World)(h:Gy B b l w)(hB:B<=w.heap.size):Calls Tryz.prog 49 #[.pointer (some ⟨b,0,none⟩)] w λ e w'=>e=.returned (.string ⟨l.toArray⟩)/\Below B w w':=Tryz.Builder_String_any B b l w h hB
structure ue (s:ByteArray) (g at_:Nat) (w:World) (acc:List UInt8) (w':World):Prop where
 at_:At s g w at_ w'
 buf:Gy (w.heap.size+1) (w.heap.size+1) acc w'
 res:av w' w.heap.size 81 #[.int .u8 0,.string ⟨#[]⟩,.int .i64 0,.int .i64 0]
theorem At.under(h:At s g w a w1)(hb:Below B w1 w2)(hg:g < B)(hB:w.heap.size<=B):At s g w a w2:=
 ⟨h.1.below hb hg,hb.os.trans h.2.os,hb.tape.trans h.2.tape,hb.output.trans h.2.output,Nat.le_trans h.2.size hb.size,λ k hk WN=>(hb.block k Taa).trans (h.2.block k hk WN)⟩
variable{acc:List UInt8}
theorem ue.size{at_:Nat}  (h:ue s g at_ w acc w'):w.heap.size+1<=w'.heap.size:=h.res.lt
variable{w'':World}{abW:List UInt8}
theorem ue.next{at_:Nat}  (h:ue s g at_ w acc w')(hg:g < w.heap.size)(hb:Below (w.heap.size+1) w' w'')(ahm:Gy (w.heap.size+1) (w.heap.size+1) abW w''):ue s g at_ w abW w'':=
 ⟨h.at_.under hb Taa Taa,ahm,h.res.below hb Taa⟩
theorem ze9.Kbq(h:p:=by clear zM;exact ZaT):p:=h
theorem zhZ.KcG(h:p:=by
 clear hq;go_wp2_with fail;refine(zK _ _ acc s[k] _ wG.out.buf Taa hsz).mono ?_;rintro e w1 ⟨rfl,hb,b1⟩;go_wp2_with fail;go_roundw;case rel=>refine⟨k+1,acc++ [s[k]],by omega,by simp;omega,by go_num,wG.out.next hlt b1 hb,?_⟩;rw[HM.out,drop_at HB.out,ud HQ.out]
 case measure=>exact Zcj):p:=h
theorem Rw (s:ByteArray)(g at_:Nat)(w:World)(hL:av w g 118 (qT s at_))(r:List UInt8)(hd:s.data.toList.drop at_=39::r)(hs:s.size<=4294967280):
  Calls Tryz.prog 108 #[.pointer (some ⟨g,0,none⟩)] w (Gv s g at_ w (dF (39::r))):=by
 have ha:at_ < s.size:=by exact ZeL
 have hr:r=s.data.toList.drop (at_+1):=by rw[<- drop_drop,hd];rfl
 subst hr
 have dx:dF (39::s.data.toList.drop (at_+1))=match more [] (fJ (s.data.toList.drop (at_+1)))with
   | some (t,rest)=> .ok (⟨3,t,0⟩,rest)
   | none=> .error 30:=by
  rw[Gz];have h1:bB 39=false:=by decide
  have h2:aH 39=false:=by decide
  simp only[dF,h1,h2];rfl
 obtain⟨c0,c1⟩:=cJ hL;have hlt:=hL.lt;have hne:w.heap.size≠g:=by omega
 generalize dF (39::s.data.toList.drop (at_+1))=R at*;have kh:=hid dx;have BX:=hid hd;clear dx hd;go_enter Tryz.func108,Tryz.ntmps108;go_wp2_with fail;have hT:ue s g at_ w [] ((w.alloc (.cells #[.int .u8 0,.string ⟨#[]⟩,.int .i64 0,.int .i64 0] 81)).alloc (.cells #[.pointer none,.slice none 0 0] 61)):=by refine⟨(At.refl hL).later (((Below.refl _ _).alloc (Nat.le_refl _) _).alloc Tae _),.inl ⟨Nat.le_refl _,.slice none 0 0,?_,⟨rfl,.inl ⟨rfl,rfl⟩⟩,by simp[Value.ownBlock]⟩,(av.new w _ _).alloc _⟩;have:=heap_alloc_new (w.alloc (.cells #[.int .u8 0,.string ⟨#[]⟩,.int .i64 0,.int .i64 0] 81)) (.cells #[.pointer none,.slice none 0 0] 61);simpa using this
 generalize (w.alloc (.cells #[.int .u8 0,.string ⟨#[]⟩,.int .i64 0,.int .i64 0] 81)).alloc (.cells #[.pointer none,.slice none 0 0] 61)=W at*;clear c0 c1;obtain⟨c0,c1⟩:=cJ hT.at_.1;have HT:=hid hT;clear hT;go_wp2_with fail;go_loopw [5] (λ u wr=>∃(k:Nat) (acc:List UInt8),k<=s.size/\acc.length<=k/\u=.int .i64 k/\ue s g at_ w acc wr/\more [] (fJ (s.data.toList.drop (at_+1)))=more acc (fJ (s.data.toList.drop k))) (λ u _=>s.size - (intOf u).toNat);case atStart=>exact⟨at_+1,[],ha,by simp,by go_num,HT.out,rfl⟩
 case round=>
  obtain⟨k,acc,hk,nZ,rfl,hT,hm⟩:=hrel;have HM:=hid hm;clear hm c0 c1;obtain⟨c0,c1⟩:=cJ hT.at_.1;have hsz:=hT.size;have wG:=hid hT;clear hT;have HLEN:=hid (show s.data.toList.length=s.size by simp);by_cases hks:k < s.size
  ·have HB:=hid (byte_at s k hks);by_cases hq:s[k]=39
   ·have HQ:=hid hq;have t1:(((s[k].toNat:Nat):Int)==39)=true:=by rw[hq];rfl
    clear hq;by_cases yu:k+1 < s.size
    ·have mn:=hid (byte_at s (k+1) yu);have n1:¬((k:Int)+1=s.size):=by omega
     have n2:(((k:Int)+1)==(s.size:Int))=false:=by simpa using n1
     by_cases zM:s[k+1]=39
     ·have oL:=hid zM;have t2:(((s[k+1].toNat:Nat):Int)==39)=true:=by rw[zM];rfl
      have t3:(((s[k+1].toNat:Nat):Int) != 39)=false:=by rw[zM];rfl
      clear zM;go_wp2_with fail;rw[oL.out];refine(zK _ _ acc 39 _ wG.out.buf Taa hsz).mono ?_;rintro e w1 ⟨rfl,hb,b1⟩;go_wp2_with fail;go_roundw;case rel=>refine⟨k+2,acc++ [39],by omega,by simp;omega,by go_num,wG.out.next hlt b1 hb,?_⟩;rw[HM.out,drop_at HB.out,drop_at mn.out,HQ.out,oL.out,zL]
      case measure=>exact Zcj
     ·open ze9 in exact ZcG
    ·have n1:((k:Int)+1=s.size):=by omega
     have n2:(((k:Int)+1)==(s.size:Int))=true:=by simpa using n1
     have n3:s.size=k+1:=by omega
     have JN:=hid (show(s.data.toList.drop (k+1)).head?≠some 39 by rw[drop_eq_nil_of_le Tao];simp);have HN3:=hid n3;clear n3 n1;exact ZaT
   ·open zhZ in exact ZgH
  ·have JO:=hid (show s.data.toList.drop k=[] by rw[drop_eq_nil_of_le Tao]);obtain⟨z0,z1,z2,z3,y0,y1,y2,y3⟩:=aI wG.out.res;go_wp2_with fail;refine bodyPost_ret (v:=.tuple #[.agg #[.int .u8 0,.string ⟨#[]⟩,.int .i64 0,.int .i64 0],.int .i64 30]) ?_ rfl ?_
   ·simp[results,Tryz.results108,go_sem,z0,z1,z2,z3]
   ·rw[kh.out,HM.out,JO.out];exact⟨rfl,(((wG.out.at_.far (Nat.le_refl _) hne 0 _).far (Nat.le_refl _) hne 1 _ |>.far (Nat.le_refl _) hne 2 _ |>.far (Nat.le_refl _) hne 3 _))⟩
theorem zN(s:ByteArray)(l:List (List UInt8))(hl:Lib.fields s.data.toList=l)(hs:s.size < 4294967281)(zG:s.data.toList.all (λ b=>b.toNat < 128)=true)  (hE:Env B w):
  Calls Tryz.prog 149 #[.string s] w λ e w'=>e=.returned (.slice (some ⟨w.heap.size,0,none⟩) l.length l.length)/\w'=w.alloc (.cells (l.map λ l=>Value.string ⟨l.toArray⟩).toArray 9):=by refine(Tryz.strings_Fields s w hs (λ j b hb=>of_decide_eq_true (List.all_eq_true.1 zG b (mem_of_getElem? hb))) hE.lib.space).mono ?_;rintro e w' ⟨rfl,rfl⟩;rw[hl];exact⟨rfl,rfl⟩
theorem uf (w:World)(a b:Nat):(w.drewN a).drewN b=w.drewN (a+b):=by simp[World.drewN,Nat.add_assoc]
def Ry:ByteArray:=⟨#[60,62,32,60,61,32,62,61,32,40,32,41,32,44,32,42,32,43,32,45,32,47,32,37,32,61,32,60,32,62,32,59]⟩
theorem Eo:Lib.fields Ry.data.toList=signs:=by decide+kernel
variable{i:Nat}
theorem Mn(hi:i < 15):∃x,signs[i]?=some x/\signs.drop i=x::signs.drop (i+1)/\1<=x.length/\x.length<=2:=by
 have key:∀i,i < 15->∃x,signs[i]?=some x/\1<=x.length/\x.length<=2:=by
  intro i hi
  match i,hi with
  | 0,_ | 1,_ | 2,_ | 3,_ | 4,_ | 5,_ | 6,_ | 7,_ | 8,_ | 9,_ | 10,_ | 11,_ | 12,_ | 13,_ | 14,_=>exact⟨_,rfl,by decide,by decide⟩
  | n+15,h=>omega
 obtain⟨x,h1,h2,h3⟩:=key i hi;refine⟨x,h1,?_,h2,h3⟩;have hlt:i < signs.length:=hi;rw[drop_eq_getElem_cons hlt];rw[getElem?_eq_getElem hlt] at h1;injection h1 with h1;rw[h1]
theorem zic.KcM(h:p:=by
 have HS:=hid (av.new (w.alloc (.cells #[.int .u8 0,.string ⟨#[]⟩,.int .i64 0,.int .i64 0] 81)) 9 (signs.map λ l=>Value.string ⟨l.toArray⟩).toArray);have hat:At s g w at_ ((w.alloc (.cells #[.int .u8 0,.string ⟨#[]⟩,.int .i64 0,.int .i64 0] 81)).alloc (.cells (signs.map λ l=>Value.string ⟨l.toArray⟩).toArray 9)):=(At.refl hL).later (((Below.refl _ _).alloc (Nat.le_refl _) _).alloc Tae _);generalize hb:(w.alloc (.cells #[.int .u8 0,.string ⟨#[]⟩,.int .i64 0,.int .i64 0] 81)).heap.size=b at*;obtain rfl:b=w.heap.size+1:=by rw[<- hb];simp
 generalize (w.alloc (.cells #[.int .u8 0,.string ⟨#[]⟩,.int .i64 0,.int .i64 0] 81)).alloc (.cells (signs.map λ l=>Value.string ⟨l.toArray⟩).toArray 9)=W at*;clear c0 c1 hb;have iO:=hid hat;have hlen:signs.length=15:=rfl;rw[hlen];clear hlen hat;go_wp2_with fail;go_loopw [8] (λ u wr=>∃i n:Nat,i<=15/\u=.int .i64 i/\wr=W.drewN n/\gV signs (s.data.toList.drop at_)=gV (signs.drop i) (s.data.toList.drop at_)) (λ u _=>15 - (intOf u).toNat);case atStart=>exact⟨0,0,by omega,rfl,rfl,rfl⟩
 case round=>
  obtain⟨i,n,hi,rfl,rfl,Zi⟩:=hrel;have Zj:=hid Zi;clear Zi;by_cases RA:i < 15
  ·obtain⟨x,hx,Zk,hx1,hx2⟩:=Mn RA;have hcell:(W.drewN n).cell? ⟨w.heap.size+1,i,none⟩=some (.string ⟨x.toArray⟩):=by rw[(HS.out.drewN n).cell i];simp[hx]
   have WO:=hid (iO.out.later (cu W n));have HZn:=hid (HZ.out.drewN n);obtain⟨c0,c1⟩:=cJ WO.out.1;generalize hWn:W.drewN n=Wn at*;have HWN:=hid hWn;have HX:=hid hx;have NV:=hid Zk;clear hWn hx Zk;cases hp:Lib.hasPrefix (s.data.toList.drop at_) x
   ·have HP:=hid hp;clear hp;go_wp2_with fail;go_quiet ((go_at_call 101;exact Calls.quiet_of_same (sN HP.out _)));go_wp2_with fail;go_roundw
    case rel=>
     refine⟨i+1,n+nq,by omega,by go_num,?_,?_⟩
     ·rw[<- HWN.out];exact uf W n nq
     ·rw[Zj.out,NV.out,gV,if_neg];have:=HP.out;simp only[Lib.hasPrefix] at this;rw[this];decide
    case measure=>exact Zcj
   ·have HP:=hid hp;clear hp;go_wp2_with fail;go_quiet ((go_at_call 101;exact Calls.quiet_of_same (sN HP.out _)));have L4:=hid (WO.out.later (cu Wn nq));have HZq:=hid (HZn.out.drewN nq);generalize Wn.drewN nq=Wq at*;clear c0 c1 hcell;obtain⟨c0,c1⟩:=cJ L4.out.1;go_wp2_with fail;have Zl:((at_:Int)+(x.length:Int))=((at_+x.length:Nat):Int):=by omega
    rw[Zl];refine(mY s g at_ (at_+x.length) 4 ⟨x.toArray⟩ 0 0 _ L4.out.1).mono ?_;rintro e w2 ⟨rfl,oK⟩;obtain⟨z0,z1,z2,z3,y0,y1,y2,y3⟩:=aI (oK.other HZq.out hne);clear Zl;go_wp2_with fail;refine bodyPost_ret (v:=.tuple #[.agg #[.int .u8 4,.string ⟨x.toArray⟩,.int .i64 0,.int .i64 at_],.int .i64 0]) ?_ rfl ?_
    ·simp[results,Tryz.results109,go_sem,z0,z1,z2,z3]
    ·have e1:gV signs (s.data.toList.drop at_)=some x:=by rw[Zj.out,NV.out,gV,if_pos];exact HP.out
     rw[kh.out,e1];refine⟨rfl,?_⟩;show At s g w (s.size - _) _
     have e2:s.size - ((s.data.toList.drop at_).drop x.length).length=at_+x.length:=by
      have h4:x.length<=(s.data.toList.drop at_).length:=by have:=HP.out;simp only[Lib.hasPrefix,isPrefixOf_iff_prefix] at this;exact this.length_le
      rw[length_drop] at h4 ⊢;simp at h4 ⊢;omega
     rw[e2];exact(((L4.out.trans oK).far (Nat.le_refl _) hne 0 _).far (Nat.le_refl _) hne 1 _ |>.far (Nat.le_refl _) hne 2 _ |>.far (Nat.le_refl _) hne 3 _)
  ·obtain rfl:i=15:=by omega
   have WO:=hid (iO.out.later (cu W n));have HZn:=hid (HZ.out.drewN n);generalize W.drewN n=Wn at*;obtain⟨z0,z1,z2,z3,y0,y1,y2,y3⟩:=aI HZn.out;go_wp2_with fail;refine bodyPost_ret (v:=.tuple #[.agg #[.int .u8 0,.string ⟨#[]⟩,.int .i64 0,.int .i64 0],.int .i64 30]) ?_ rfl ?_
   ·simp[results,Tryz.results109,go_sem,z0,z1,z2,z3]
   ·rw[kh.out,Zj.out];exact⟨rfl,(((WO.out.far (Nat.le_refl _) hne 0 _).far (Nat.le_refl _) hne 1 _ |>.far (Nat.le_refl _) hne 2 _ |>.far (Nat.le_refl _) hne 3 _))⟩):p:=h
theorem Rz (B:Nat)(s:ByteArray)(g at_:Nat)(w:World)(hE:Env B w)(hB:B<=g)(hL:av w g 118 (qT s at_))(c:UInt8)(r:List UInt8)(hd:s.data.toList.drop at_=c::r)(h1:bB c=false)(h2:aH c=false)(h3:c≠39)(hs:s.size<=4294967280):
  Calls Tryz.prog 109 #[.pointer (some ⟨g,0,none⟩)] w (Gv s g at_ w (dF (c::r))):=by
 have ha:at_ < s.size:=by exact ZeL
 have dx:dF (c::r)=match gV signs (s.data.toList.drop at_)with
   | some x=> .ok (⟨4,x,0⟩,(s.data.toList.drop at_).drop x.length)
   | none=> .error 30:=by
  rw[hd];simp only[dF,h1,h2,if_neg h3];rfl
 obtain⟨c0,c1⟩:=cJ hL;have hlt:=hL.lt;have hne:w.heap.size≠g:=by omega
 generalize dF (c::r)=R at*;have kh:=hid dx;clear dx hd;go_enter Tryz.func109,Tryz.ntmps109;go_wp2_with fail;have bb:=aa w (.cells #[.int .u8 0,.string ⟨#[]⟩,.int .i64 0,.int .i64 0] 81);refine(zN Ry signs Eo Ta9 Ta9 (hE.later bb)).mono ?_;rintro e w1 ⟨rfl,rfl⟩;open zic in exact Zg7
def eO (w:World)(g:Nat)(es:Array MapEntry)(c:Nat):World:= { w with heap:=w.heap.setIfInBounds g (.map es c)}
variable{w0:World}
theorem ki(h:Below B w0 w)(g:Nat)(hg:B<=g)(es:Array MapEntry)(c:Nat):Below B w0 (eO w g es c):=by
 refine⟨h.os,h.tape,h.output,?_,λ k hk=>?_⟩
 ·have:=h.size;simp[eO];exact this
 ·rw[<- h.block k hk];simp only[eO,Array.getElem?_setIfInBounds];rw[if_neg Taa]
variable{es es':Array MapEntry}{c':Nat}
theorem mZ{c:Nat}(hg:w.heap[g]?=some (.map es c)):(eO w g es' c').heap[g]?=some (.map es' c'):=by
 rcases Nat.lt_or_ge g w.heap.size with hlt | CE
 ·simp[eO,hlt]
 ·rw[Array.getElem?_eq_none CE] at hg;cases hg
theorem zO(es:Array MapEntry)(c:Nat)(h:g≠q):(eO w g es c).heap[q]?=w.heap[q]?:=by simp only[eO,Array.getElem?_setIfInBounds];rw[if_neg h]
def entry (x:List UInt8)(i:Nat):MapEntry:=⟨.string ⟨x.toArray⟩,.bool true,i⟩
def dh:List (List UInt8)->Nat->List MapEntry
 | [],_=> []
 | x::l,i=>entry x i::dh l (i+1)
theorem uY (x:List UInt8):∀(l:List (List UInt8)) (i:Nat),dh (l++ [x]) i=dh l i++ [entry x (i+l.length)]
 | [],i=>rfl
 | y::l,i=>by simp only[cons_append,dh,uY x l (i+1),length_cons];rw[show i+1+l.length=i+(l.length+1) by omega]
theorem bytes_beq (a b:ByteArray):(a==b)=(a.data.toList==b.data.toList):=by rcases a with ⟨⟨a⟩⟩;rcases b with ⟨⟨b⟩⟩;show((⟨a⟩:Array UInt8)==⟨b⟩)=(a==b);simp
theorem ug (k:ByteArray):∀(l:List (List UInt8)) (i j:Nat),if l.contains k.data.toList=true then∃n,Instr.findNow .string (.string k) (dh l i) j=some (some (n,.bool true))else Instr.findNow .string (.string k) (dh l i) j=some none
 | [],i,j=>by simp[dh,Instr.findNow]
 | x::l,i,j=>by
   have ih:=ug k l (i+1) (j+1);have e:Instr.sameNow .string (.string k) (entry x i).key=some (k.data.toList==x):=by show some (k==(⟨x.toArray⟩:ByteArray))=_;rw[bytes_beq]
   rw[contains_cons];cases hx:(k.data.toList==x)
   ·rw[Bool.false_or];have e2:Instr.findNow .string (.string k) (dh (x::l) i) j=Instr.findNow .string (.string k) (dh l (i+1)) (j+1):=by simp only[dh,Instr.findNow,e,hx]
    rw[e2];exact ih
   ·rw[Bool.true_or,if_pos rfl];exact⟨j,by simp only[dh,Instr.findNow,e,hx];rfl⟩
def GA (w:World)(g:Nat)(l:List (List UInt8)):Prop:=w.heap[g]?=some (.map (dh l 0).toArray l.length)
theorem uh (e:Bool)(k:ByteArray)(w:World):(Instr.checkKey e 10000 9 (.string k)).run Tryz.prog w=.ok () w:=
 MapKept.run_checkKey Tryz.underlying9 Taw e 9999
variable{l:List (List UInt8)}
theorem Ep(hg:GA w g l) {x:List UInt8}(hx:l.contains x=false):
  (Instr.mapUpdate 186 (.map (some g)) (.string ⟨x.toArray⟩) (.bool true)).run Tryz.prog w=.ok () (eO w g (dh (l++ [x]) 0).toArray (l.length+1)):=by have hf:=ug ⟨x.toArray⟩ l 0 0;rw[if_neg TaJ] at hf;unfold Instr.mapUpdate;simp only[Sem.run_bind,run_underlying Tryz.underlying186,Result.andThen_ok,MapKept.run_getObj_map hg,uh,Instr.findKey,run_underlying Tryz.underlying9,hf,Sem.run_pure,MapKept.run_setObj_map _ hg];rw[uY];simp[eO,entry]
theorem BZ(hg:GA w g l)(k:ByteArray):
  (Instr.lookup 186 (.map (some g)) (.string k) false).run Tryz.prog w=.ok (.bool (l.contains k.data.toList)) w:=by
 have hf:=ug k l 0 0;unfold Instr.lookup;cases hc:l.contains k.data.toList
 ·rw[if_neg (by rw[hc];decide)] at hf;simp only[Sem.run_bind,run_underlying Tryz.underlying186,Result.andThen_ok,MapKept.run_getObj_map hg,uh,Instr.findKey,run_underlying Tryz.underlying9,hf,Sem.run_pure,Tryz.zeroValue4];rfl
 ·rw[if_pos hc] at hf;obtain⟨n,hf⟩:=hf;simp only[Sem.run_bind,run_underlying Tryz.underlying186,Result.andThen_ok,MapKept.run_getObj_map hg,uh,Instr.findKey,run_underlying Tryz.underlying9,hf,Sem.run_pure];rfl
def abZ:ByteArray:=⟨(([97,110,100,32,97,115,32,98,121,32,99,97,108,108,32,99,114,101,97,116,101,32,100,101,108,101,116,101,32,100,101,115,99,32,100].append [114,111,112,32,102,97,108,115,101,32,102,114,111,109,32,103,114,111,117,112,32,104,97,118,105,110,103,32,105,110,115,101,114,116,32,105]).append ([110,116,111,32,105,115,32,108,105,109,105,116,32,110,111,116,32,110,117,108,108,32,111,110,108,121,32,111,114,32,111,114,100,101,114].append [32,115,101,108,101,99,116,32,115,101,116,32,116,114,117,101,32,117,112,100,97,116,101,32,118,97,108,117,101,115,32,119,104,101,114,101])).toArray⟩
theorem JP:Lib.fields abZ.data.toList=jr:=by decide+kernel
theorem yP:jr.length=27:=by decide+kernel
theorem RB(hi:i < 27):∃x,jr[i]?=some x/\jr.take (i+1)=jr.take i++ [x]/\(jr.take i).contains x=false:=by
 have hlt:i < jr.length:=by rw[yP];exact hi
 refine⟨jr[i],getElem?_eq_getElem hlt,by rw[take_succ_eq_append_getElem hlt],?_⟩;have key:(List.range 27).all (λ i=> !(jr.take i).contains (jr.getD i []))=true:=by decide+kernel
 have:=List.all_eq_true.1 key i (List.mem_range.2 hi);rw[getD_eq_getElem?_getD,getElem?_eq_getElem hlt] at this;exact Zep
structure Zm (w:World) (i:Nat) (wr:World):Prop where
 map:GA wr w.heap.size (jr.take i)
 Wa:av wr (w.heap.size+1) 9 (jr.map λ l=>Value.string ⟨l.toArray⟩).toArray
 QQ:Below w.heap.size w wr
theorem Er(w:World)(hE:Env B w):Calls Tryz.prog 166 #[] w λ e w'=>e=.returned (.map (some w.heap.size))/\GA w' w.heap.size jr/\Below w.heap.size w w':=by
 have Wb:= @run_makeMap Tryz.prog;go_enter Tryz.func166,Tryz.ntmps166;go_wp2_with fail;have b0:=aa w (.map #[] 0);refine(zN abZ jr JP Ta9 Ta9 (hE.later b0)).mono ?_;rintro e w1 ⟨rfl,rfl⟩;rw[yP]
 have hR:Zm w 0 ((w.alloc (.map #[] 0)).alloc (.cells (jr.map λ l=>Value.string ⟨l.toArray⟩).toArray 9)):=by
  refine⟨?_,?_,b0.trans (((Below.refl _ _).alloc (Nat.le_refl _) _).mono b0.size)⟩
  ·exact(Below.heap_alloc _ _ _ Tae).trans (heap_alloc_new w _)
  ·have:=av.new (w.alloc (.map #[] 0)) 9 (jr.map λ l=>Value.string ⟨l.toArray⟩).toArray;exact Zep
 have hs1:(w.alloc (.map #[] 0)).heap.size=w.heap.size+1:=by simp
 rw[hs1];generalize (w.alloc (.map #[] 0)).alloc (.cells (jr.map λ l=>Value.string ⟨l.toArray⟩).toArray 9)=W at*;have HR:=hid hR;clear hR hs1 b0;go_wp2_with fail;go_loopw [7] (λ u wr=>∃i:Nat,i<=27/\u=.int .i64 i/\Zm w i wr) (λ u _=>27 - (intOf u).toNat);case atStart=>exact⟨0,by omega,rfl,HR.out⟩
 case round=>
  obtain⟨i,hi,rfl,hr⟩:=hrel;have JQ:=hid hr;clear hr;by_cases hlt:i < 27
  ·obtain⟨x,hx,xH,hc⟩:=RB hlt;have hcell:=JQ.out.Wa.cell i;have hx2:(jr.map λ l=>Value.string ⟨l.toArray⟩).toArray[i]?=some (.string ⟨x.toArray⟩):=by simp[hx]
   rw[hx2] at hcell;have hput:=Ep JQ.out.map hc;have L5:=hid xH;clear hx xH hc hx2;go_wp2_with fail;go_roundw
   case rel=>
    refine⟨i+1,by omega,by go_num,?_,?_,?_⟩
    ·rw[L5.out];have:=mZ (es':=(dh (jr.take i++ [x]) 0).toArray) (c':=(jr.take i).length+1) JQ.out.map;unfold GA;rw[length_append,length_singleton];rw[<- length_take];exact this
    ·exact(zO _ _ Taa).trans JQ.out.Wa
    ·exact ki JQ.out.QQ _ (Nat.le_refl _) _ _
   case measure=>exact Zcj
  ·obtain rfl:i=27:=by omega
   go_wp2_with fail;refine bodyPost_ret (v:=.map (some w.heap.size)) ?_ rfl ⟨rfl,?_,JQ.out.QQ⟩
   ·simp[results,Tryz.results166,go_sem]
   ·have:=JQ.out.map;rwa [take_of_length_le (Nat.le_of_eq yP)] at this
theorem Ca (l:List UInt8):jr.contains l=jT l:=rfl
theorem uZ {B:Nat}(s:ByteArray)(w:World)(hE:Env B w):Calls Tryz.prog 139 #[.string s] w λ e w'=>e=.returned (.bool (jT s.data.toList))/\Below w.heap.size w w':=by go_enter Tryz.func139,Tryz.ntmps139;go_wp2_with fail;refine(Er w hE).mono ?_;rintro e w1 ⟨rfl,hm,b1⟩;have hl:=BZ hm s;rw[Ca] at hl;clear hm;go_wp2_with fail;go_ret;exact⟨rfl,b1⟩
theorem Ei(s:ByteArray) {at_:Nat}  (hd:s.data.toList.drop at_=c::r)(hc:aH c=true):
  (s.extract at_ (dR aH s.data.toList at_)).data.toList=(c::r).takeWhile aH/\(c::r).takeWhile aH≠ []:=by rw[jL,hd];exact⟨rfl,by rw[takeWhile_cons,if_pos hc];simp⟩
theorem JI(s:ByteArray) (hk:k<=s.size):((s.data.toList.drop k).head?.any bB=true↔k < dR bB s.data.toList k):=by
 cases h:s.data.toList[k]? with
 | none=>rw[drop_eq_nil_of_le Tam,uV Tam];simp
 | some d=>
   rw[drop_at h];cases hp:bB d
   ·rw[yN h hp];simp[hp]
   ·rw[pj h hp];have:=pX bB s.data.toList (k+1);simp[hp];omega
theorem JJ{l:List UInt8}(hne:l≠ []):(decide (l.length<=1)|| !(l.head?==some 48))= !(l.head?==some 48 && !(l== [48])):=by
 match l with
 | []=>exact absurd rfl hne
 | [c]=>by_cases h:c=48 <;> simp[h]
 | c::d::r=>by_cases h:c=48 <;> simp[h]
theorem zfl.Kbw(h:p:=by
 go_quiet (fail);generalize s.extract at_ k=x at*;have bb2:=bb.trans ((cu _ nq).mono bb.size);have gw:At s g w at_ _:=(At.refl hL).later bb2;have BV:=hid (HZ.out.drewN nq);generalize (w.alloc (.cells #[.int .u8 0,.string ⟨#[]⟩,.int .i64 0,.int .i64 0] 81)).drewN nq=W at*;have wu:=hid (hE.later bb2);have hx0:q.head?=some x[0]:=by rw[<- HX.out,head?_eq_getElem?];exact byte_at x 0 JL
 have hxl:x.toList=q:=by rw[ByteArray.toList_eq];exact HX.out
 have zI:=hid hx0;have HXL:=hid hxl;clear hx0 hxl;go_wp2_with fail;by_cases hv:gh q<=9223372036854775807
 ·refine(Ru lW (by rw[HX.out];exact HN.out) (by rw[HX.out];exact Ej.out) (by rw[HX.out];exact hv) _).mono ?_;rintro e w1 ⟨rfl,b1⟩;rw[HX.out];have JM:=gw.later b1;have BM:=hid (BV.out.later b1);obtain⟨d0,d1⟩:=cJ JM.1;have BN:=hid JM;clear JM;obtain⟨z0,z1,z2,z3,y0,y1,y2,y3⟩:=aI BM.out;by_cases hb:q.head?=some 48/\q≠ [48]
  ·have Ek:R=.error 30:=by rw[kh.out,if_neg];rw[pd,HZF.out];simp[hb.1,hb.2]
   have Em:=hid Ek;clear Ek;have t1:(((x[0].toNat:Nat):Int)==48)=true:=by have:=zI.out.symm.trans hb.1;injection this with this;rw[this];rfl
   have t2:¬x.toList=[48]:=by rw[HXL.out];exact hb.2
   have t3:(x.toList== [48])=false:=by simpa using t2
   clear hb;exact ZaM
  ·by_cases BW:k < dR bB s.data.toList k
   ·have Ek:R=.error 30:=by rw[kh.out,if_neg];rw[Zh.out.2 BW];simp
    have Em:=hid Ek;clear Ek;have g2:=decide_eq_true (show(k:Int)<(dR bB s.data.toList k:Nat) by omega);have g3:=decide_eq_true BW;by_cases QP:x[0]=48
    ·have t1:(((x[0].toNat:Nat):Int)==48)=true:=by rw[QP];rfl
     have t2:x.toList=[48]:=by exact Zf9
     have t3:(x.toList== [48])=true:=by simpa using t2
     exact ZeN
    ·have t1:(((x[0].toNat:Nat):Int)==48)=false:=by rw[beq_eq_false_iff_ne];intro h;exact QP (UInt8.toNat_inj.1 Tbh)
     exact ZeN
   ·have Ek:R=.ok (⟨2,[],gh q⟩,rr):=by
     rw[kh.out,if_pos]
     have h1:(rr.head?.any bB)=false:=by
      cases hh:rr.head?.any bB
      ·rfl
      ·exact absurd (Zh.out.1 hh) BW
     rw[h1,pd,HZF.out];simp[hv];by_cases hq:q=[48]
     ·exact .inr hq
     ·exact .inl λ h=>hb ⟨h,hq⟩
    have Em:=hid Ek;clear Ek;have hfe:dR bB s.data.toList k=k:=by have:=pX bB s.data.toList k;omega
    have xJ:=hid hfe;clear hfe BW;by_cases QP:x[0]=48
    ·have t1:(((x[0].toNat:Nat):Int)==48)=true:=by rw[QP];rfl
     have t2:x.toList=[48]:=by exact Zf9
     have t3:(x.toList== [48])=true:=by simpa using t2
     exact Za1
    ·have t1:(((x[0].toNat:Nat):Int)==48)=false:=by rw[beq_eq_false_iff_ne];intro h;exact QP (UInt8.toNat_inj.1 Tbh)
     exact Za1
 ·have Ek:R=.error 30:=by rw[kh.out,if_neg];rw[pd];simp[hv]
  have Em:=hid Ek;clear Ek;refine(Gw lW (by rw[HX.out];exact HN.out) (by rw[HX.out];exact Ej.out) (by rw[HX.out];exact hv) wu.out).mono ?_;rintro e w1 ⟨⟨N,rfl⟩,b1⟩;have JM:=gw.later b1;have BM:=hid (BV.out.later b1);obtain⟨d0,d1⟩:=cJ JM.1;have BN:=hid JM;clear JM;obtain⟨z0,z1,z2,z3,y0,y1,y2,y3⟩:=aI BM.out;exact ZaM):p:=h
theorem JK (B:Nat)(s:ByteArray)(g at_:Nat)(w:World)(hE:Env B w)(hB:B<=g)(hL:av w g 118 (qT s at_))(c:UInt8)(r:List UInt8)(hd:s.data.toList.drop at_=c::r)(hc:aH c=true)(hl:bB c=false)(hs:s.size<=4294967280):
  Calls Tryz.prog 106 #[.pointer (some ⟨g,0,none⟩)] w (Gv s g at_ w (dF (c::r))):=by
 have ha:at_<=s.size:=by exact ZeM
 have dx:dF (c::r)=if pd ((c::r).takeWhile aH)&& !(((c::r).dropWhile aH).head?.any bB)then .ok (⟨2,[],gh ((c::r).takeWhile aH)⟩,(c::r).dropWhile aH)else .error 30:=by simp only[dF,hl,if_pos hc];rfl
 obtain⟨hX,hne⟩:=Ei s hd hc;have QO:=JI s (om aH s.data.toList at_ TaK|>(by simpa using ·));rw[lU,hd] at QO;have hall:∀x∈(c::r).takeWhile aH,aH x=true:=yO _;have rB:=pk aH s ha;rw[hd] at rB;obtain⟨c0,c1⟩:=cJ hL;have hlt:=hL.lt;have hle:=om aH s.data.toList at_ TaK;have CE:=pX aH s.data.toList at_;simp at hle;generalize hk:dR aH s.data.toList at_=k at*;generalize hq:(c::r).takeWhile aH=q at*;generalize VZ:(c::r).dropWhile aH=rr at*;generalize hx:dF (c::r)=R at*;have HK:=hid hk;have HX:=hid hX;have Ej:=hid hall;have Zh:=hid QO;have HR:=hid rB;have HN:=hid hne;have HZF:=hid (JJ hne);clear hk hq VZ hx hd hX hall QO rB hne;have kh:=hid dx;clear dx;have hsz:q.length=(s.extract at_ k).size:=by rw[<- HX.out];simp only[ByteArray.size_data,Array.length_toList]
 have lW:(s.extract at_ k).size<=4294967280:=by rw[ByteArray.size_extract];omega
 have JL:0 <(s.extract at_ k).size:=by rw[<- hsz];exact List.length_pos_iff.2 HN.out
 go_enter Tryz.func106,Tryz.ntmps106;go_wp2_with fail;refine(mG tZ s at_ at_ g _ (hL.alloc _) ha hs).mono ?_;rintro e w' ⟨rfl,rfl⟩;rw[HK.out];go_wp2_with fail;open zfl in exact Zc5
theorem CR (c:UInt8):(wF c=true/\decide ((65:Int)<=c.toNat)=true/\decide ((c.toNat:Int)<=90)=true)\/(wF c=false/\decide ((65:Int)<=c.toNat)=true/\decide ((c.toNat:Int)<=90)=false)\/(wF c=false/\decide ((65:Int)<=c.toNat)=false):=by
 have e:wF c=(decide ((65:Int)<=c.toNat)&& decide ((c.toNat:Int)<=90)):=by rw[Bool.eq_iff_iff];simp only[wF,UInt8.le_iff_toNat_le,Bool.and_eq_true,decide_eq_true_eq];simp;omega
 rw[e];by_cases h1:(65:Int)<=c.toNat <;> by_cases h2:(c.toNat:Int)<=90 <;> simp[h1,h2]
def okC (c:UInt8):Bool:= !wF c && cj c
theorem RD(h0:0 < s.size):pg s.data.toList=(decide (s.size<=32)&& !jT s.data.toList && !aH s[0] && s.data.toList.all okC):=by
 have h1:=byte_at s 0 h0;have hlen:s.data.toList.length=s.size:=by simp
 match hl:s.data.toList with
 | []=>rw[hl] at hlen;simp at hlen;omega
 | c::r=>rw[hl] at h1 hlen;simp only[getElem?_cons_zero,Option.some.injEq] at h1;rw[<- h1,<- hlen];rfl
theorem NW(h0:¬0 < s.size):pg s.data.toList=false:=by
 have hlen:s.data.toList.length=s.size:=by simp
 match hl:s.data.toList with
 | []=>rfl
 | c::r=>rw[hl] at hlen;simp at hlen;omega
theorem L6{p:UInt8->Bool} (hi:i < s.size):(s.data.toList.drop i).all p=(p s[i] &&(s.data.toList.drop (i+1)).all p):=by rw[drop_at (byte_at s i hi),all_cons]
theorem WR{p:UInt8->Bool} (hi:¬i < s.size):(s.data.toList.drop i).all p=true:=by rw[drop_eq_nil_of_le Tad];rfl
theorem JR(h:0 < s.size):¬s.toList=[]:=by
 intro e;rw[ByteArray.toList_eq] at e;have:s.data.toList.length=s.size:=by simp
 rw[e] at this;simp at this;omega
theorem RF(h:¬0 < s.size):s=⟨#[]⟩:=by
 rcases s with ⟨⟨l⟩⟩
 cases l with
 | nil=>rfl
 | cons c r=>exact absurd (by simp[ByteArray.size]) h
def GC (b:Bool)(w:World)(e:Ending)(w':World):Prop:=e=.returned (.bool b)/\Below w.heap.size w w'
theorem zgO.Kb8(h:p:=by
 go_loop [23] (λ u=>∃i:Nat,i<=s.size/\u=.int .i64 i/\R=(s.data.toList.drop i).all okC) (λ u=>s.size - (intOf u).toNat);case atStart=>exact⟨0,by omega,rfl,by rw[HEQ.out,dY.out,RH.out];simp[Zn]⟩
 case round=>
  obtain⟨i,hi,rfl,VZ⟩:=hrel;have qU:=hid VZ;clear VZ;by_cases hlt:i < s.size
  ·have HA:=hid (L6 (p:=okC) hlt);cases hl:bB s[i] <;> cases hd:aH s[i] <;> rcases CR s[i] with ⟨hc,t1,t2⟩|⟨hc,t1,t2⟩|⟨hc,t1⟩
   all_goals
    have HL:=hid hl;have HD:=hid hd;have HC:=hid hc;clear hl hd hc;go_wp2_with (first
     |(go_at_call 103;refine(pY s[i] _).mono ?_;rintro e w' ⟨rfl,rfl⟩;rw[HL.out])
     |(go_at_call 105;refine(mW s[i] _).mono ?_;rintro e w' ⟨rfl,rfl⟩;rw[HD.out]))
    first
     |(go_ret
       refine⟨cP ?_,b1⟩
       rw[qU.out,HA.out]
       simp[okC,cj,HL.out,HD.out,HC.out];done)
     |(go_round
       case rel=>exact⟨i+1,hlt,by go_num,by rw[qU.out,HA.out];simp[okC,cj,HL.out,HD.out,HC.out]⟩
       case measure=>simp[intOf];omega)
  ·go_wp2_with fail;go_ret;exact⟨cP (by rw[qU.out,WR hlt]),b1⟩):p:=h
theorem zgP.Kb8(h:p:=by go_ret;exact⟨cP (by rw[HEQ.out,RH.out];simp),b1⟩):p:=h
theorem RG(s:ByteArray)(w:World)(hE:Env B w)(hs:s.size<=4294967280):Calls Tryz.prog 88 #[.string s] w (GC (pg s.data.toList) w):=by
 by_cases h0:0 < s.size
 ·have hne:=JR h0;have L8:(s.toList== [])=false:=by simpa using hne
  have amB:(!s.toList.isEmpty)=true:=by simpa using hne
  have HEQ:=hid (RD h0);generalize pg s.data.toList=R at*;by_cases Zn:s.size<=32
  ·have hr:= @uZ B s w hE;cases hres:jT s.data.toList
   ·rw[hres] at hr;have dY:=hid hres;have HR:=hid hr;clear hres hr;cases L9:aH s[0]
    ·open zgO in exact ZeG
    ·open zgP in exact ZeG
   ·rw[hres] at hr;have dY:=hid hres;have HR:=hid hr;clear hres hr;go_enter Tryz.func88,Tryz.ntmps88;go_wp2_with fail;refine HR.out.mono ?_;rintro e w1 ⟨rfl,b1⟩;go_wp2_with fail;go_ret;exact⟨cP (by rw[HEQ.out,dY.out];simp),b1⟩
  ·have t1:=decide_eq_true (show(32:Int)< s.size by omega);go_enter Tryz.func88,Tryz.ntmps88;go_wp2_with fail;go_ret;exact⟨cP (by rw[HEQ.out];simp[Zn]),Below.refl _ _⟩
 ·rw[NW h0];obtain rfl:=RF h0;go_enter Tryz.func88,Tryz.ntmps88;go_wp2_with fail;go_ret;exact ZfK
end Go.Proofs.YtehhdlgjfdnafaaGreatDoor
