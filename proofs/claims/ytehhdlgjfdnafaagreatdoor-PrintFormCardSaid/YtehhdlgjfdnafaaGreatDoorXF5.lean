/- Parts of the proof. -/
import Derived.Test.YtehhdlgjfdnafaaGreatDoorXF3
import Derived.Test.YtehhdlgjfdnafaaGreatDoorXF4
namespace Go.Proofs.YtehhdlgjfdnafaaGreatDoor
variable{p:Prop}
set_option maxHeartbeats 90000000
set_option maxRecDepth 100000
open Go.Lib (hid)
open Go.ChangeShapes Go.WideShapes Go.ChangeAt Go.RowKit Go.Shelf List
set_option linter.unusedVariables false
set_option linter.unusedSimpArgs false
def Z5 (g:Nat)(w:World):Nat:=match w.cell? ⟨g,1,none⟩with | some (.int .i64 n)=>n.toNat | _=>0
variable{w:World}{g:Nat}{t:TypeId}{s:ByteArray}{a:Nat}
theorem xF(h:av w g t (tq s a)):Z5 g w=a:=by unfold Z5;rw[(dh h).2];simp
def At (s:ByteArray)(g:Nat)(w:World)(a:Nat)(w':World):Prop:=av w' g 118 (tq s a)/\w.grownBy w' (some g)
theorem At.refl(h:av w g 118 (tq s a)):At s g w a w:=⟨h,aD (Below.refl _ _)⟩
variable{b:Nat}{w':World}
theorem At.set(h:At s g w a w'):At s g w b (w'.setCell ⟨g,1,none⟩ (.int .i64 b)):=⟨h.1.cJ 1 _,bE h.2 1 _⟩
variable{w1 w2:World}
theorem At.later(h:At s g w a w1)(k:Below w1.heap.size w1 w2):At s g w a w2:=⟨h.1.later k,ai h.2 (aD k)⟩
theorem At.trans(h:At s g w a w1)(k:At s g w1 b w2):At s g w b w2:=⟨k.1,ai h.2 k.2⟩
variable{q:Nat}{cs:Array Value}
theorem At.other(h:At s g w a w')(hq:av w q t cs)(hne:q≠g):av w' q t cs:=hq.grown h.2 λ e=>hne Ta8
theorem At.far(h:At s g w a w')(hq:w.heap.size<=q)(hne:q≠g)(i:Nat)(v:Value):At s g w a (w'.setCell ⟨q,i,none⟩ v):=by
 refine⟨h.1.far (p:=⟨q,i,none⟩) (λ e=>hne e.symm) v,h.2.os,h.2.tape,h.2.output,?_,λ k hk Z6=>?_⟩
 ·have:(w'.setCell ⟨q,i,none⟩ v).heap.size=w'.heap.size:=by simp[World.setCell]
  rw[this];exact h.2.size
 ·rw[Below.heap_setCell w' ⟨q,i,none⟩ v k Tae];exact h.2.block k hk Z6
variable{d:Value}
theorem aO{a b c:Value}(h:av w q t #[a,b,c,d]):
  w.cell? ⟨q,0,none⟩=some a/\w.cell? ⟨q,1,none⟩=some b/\w.cell? ⟨q,2,none⟩=some c/\w.cell? ⟨q,3,none⟩=some d/\w.frozen? ⟨q,0,none⟩=false/\w.frozen? ⟨q,1,none⟩=false/\w.frozen? ⟨q,2,none⟩=false/\w.frozen? ⟨q,3,none⟩=false:=
 ⟨h.cell 0,h.cell 1,h.cell 2,h.cell 3,h.frozen 0,h.frozen 1,h.frozen 2,h.frozen 3⟩
theorem wI(h:av w g t (tq s a))(i:Nat):w.frozen? ⟨g,i,none⟩=false:=h.frozen i
theorem CE (s p:ByteArray)(w:World):Calls Tryz.prog 101 #[.string s,.string p] w λ e w'=>e=.returned (.bool (Lib.hasPrefix s.data.toList p.data.toList))/\w'=w:=Tryz.strings_HasPrefix s p w
theorem om (s:ByteArray)(a b:Nat):(s.extract a b).data.toList=(s.data.toList.take b).drop a:=by rw[ByteArray.data_extract,Array.toList_extract,extract_eq_take_drop,drop_take]
theorem KM (s:ByteArray)(a:Nat):(s.extract a s.size).data.toList=s.data.toList.drop a:=by rw[om];congr 1;rw[take_of_length_le Tad]
variable{k:Nat}
theorem uZ{p:ByteArray}  {b:Bool}(h:Lib.hasPrefix (s.data.toList.drop k) p.data.toList=b)(w:World):Calls Tryz.prog 101 #[.string (s.extract k s.size),.string p] w λ e w'=>e=.returned (.bool b)/\w'=w:=
 (CE _ _ w).mono λ e w' ⟨he,hw⟩=>⟨by rw[he,KM,h],hw⟩
def dY (s:ByteArray)(a:Nat):Nat:=s.size - (bU false (s.data.toList.drop a)).length
theorem iL (s:ByteArray)(a:Nat):s.data.toList.drop (dY s a)=bU false (s.data.toList.drop a):=by have h:bU false (s.data.toList.drop a)<:+ s.data.toList:=(nz _ _).trans (List.drop_suffix _ _);have:=drop_suffix h;simpa [dY] using this
theorem oJ (s:ByteArray)(a:Nat):dY s a<=s.size:=Nat.sub_le _ _
theorem FY(s:ByteArray) (h:bU false (s.data.toList.drop a)=bU false (s.data.toList.drop b)):dY s a=dY s b:=by unfold dY;rw[h]
theorem KN(s:ByteArray) (ha:a<=s.size)(h:Lib.hasPrefix (s.data.toList.drop (eA cZ s.data.toList a)) [45,45]=false):dY s a=eA cZ s.data.toList a:=by rw[nw] at h;have h2:=Tf h;unfold dY;rw[h2,<- nw,length_drop];have:=pV cZ s.data.toList a TaZ;simp at this ⊢;omega
theorem KO(s:ByteArray) (ha:a<=s.size)(h:Lib.hasPrefix (s.data.toList.drop (eA cZ s.data.toList a)) [45,45]=true):
  dY s a=dY s (eA (λ c=> !(c==10)) s.data.toList (eA cZ s.data.toList a))/\a < eA (λ c=> !(c==10)) s.data.toList (eA cZ s.data.toList a):=by
 refine⟨FY s ?_,?_⟩
 ·rw[nw _ _ (eA _ _ _),<- Xz h,nw,<- wG]
 ·have h1:=rS cZ s.data.toList a;generalize eA cZ s.data.toList a=k at*
  match hk:s.data.toList[k]? with
  | none=>rw[drop_eq_nil_of_le TaC] at h;simp[Lib.hasPrefix] at h
  | some c=>
    rw[drop_at hk] at h;have hc:c=45:=by simp[Lib.hasPrefix,List.isPrefixOf] at h;exact h.1.symm
    subst hc;rw[qR hk Tab];have:=rS (λ c=> !(c==10)) s.data.toList (k+1);omega
def XB (s:ByteArray)(g a:Nat)(w:World)(e:Ending)(w':World):Prop:=e=.returned (.tuple #[])/\At s g w (dY s a) w'
theorem KP (s:ByteArray)(g at_:Nat)(w:World)(hL:av w g 118 (tq s at_))(ha:at_<=s.size)(hs:s.size<=4294967280):
  Calls Tryz.prog 65 #[.pointer (some ⟨g,0,none⟩)] w (XB s g at_ w):=by
 go_enter Tryz.func65,Tryz.ntmps65;go_wp2_with fail;go_loopw [] (λ wr=>∃a:Nat,a<=s.size/\At s g w a wr/\dY s at_=dY s a) (λ wr=>s.size - Z5 g wr);case atStart=>exact⟨at_,ha,At.refl hL,rfl⟩
 case round=>
  obtain⟨a,ha1,hat,hsk⟩:=hrel;have HS:=hid hsk;clear hsk;obtain⟨c0,c1⟩:=dh hat.1;have HL:=hid hat.1;have f1:=wI hat.1 1;have hle:=pV cZ s.data.toList a (by simpa using ha1);have FO:=rS cZ s.data.toList a;have HM:=hid (KO s ha1);have HD:=hid (KN s ha1);go_wp2_with fail;refine(oh NS s a a g _ HL.out ha1 hs).mono ?_;rintro e w' ⟨rfl,rfl⟩;generalize hk:eA cZ s.data.toList a=k at*;have HK:=hid hk;clear hk;simp at hle;go_wp2_with fail;have qE:At s g w k (wr.setCell ⟨g,1,none⟩ (.int .i64 k)):=hat.set;generalize wr.setCell ⟨g,1,none⟩ (.int .i64 k)=W at*;clear c0 c1 f1;obtain⟨c0,c1⟩:=dh qE.1;have HL2:=hid qE;clear qE;cases hp:Lib.hasPrefix (s.data.toList.drop k) [45,45]
  ·have HP:=hid hp;clear hp;go_quiet ((go_at_call 101;exact Calls.quiet_of_same (uZ HP.out _)));go_wp2_with fail;go_end0;refine⟨rfl,?_⟩;rw[HS.out,HD.out HP.out];exact HL2.out.later (cN _ _)
  ·have HP:=hid hp;clear hp;go_quiet ((go_at_call 101;exact Calls.quiet_of_same (uZ HP.out _)));have HL3:=hid (HL2.out.later (cN _ nq));have d0:(W.drewN nq).cell? ⟨g,0,none⟩=some (.string s):=c0;have d1:(W.drewN nq).cell? ⟨g,1,none⟩=some (.int .i64 k):=c1;generalize W.drewN nq=W2 at*;clear c0 c1 HL2;have f1:=wI HL3.out.1 1;go_wp2_with fail;refine(oh Tk s k k g _ HL3.out.1 hle hs).mono ?_;rintro e w' ⟨rfl,rfl⟩;go_wp2_with fail;have HM2:=hid (HM.out HP.out);go_roundw;case rel=>exact⟨_,by simpa using pV (λ c=> !(c==10)) s.data.toList k (by simpa using hle),HL3.out.set,by rw[HS.out,HM2.out.1]⟩
   case measure=>rw[xF hat.1,xF (HL3.out.set (b:=eA (λ c=> !(c==10)) s.data.toList k)).1];have:=HM2.out.2;have:=pV (λ c=> !(c==10)) s.data.toList k (by simpa using hle);simp at this;omega
theorem oK (s:ByteArray)(g at_ q:Nat)(k:Int)(t:ByteArray)(n a:Int)(w:World)(hL:av w g 118 (tq s at_)):
  Calls Tryz.prog 145 #[.pointer (some ⟨g,0,none⟩),.agg #[.int .u8 k,.string t,.int .i64 n,.int .i64 a],.int .i64 q] w λ e w'=>e=.returned (.tuple #[.agg #[.int .u8 k,.string t,.int .i64 n,.int .i64 at_],.int .i64 0])/\At s g w q w':=by
 have HL:=hid hL;obtain⟨c0,c1⟩:=dh hL;have f1:=wI hL 1;have hlt:=hL.lt;go_enter Tryz.func145,Tryz.ntmps145;go_wp2_with fail;refine bodyPost_ret (v:=.tuple #[.agg #[.int .u8 k,.string t,.int .i64 n,.int .i64 at_],.int .i64 0]) ?_ rfl ⟨rfl,?_⟩
 ·simp[results,Tryz.results145,go_sem]
 ·exact((At.refl hL).set (b:=q)).later (((Below.refl _ _).alloc (Nat.le_refl _) _).alloc Tad _)
def KQ (s:ByteArray)(g at_:Nat)(w:World)(r:Except Nat (Wd×List UInt8))(e:Ending)(w':World):Prop:=
 match r with
 | .ok (d,rest)=>e=.returned (.tuple #[.agg #[.int .u8 d.k,.string ⟨d.s.toArray⟩,.int .i64 d.n,.int .i64 at_],.int .i64 0])/\At s g w (s.size - rest.length) w'
 | .error x=>e=.returned (.tuple #[.agg #[.int .u8 0,.string ⟨#[]⟩,.int .i64 0,.int .i64 0],.int .i64 x])/\At s g w at_ w'
theorem Iw(hs:s.size<=4294967280)(h:∀c∈s.data.toList,cq c=true)(w:World):Calls Tryz.prog 146 #[.string s] w λ e w'=>e=.returned (.string ⟨(s.data.toList.map kN).toArray⟩)/\Below w.heap.size w w':=
 Tryz.strings_ToLower_ascii s w Taa λ j b hb=>NQ (h b (mem_of_getElem? hb))
theorem lz (p:UInt8->Bool)(s:ByteArray)(k:Nat):(s.extract k (eA p s.data.toList k)).data.toList=(s.data.toList.drop k).takeWhile p:=by rw[om,<- KH,drop_take]
theorem QP (p:UInt8->Bool)(l:List UInt8)(k:Nat):eA p l k - k=((l.drop k).takeWhile p).length:=by unfold eA;omega
theorem qT(p:UInt8->Bool)(s:ByteArray) (hk:k<=s.size):s.size - ((s.data.toList.drop k).dropWhile p).length=eA p s.data.toList k:=by rw[<- nw,length_drop];have:=pV p s.data.toList k TaC;simp at this ⊢;omega
variable{P:Program}{n:String}{x:Array Value}
theorem FZ(h:w.var? P n=some x)(hb:Below w.heap.size w w'):w'.var? P n=some x:=by
 unfold World.var? at*
 cases hg:P.globalNamed n with
 | none=>rw[hg] at h;simp at h
 | some g=>
   rw[hg] at h;simp only[Option.bind_some] at h ⊢
   have:g < w.heap.size:=by
    rcases Nat.lt_or_ge g w.heap.size with hlt | FO
    ·exact hlt
    ·rw[Array.getElem?_eq_none FO] at h;simp at h
   rw[hb.block g this];exact h
variable{zs:List Int}
theorem Ga{k:IntKind} (h:Lib.TabIs P w n k zs)(hb:Below w.heap.size w w'):Lib.TabIs P w' n k zs:=by unfold Lib.TabIs at*;exact FZ h hb
structure lU (w:World):Prop where
 space:Lib.TabIs Tryz.prog w "strings.asciiSpace" .u8 Lib.asciiSpaceTab
 range:∃tp p,w.var? Tryz.prog "strconv.ErrRange" =some #[.iface tp p]
theorem lU.later(h:lU w)(hb:Below w.heap.size w w'):lU w':=by obtain⟨tp,p,h2⟩:=h.range;exact⟨Ga h.space hb,tp,p,FZ h2 hb⟩
def Env (B:Nat)(w:World):Prop:=∃w0,lU w0/\w0.heap.size=B/\Below B w0 w
theorem Env.mk0(h:lU w):Env w.heap.size w:=⟨w,h,rfl,Below.refl _ _⟩
variable{B:Nat}
theorem Env.lib(h:Env B w):lU w:=by obtain⟨w0,h1,rfl,h2⟩:=h;exact h1.later h2
theorem Env.size(h:Env B w):B<=w.heap.size:=by obtain⟨w0,h1,rfl,h2⟩:=h;exact h2.size
theorem Env.below(h:Env B w)(hb:Below B w w'):Env B w':=by obtain⟨w0,h1,h2,h3⟩:=h;exact⟨w0,h1,h2,h3.trans hb⟩
theorem Env.later(h:Env B w)(hb:Below w.heap.size w w'):Env B w':=h.below (hb.mono h.size)
theorem Env.grown(h:Env B w)(hg:w.grownBy w' (some g))(hB:B<=g):Env B w':=h.below (aQ hg h.size hB)
theorem Env.at_(h:Env B w)(hg:At s g w a w')(hB:B<=g):Env B w':=h.grown hg.2 hB
theorem XC(hs:s.size<=4294967280)(hne:s.data.toList≠ [])(hd:∀c∈s.data.toList,aL c=true)(h:gZ s.data.toList<=9223372036854775807)(w:World):
  Calls Tryz.prog 147 #[.string s,.int .i64 10,.int .i64 64] w λ e w'=>e=.returned (.tuple #[.int .i64 (gZ s.data.toList:Int),.nilIface])/\Below w.heap.size w w':=by
 refine(Tryz.strconv_ParseInt_10_at64_ok s Taa _ (by rw[CA hne hd,if_pos h]) w).mono ?_;rintro e w' ⟨he,hw⟩;refine⟨he,?_⟩;rcases hw with rfl |⟨t,rfl⟩
 ·exact Below.refl _ _
 ·exact⟨rfl,rfl,rfl,by rw[Lib.bytesWorld_size];omega,λ j hj=>Lib.bytesWorld_at_old w _ _ j hj⟩
theorem KR(hs:s.size<=4294967280)(hne:s.data.toList≠ [])(hd:∀c∈s.data.toList,aL c=true)(h:¬gZ s.data.toList<=9223372036854775807) (hE:Env B w):
  Calls Tryz.prog 147 #[.string s,.int .i64 10,.int .i64 64] w λ e w'=>(∃N,e=.returned (.tuple #[.int .i64 9223372036854775807,.iface 219 (.pointer (some ⟨N,0,none⟩))]))/\Below w.heap.size w w':=by
 obtain⟨tp,p,hv⟩:=hE.lib.range;refine(Tryz.strconv_ParseInt_10_at64_range_var s Taa (by rw[CA hne hd,if_neg h]) tp p w hv).mono ?_;rintro e w' ⟨N,he,_,_,hb⟩;refine⟨⟨N,?_⟩,hb⟩
 have:Lib.intSat 64 s.data.toList=9223372036854775807:=by
  match hl:s.data.toList with
  | []=>exact absurd hl hne
  | c::r=>
    have:=hd c (by rw[hl];exact mem_cons_self);simp[aL,UInt8.le_iff_toNat_le] at this;have e2:¬c.toNat=45:=by omega
    simp[Lib.intSat,e2]
 rw[he,this]
def more (acc:List UInt8)(x:Option (List UInt8×List UInt8)):Option (List UInt8×List UInt8):=x.map λ y=>(acc++y.1,y.2)
theorem KU (x:Option (List UInt8×List UInt8)):more [] x=x:=by cases x <;> rfl
variable{c:UInt8}
theorem wJ(h:c≠39)(r acc:List UInt8):more acc (fw (c::r))=more (acc++ [c]) (fw r):=by
 cases r with
 | nil=>simp[fw,h,more]
 | cons d r=>simp only[fw,if_neg h,more];cases fw (d::r)<;> simp
theorem CI (r acc:List UInt8):more acc (fw (39::39::r))=more (acc++ [39]) (fw r):=by simp only[fw,more,if_true];cases fw r <;> simp
variable{r:List UInt8}
theorem tN(h:r.head?≠some 39)(acc:List UInt8):more acc (fw (39::r))=some (acc,r):=by
 cases r with
 | nil=>simp[fw,more]
 | cons d r=>
   have:d≠39:=λ e=>h (by rw[e];rfl)
   simp[fw,this,more]
theorem tO (B b:Nat)(l:List UInt8)(w:World)(h:KT B b l w)(hB:B<=w.heap.size):Calls Tryz.prog 49 #[.pointer (some ⟨b,0,none⟩)] w λ e w'=>e=.returned (.string ⟨l.toArray⟩)/\Below B w w':=Tryz.Builder_String_any B b l w h hB
structure wK (s:ByteArray) (g at_:Nat) (w:World) (acc:List UInt8) (w':World):Prop where
 at_:At s g w at_ w'
 buf:KT (w.heap.size+1) (w.heap.size+1) acc w'
 res:av w' w.heap.size 81 #[.int .u8 0,.string ⟨#[]⟩,.int .i64 0,.int .i64 0]
theorem At.under(h:At s g w a w1)(hb:Below B w1 w2)(hg:g < B)(hB:w.heap.size<=B):At s g w a w2:=
 ⟨h.1.below hb hg,hb.os.trans h.2.os,hb.tape.trans h.2.tape,hb.output.trans h.2.output,Nat.le_trans h.2.size hb.size,λ k hk Z6=>(hb.block k Taa).trans (h.2.block k hk Z6)⟩
variable{acc:List UInt8}
theorem wK.size{at_:Nat}  (h:wK s g at_ w acc w'):w.heap.size+1<=w'.heap.size:=h.res.lt
variable{w'':World}{ajA:List UInt8}
theorem wK.next{at_:Nat}  (h:wK s g at_ w acc w')(hg:g < w.heap.size)(hb:Below (w.heap.size+1) w' w'')(apo:KT (w.heap.size+1) (w.heap.size+1) ajA w''):wK s g at_ w ajA w'':=
 ⟨h.at_.under hb Taa Taa,apo,h.res.below hb Taa⟩
theorem zfg.Kbs(h:p:=by clear CJ;exact ZaT):p:=h
theorem zid.KcL(h:p:=by
 clear hq;go_wp2_with fail;refine(CH _ _ acc s[k] _ zz.out.buf Taa hsz).mono ?_;rintro e w1 ⟨rfl,hb,b1⟩;go_wp2_with fail;go_roundw;case rel=>refine⟨k+1,acc++ [s[k]],by omega,by simp;omega,by go_num,zz.out.next hlt b1 hb,?_⟩;rw[HM.out,drop_at HB.out,wJ HQ.out]
 case measure=>exact Zcs):p:=h
theorem XF (s:ByteArray)(g at_:Nat)(w:World)(hL:av w g 118 (tq s at_))(r:List UInt8)(hd:s.data.toList.drop at_=39::r)(hs:s.size<=4294967280):
  Calls Tryz.prog 108 #[.pointer (some ⟨g,0,none⟩)] w (KQ s g at_ w (dG (39::r))):=by
 have ha:at_ < s.size:=by exact ZeQ
 have hr:r=s.data.toList.drop (at_+1):=by rw[<- drop_drop,hd];rfl
 subst hr
 have dR:dG (39::s.data.toList.drop (at_+1))=match more [] (fw (s.data.toList.drop (at_+1)))with
   | some (t,rest)=> .ok (⟨3,t,0⟩,rest)
   | none=> .error 30:=by
  rw[KU];have h1:bH 39=false:=by decide
  have h2:aL 39=false:=by decide
  simp only[dG,h1,h2];rfl
 obtain⟨c0,c1⟩:=dh hL;have hlt:=hL.lt;have hne:w.heap.size≠g:=by omega
 generalize dG (39::s.data.toList.drop (at_+1))=R at*;have lV:=hid dR;have Fh:=hid hd;clear dR hd;go_enter Tryz.func108,Tryz.ntmps108;go_wp2_with fail;have hT:wK s g at_ w [] ((w.alloc (.cells #[.int .u8 0,.string ⟨#[]⟩,.int .i64 0,.int .i64 0] 81)).alloc (.cells #[.pointer none,.slice none 0 0] 61)):=by refine⟨(At.refl hL).later (((Below.refl _ _).alloc (Nat.le_refl _) _).alloc Tad _),.inl ⟨Nat.le_refl _,.slice none 0 0,?_,⟨rfl,.inl ⟨rfl,rfl⟩⟩,by simp[Value.ownBlock]⟩,(av.new w _ _).alloc _⟩;have:=heap_alloc_new (w.alloc (.cells #[.int .u8 0,.string ⟨#[]⟩,.int .i64 0,.int .i64 0] 81)) (.cells #[.pointer none,.slice none 0 0] 61);simpa using this
 generalize (w.alloc (.cells #[.int .u8 0,.string ⟨#[]⟩,.int .i64 0,.int .i64 0] 81)).alloc (.cells #[.pointer none,.slice none 0 0] 61)=W at*;clear c0 c1;obtain⟨c0,c1⟩:=dh hT.at_.1;have HT:=hid hT;clear hT;go_wp2_with fail;go_loopw [5] (λ u wr=>∃(k:Nat) (acc:List UInt8),k<=s.size/\acc.length<=k/\u=.int .i64 k/\wK s g at_ w acc wr/\more [] (fw (s.data.toList.drop (at_+1)))=more acc (fw (s.data.toList.drop k))) (λ u _=>s.size - (intOf u).toNat);case atStart=>exact⟨at_+1,[],ha,by simp,by go_num,HT.out,rfl⟩
 case round=>
  obtain⟨k,acc,hk,pP,rfl,hT,hm⟩:=hrel;have HM:=hid hm;clear hm c0 c1;obtain⟨c0,c1⟩:=dh hT.at_.1;have hsz:=hT.size;have zz:=hid hT;clear hT;have HLEN:=hid (show s.data.toList.length=s.size by simp);by_cases hks:k < s.size
  ·have HB:=hid (byte_at s k hks);by_cases hq:s[k]=39
   ·have HQ:=hid hq;have t1:(((s[k].toNat:Nat):Int)==39)=true:=by rw[hq];rfl
    clear hq;by_cases BR:k+1 < s.size
    ·have pQ:=hid (byte_at s (k+1) BR);have n1:¬((k:Int)+1=s.size):=by omega
     have n2:(((k:Int)+1)==(s.size:Int))=false:=by simpa using n1
     by_cases CJ:s[k+1]=39
     ·have qF:=hid CJ;have t2:(((s[k+1].toNat:Nat):Int)==39)=true:=by rw[CJ];rfl
      have t3:(((s[k+1].toNat:Nat):Int) != 39)=false:=by rw[CJ];rfl
      clear CJ;go_wp2_with fail;rw[qF.out];refine(CH _ _ acc 39 _ zz.out.buf Taa hsz).mono ?_;rintro e w1 ⟨rfl,hb,b1⟩;go_wp2_with fail;go_roundw;case rel=>refine⟨k+2,acc++ [39],by omega,by simp;omega,by go_num,zz.out.next hlt b1 hb,?_⟩;rw[HM.out,drop_at HB.out,drop_at pQ.out,HQ.out,qF.out,CI]
      case measure=>exact Zcs
     ·open zfg in exact ZcK
    ·have n1:((k:Int)+1=s.size):=by omega
     have n2:(((k:Int)+1)==(s.size:Int))=true:=by simpa using n1
     have n3:s.size=k+1:=by omega
     have Oc:=hid (show(s.data.toList.drop (k+1)).head?≠some 39 by rw[drop_eq_nil_of_le Tao];simp);have HN3:=hid n3;clear n3 n1;exact ZaT
   ·open zid in exact ZgQ
  ·have Od:=hid (show s.data.toList.drop k=[] by rw[drop_eq_nil_of_le Tao]);obtain⟨z0,z1,z2,z3,y0,y1,y2,y3⟩:=aO zz.out.res;go_wp2_with fail;refine bodyPost_ret (v:=.tuple #[.agg #[.int .u8 0,.string ⟨#[]⟩,.int .i64 0,.int .i64 0],.int .i64 30]) ?_ rfl ?_
   ·simp[results,Tryz.results108,go_sem,z0,z1,z2,z3]
   ·rw[lV.out,HM.out,Od.out];exact⟨rfl,(((zz.out.at_.far (Nat.le_refl _) hne 0 _).far (Nat.le_refl _) hne 1 _ |>.far (Nat.le_refl _) hne 2 _ |>.far (Nat.le_refl _) hne 3 _))⟩
theorem CK(s:ByteArray)(l:List (List UInt8))(hl:Lib.fields s.data.toList=l)(hs:s.size < 4294967281)(CD:s.data.toList.all (λ b=>b.toNat < 128)=true)  (hE:Env B w):
  Calls Tryz.prog 149 #[.string s] w λ e w'=>e=.returned (.slice (some ⟨w.heap.size,0,none⟩) l.length l.length)/\w'=w.alloc (.cells (l.map λ l=>Value.string ⟨l.toArray⟩).toArray 9):=by refine(Tryz.strings_Fields s w hs (λ j b hb=>of_decide_eq_true (List.all_eq_true.1 CD b (mem_of_getElem? hb))) hE.lib.space).mono ?_;rintro e w' ⟨rfl,rfl⟩;rw[hl];exact⟨rfl,rfl⟩
theorem wL (w:World)(a b:Nat):(w.drewN a).drewN b=w.drewN (a+b):=by simp[World.drewN,Nat.add_assoc]
def XH:ByteArray:=⟨#[60,62,32,60,61,32,62,61,32,40,32,41,32,44,32,42,32,43,32,45,32,47,32,37,32,61,32,60,32,62,32,59]⟩
theorem IB:Lib.fields XH.data.toList=signs:=by decide+kernel
variable{i:Nat}
theorem QQ(hi:i < 15):∃x,signs[i]?=some x/\signs.drop i=x::signs.drop (i+1)/\1<=x.length/\x.length<=2:=by
 have key:∀i,i < 15->∃x,signs[i]?=some x/\1<=x.length/\x.length<=2:=by
  intro i hi
  match i,hi with
  | 0,_ | 1,_ | 2,_ | 3,_ | 4,_ | 5,_ | 6,_ | 7,_ | 8,_ | 9,_ | 10,_ | 11,_ | 12,_ | 13,_ | 14,_=>exact⟨_,rfl,by decide,by decide⟩
  | n+15,h=>omega
 obtain⟨x,h1,h2,h3⟩:=key i hi;refine⟨x,h1,?_,h2,h3⟩;have hlt:i < signs.length:=hi;rw[drop_eq_getElem_cons hlt];rw[getElem?_eq_getElem hlt] at h1;injection h1 with h1;rw[h1]
theorem zir.KcR(h:p:=by
 have HS:=hid (av.new (w.alloc (.cells #[.int .u8 0,.string ⟨#[]⟩,.int .i64 0,.int .i64 0] 81)) 9 (signs.map λ l=>Value.string ⟨l.toArray⟩).toArray);have hat:At s g w at_ ((w.alloc (.cells #[.int .u8 0,.string ⟨#[]⟩,.int .i64 0,.int .i64 0] 81)).alloc (.cells (signs.map λ l=>Value.string ⟨l.toArray⟩).toArray 9)):=(At.refl hL).later (((Below.refl _ _).alloc (Nat.le_refl _) _).alloc Tad _);generalize hb:(w.alloc (.cells #[.int .u8 0,.string ⟨#[]⟩,.int .i64 0,.int .i64 0] 81)).heap.size=b at*;obtain rfl:b=w.heap.size+1:=by rw[<- hb];simp
 generalize (w.alloc (.cells #[.int .u8 0,.string ⟨#[]⟩,.int .i64 0,.int .i64 0] 81)).alloc (.cells (signs.map λ l=>Value.string ⟨l.toArray⟩).toArray 9)=W at*;clear c0 c1 hb;have jx:=hid hat;have hlen:signs.length=15:=rfl;rw[hlen];clear hlen hat;go_wp2_with fail;go_loopw [8] (λ u wr=>∃i n:Nat,i<=15/\u=.int .i64 i/\wr=W.drewN n/\gp signs (s.data.toList.drop at_)=gp (signs.drop i) (s.data.toList.drop at_)) (λ u _=>15 - (intOf u).toNat);case atStart=>exact⟨0,0,by omega,rfl,rfl,rfl⟩
 case round=>
  obtain⟨i,n,hi,rfl,rfl,hsg⟩:=hrel;have HSG:=hid hsg;clear hsg;by_cases XJ:i < 15
  ·obtain⟨x,hx,hdx,hx1,hx2⟩:=QQ XJ;have hcell:(W.drewN n).cell? ⟨w.heap.size+1,i,none⟩=some (.string ⟨x.toArray⟩):=by rw[(HS.out.drewN n).cell i];simp[hx]
   have Z7:=hid (jx.out.later (cN W n));have HZn:=hid (HZ.out.drewN n);obtain⟨c0,c1⟩:=dh Z7.out.1;generalize hWn:W.drewN n=Wn at*;have HWN:=hid hWn;have HX:=hid hx;have Tq:=hid hdx;clear hWn hx hdx;cases hp:Lib.hasPrefix (s.data.toList.drop at_) x
   ·have HP:=hid hp;clear hp;go_wp2_with fail;go_quiet ((go_at_call 101;exact Calls.quiet_of_same (uZ HP.out _)));go_wp2_with fail;go_roundw
    case rel=>
     refine⟨i+1,n+nq,by omega,by go_num,?_,?_⟩
     ·rw[<- HWN.out];exact wL W n nq
     ·rw[HSG.out,Tq.out,gp,if_neg];have:=HP.out;simp only[Lib.hasPrefix] at this;rw[this];decide
    case measure=>exact Zcs
   ·have HP:=hid hp;clear hp;go_wp2_with fail;go_quiet ((go_at_call 101;exact Calls.quiet_of_same (uZ HP.out _)));have aeY:=hid (Z7.out.later (cN Wn nq));have HZq:=hid (HZn.out.drewN nq);generalize Wn.drewN nq=Wq at*;clear c0 c1 hcell;obtain⟨c0,c1⟩:=dh aeY.out.1;go_wp2_with fail;have adj:((at_:Int)+(x.length:Int))=((at_+x.length:Nat):Int):=by omega
    rw[adj];refine(oK s g at_ (at_+x.length) 4 ⟨x.toArray⟩ 0 0 _ aeY.out.1).mono ?_;rintro e w2 ⟨rfl,qE⟩;obtain⟨z0,z1,z2,z3,y0,y1,y2,y3⟩:=aO (qE.other HZq.out hne);clear adj;go_wp2_with fail;refine bodyPost_ret (v:=.tuple #[.agg #[.int .u8 4,.string ⟨x.toArray⟩,.int .i64 0,.int .i64 at_],.int .i64 0]) ?_ rfl ?_
    ·simp[results,Tryz.results109,go_sem,z0,z1,z2,z3]
    ·have e1:gp signs (s.data.toList.drop at_)=some x:=by rw[HSG.out,Tq.out,gp,if_pos];exact HP.out
     rw[lV.out,e1];refine⟨rfl,?_⟩;show At s g w (s.size - _) _
     have e2:s.size - ((s.data.toList.drop at_).drop x.length).length=at_+x.length:=by
      have h4:x.length<=(s.data.toList.drop at_).length:=by have:=HP.out;simp only[Lib.hasPrefix,isPrefixOf_iff_prefix] at this;exact this.length_le
      rw[length_drop] at h4 ⊢;simp at h4 ⊢;omega
     rw[e2];exact(((aeY.out.trans qE).far (Nat.le_refl _) hne 0 _).far (Nat.le_refl _) hne 1 _ |>.far (Nat.le_refl _) hne 2 _ |>.far (Nat.le_refl _) hne 3 _)
  ·obtain rfl:i=15:=by omega
   have Z7:=hid (jx.out.later (cN W n));have HZn:=hid (HZ.out.drewN n);generalize W.drewN n=Wn at*;obtain⟨z0,z1,z2,z3,y0,y1,y2,y3⟩:=aO HZn.out;go_wp2_with fail;refine bodyPost_ret (v:=.tuple #[.agg #[.int .u8 0,.string ⟨#[]⟩,.int .i64 0,.int .i64 0],.int .i64 30]) ?_ rfl ?_
   ·simp[results,Tryz.results109,go_sem,z0,z1,z2,z3]
   ·rw[lV.out,HSG.out];exact⟨rfl,(((Z7.out.far (Nat.le_refl _) hne 0 _).far (Nat.le_refl _) hne 1 _ |>.far (Nat.le_refl _) hne 2 _ |>.far (Nat.le_refl _) hne 3 _))⟩):p:=h
theorem XI (B:Nat)(s:ByteArray)(g at_:Nat)(w:World)(hE:Env B w)(hB:B<=g)(hL:av w g 118 (tq s at_))(c:UInt8)(r:List UInt8)(hd:s.data.toList.drop at_=c::r)(h1:bH c=false)(h2:aL c=false)(h3:c≠39)(hs:s.size<=4294967280):
  Calls Tryz.prog 109 #[.pointer (some ⟨g,0,none⟩)] w (KQ s g at_ w (dG (c::r))):=by
 have ha:at_ < s.size:=by exact ZeQ
 have dR:dG (c::r)=match gp signs (s.data.toList.drop at_)with
   | some x=> .ok (⟨4,x,0⟩,(s.data.toList.drop at_).drop x.length)
   | none=> .error 30:=by
  rw[hd];simp only[dG,h1,h2,if_neg h3];rfl
 obtain⟨c0,c1⟩:=dh hL;have hlt:=hL.lt;have hne:w.heap.size≠g:=by omega
 generalize dG (c::r)=R at*;have lV:=hid dR;clear dR hd;go_enter Tryz.func109,Tryz.ntmps109;go_wp2_with fail;have bb:=aa w (.cells #[.int .u8 0,.string ⟨#[]⟩,.int .i64 0,.int .i64 0] 81);refine(CK XH signs IB TaP TaP (hE.later bb)).mono ?_;rintro e w1 ⟨rfl,rfl⟩;open zir in exact Zhg
def fB (w:World)(g:Nat)(es:Array MapEntry)(c:Nat):World:= { w with heap:=w.heap.setIfInBounds g (.map es c)}
variable{w0:World}
theorem lW(h:Below B w0 w)(g:Nat)(hg:B<=g)(es:Array MapEntry)(c:Nat):Below B w0 (fB w g es c):=by
 refine⟨h.os,h.tape,h.output,?_,λ k hk=>?_⟩
 ·have:=h.size;simp[fB];exact this
 ·rw[<- h.block k hk];simp only[fB,Array.getElem?_setIfInBounds];rw[if_neg Taa]
variable{es es':Array MapEntry}{c':Nat}
theorem oL{c:Nat}(hg:w.heap[g]?=some (.map es c)):(fB w g es' c').heap[g]?=some (.map es' c'):=by
 rcases Nat.lt_or_ge g w.heap.size with hlt | FO
 ·simp[fB,hlt]
 ·rw[Array.getElem?_eq_none FO] at hg;cases hg
theorem CL(es:Array MapEntry)(c:Nat)(h:g≠q):(fB w g es c).heap[q]?=w.heap[q]?:=by simp only[fB,Array.getElem?_setIfInBounds];rw[if_neg h]
def entry (x:List UInt8)(i:Nat):MapEntry:=⟨.string ⟨x.toArray⟩,.bool true,i⟩
def dK:List (List UInt8)->Nat->List MapEntry
 | [],_=> []
 | x::l,i=>entry x i::dK l (i+1)
theorem xH (x:List UInt8):∀(l:List (List UInt8)) (i:Nat),dK (l++ [x]) i=dK l i++ [entry x (i+l.length)]
 | [],i=>rfl
 | y::l,i=>by simp only[cons_append,dK,xH x l (i+1),length_cons];rw[show i+1+l.length=i+(l.length+1) by omega]
theorem bytes_beq (a b:ByteArray):(a==b)=(a.data.toList==b.data.toList):=by rcases a with ⟨⟨a⟩⟩;rcases b with ⟨⟨b⟩⟩;show((⟨a⟩:Array UInt8)==⟨b⟩)=(a==b);simp
theorem wM (k:ByteArray):∀(l:List (List UInt8)) (i j:Nat),if l.contains k.data.toList=true then∃n,Instr.findNow .string (.string k) (dK l i) j=some (some (n,.bool true))else Instr.findNow .string (.string k) (dK l i) j=some none
 | [],i,j=>by simp[dK,Instr.findNow]
 | x::l,i,j=>by
   have ih:=wM k l (i+1) (j+1);have e:Instr.sameNow .string (.string k) (entry x i).key=some (k.data.toList==x):=by show some (k==(⟨x.toArray⟩:ByteArray))=_;rw[bytes_beq]
   rw[contains_cons];cases hx:(k.data.toList==x)
   ·rw[Bool.false_or];have e2:Instr.findNow .string (.string k) (dK (x::l) i) j=Instr.findNow .string (.string k) (dK l (i+1)) (j+1):=by simp only[dK,Instr.findNow,e,hx]
    rw[e2];exact ih
   ·rw[Bool.true_or,if_pos rfl];exact⟨j,by simp only[dK,Instr.findNow,e,hx];rfl⟩
def KV (w:World)(g:Nat)(l:List (List UInt8)):Prop:=w.heap[g]?=some (.map (dK l 0).toArray l.length)
theorem wO (e:Bool)(k:ByteArray)(w:World):(Instr.checkKey e 10000 9 (.string k)).run Tryz.prog w=.ok () w:=
 MapKept.run_checkKey Tryz.underlying9 Taw e 9999
variable{l:List (List UInt8)}
theorem IC(hg:KV w g l) {x:List UInt8}(hx:l.contains x=false):
  (Instr.mapUpdate 186 (.map (some g)) (.string ⟨x.toArray⟩) (.bool true)).run Tryz.prog w=.ok () (fB w g (dK (l++ [x]) 0).toArray (l.length+1)):=by have hf:=wM ⟨x.toArray⟩ l 0 0;rw[if_neg TaY] at hf;unfold Instr.mapUpdate;simp only[Sem.run_bind,run_underlying Tryz.underlying186,Result.andThen_ok,MapKept.run_getObj_map hg,wO,Instr.findKey,run_underlying Tryz.underlying9,hf,Sem.run_pure,MapKept.run_setObj_map _ hg];rw[xH];simp[fB,entry]
theorem Fi(hg:KV w g l)(k:ByteArray):
  (Instr.lookup 186 (.map (some g)) (.string k) false).run Tryz.prog w=.ok (.bool (l.contains k.data.toList)) w:=by
 have hf:=wM k l 0 0;unfold Instr.lookup;cases hc:l.contains k.data.toList
 ·rw[if_neg (by rw[hc];decide)] at hf;simp only[Sem.run_bind,run_underlying Tryz.underlying186,Result.andThen_ok,MapKept.run_getObj_map hg,wO,Instr.findKey,run_underlying Tryz.underlying9,hf,Sem.run_pure,Tryz.zeroValue4];rfl
 ·rw[if_pos hc] at hf;obtain⟨n,hf⟩:=hf;simp only[Sem.run_bind,run_underlying Tryz.underlying186,Result.andThen_ok,MapKept.run_getObj_map hg,wO,Instr.findKey,run_underlying Tryz.underlying9,hf,Sem.run_pure];rfl
def ajD:ByteArray:=⟨(([97,110,100,32,97,115,32,98,121,32,99,97,108,108,32,99,114,101,97,116,101,32,100,101,108,101,116,101,32,100,101,115,99,32,100].append [114,111,112,32,102,97,108,115,101,32,102,114,111,109,32,103,114,111,117,112,32,104,97,118,105,110,103,32,105,110,115,101,114,116,32,105]).append ([110,116,111,32,105,115,32,108,105,109,105,116,32,110,111,116,32,110,117,108,108,32,111,110,108,121,32,111,114,32,111,114,100,101,114].append [32,115,101,108,101,99,116,32,115,101,116,32,116,114,117,101,32,117,112,100,97,116,101,32,118,97,108,117,101,115,32,119,104,101,114,101])).toArray⟩
theorem Oe:Lib.fields ajD.data.toList=kj:=by decide+kernel
theorem BS:kj.length=27:=by decide+kernel
theorem XK(hi:i < 27):∃x,kj[i]?=some x/\kj.take (i+1)=kj.take i++ [x]/\(kj.take i).contains x=false:=by
 have hlt:i < kj.length:=by rw[BS];exact hi
 refine⟨kj[i],getElem?_eq_getElem hlt,by rw[take_succ_eq_append_getElem hlt],?_⟩;have key:(List.range 27).all (λ i=> !(kj.take i).contains (kj.getD i []))=true:=by decide+kernel
 have:=List.all_eq_true.1 key i (List.mem_range.2 hi);rw[getD_eq_getElem?_getD,getElem?_eq_getElem hlt] at this;exact Zdt
structure adk (w:World) (i:Nat) (wr:World):Prop where
 map:KV wr w.heap.size (kj.take i)
 V5:av wr (w.heap.size+1) 9 (kj.map λ l=>Value.string ⟨l.toArray⟩).toArray
 Xc:Below w.heap.size w wr
theorem ID(w:World)(hE:Env B w):Calls Tryz.prog 166 #[] w λ e w'=>e=.returned (.map (some w.heap.size))/\KV w' w.heap.size kj/\Below w.heap.size w w':=by
 have V6:= @run_makeMap Tryz.prog;go_enter Tryz.func166,Tryz.ntmps166;go_wp2_with fail;have b0:=aa w (.map #[] 0);refine(CK ajD kj Oe TaP TaP (hE.later b0)).mono ?_;rintro e w1 ⟨rfl,rfl⟩;rw[BS]
 have hR:adk w 0 ((w.alloc (.map #[] 0)).alloc (.cells (kj.map λ l=>Value.string ⟨l.toArray⟩).toArray 9)):=by
  refine⟨?_,?_,b0.trans (((Below.refl _ _).alloc (Nat.le_refl _) _).mono b0.size)⟩
  ·exact(Below.heap_alloc _ _ _ Tad).trans (heap_alloc_new w _)
  ·have:=av.new (w.alloc (.map #[] 0)) 9 (kj.map λ l=>Value.string ⟨l.toArray⟩).toArray;exact Zdt
 have hs1:(w.alloc (.map #[] 0)).heap.size=w.heap.size+1:=by simp
 rw[hs1];generalize (w.alloc (.map #[] 0)).alloc (.cells (kj.map λ l=>Value.string ⟨l.toArray⟩).toArray 9)=W at*;have HR:=hid hR;clear hR hs1 b0;go_wp2_with fail;go_loopw [7] (λ u wr=>∃i:Nat,i<=27/\u=.int .i64 i/\adk w i wr) (λ u _=>27 - (intOf u).toNat);case atStart=>exact⟨0,by omega,rfl,HR.out⟩
 case round=>
  obtain⟨i,hi,rfl,hr⟩:=hrel;have Og:=hid hr;clear hr;by_cases hlt:i < 27
  ·obtain⟨x,hx,AD,hc⟩:=XK hlt;have hcell:=Og.out.V5.cell i;have hx2:(kj.map λ l=>Value.string ⟨l.toArray⟩).toArray[i]?=some (.string ⟨x.toArray⟩):=by simp[hx]
   rw[hx2] at hcell;have hput:=IC Og.out.map hc;have HTK:=hid AD;clear hx AD hc hx2;go_wp2_with fail;go_roundw
   case rel=>
    refine⟨i+1,by omega,by go_num,?_,?_,?_⟩
    ·rw[HTK.out];have:=oL (es':=(dK (kj.take i++ [x]) 0).toArray) (c':=(kj.take i).length+1) Og.out.map;unfold KV;rw[length_append,length_singleton];rw[<- length_take];exact this
    ·exact(CL _ _ Taa).trans Og.out.V5
    ·exact lW Og.out.Xc _ (Nat.le_refl _) _ _
   case measure=>exact Zcs
  ·obtain rfl:i=27:=by omega
   go_wp2_with fail;refine bodyPost_ret (v:=.map (some w.heap.size)) ?_ rfl ⟨rfl,?_,Og.out.Xc⟩
   ·simp[results,Tryz.results166,go_sem]
   ·have:=Og.out.map;rwa [take_of_length_le (Nat.le_of_eq BS)] at this
theorem Fj (l:List UInt8):kj.contains l=kP l:=rfl
theorem xI {B:Nat}(s:ByteArray)(w:World)(hE:Env B w):Calls Tryz.prog 139 #[.string s] w λ e w'=>e=.returned (.bool (kP s.data.toList))/\Below w.heap.size w w':=by go_enter Tryz.func139,Tryz.ntmps139;go_wp2_with fail;refine(ID w hE).mono ?_;rintro e w1 ⟨rfl,hm,b1⟩;have hl:=Fi hm s;rw[Fj] at hl;clear hm;go_wp2_with fail;go_ret;exact⟨rfl,b1⟩
theorem Ix(s:ByteArray) {at_:Nat}  (hd:s.data.toList.drop at_=c::r)(hc:aL c=true):
  (s.extract at_ (eA aL s.data.toList at_)).data.toList=(c::r).takeWhile aL/\(c::r).takeWhile aL≠ []:=by rw[lz,hd];exact⟨rfl,by rw[takeWhile_cons,if_pos hc];simp⟩
theorem NT(s:ByteArray) (hk:k<=s.size):((s.data.toList.drop k).head?.any bH=true↔k < eA bH s.data.toList k):=by
 cases h:s.data.toList[k]? with
 | none=>rw[drop_eq_nil_of_le Tam,xD Tam];simp
 | some d=>
   rw[drop_at h];cases hp:bH d
   ·rw[BP h hp];simp[hp]
   ·rw[qR h hp];have:=rS bH s.data.toList (k+1);simp[hp];omega
theorem NU{l:List UInt8}(hne:l≠ []):(decide (l.length<=1)|| !(l.head?==some 48))= !(l.head?==some 48 && !(l== [48])):=by
 match l with
 | []=>exact absurd rfl hne
 | [c]=>by_cases h:c=48 <;> simp[h]
 | c::d::r=>by_cases h:c=48 <;> simp[h]
theorem zfu.Kbz(h:p:=by
 go_quiet (fail);generalize s.extract at_ k=x at*;have bb2:=bb.trans ((cN _ nq).mono bb.size);have iq:At s g w at_ _:=(At.refl hL).later bb2;have Ku:=hid (HZ.out.drewN nq);generalize (w.alloc (.cells #[.int .u8 0,.string ⟨#[]⟩,.int .i64 0,.int .i64 0] 81)).drewN nq=W at*;have zq:=hid (hE.later bb2);have hx0:q.head?=some x[0]:=by rw[<- HX.out,head?_eq_getElem?];exact byte_at x 0 NZ
 have hxl:x.toList=q:=by rw[ByteArray.toList_eq];exact HX.out
 have CF:=hid hx0;have HXL:=hid hxl;clear hx0 hxl;go_wp2_with fail;by_cases hv:gZ q<=9223372036854775807
 ·refine(XC nA (by rw[HX.out];exact HN.out) (by rw[HX.out];exact NW.out) (by rw[HX.out];exact hv) _).mono ?_;rintro e w1 ⟨rfl,b1⟩;rw[HX.out];have Oa:=iq.later b1;have Kv:=hid (Ku.out.later b1);obtain⟨d0,d1⟩:=dh Oa.1;have EY:=hid Oa;clear Oa;obtain⟨z0,z1,z2,z3,y0,y1,y2,y3⟩:=aO Kv.out;by_cases hb:q.head?=some 48/\q≠ [48]
  ·have Iy:R=.error 30:=by rw[lV.out,if_neg];rw[qD,HZF.out];simp[hb.1,hb.2]
   have Iz:=hid Iy;clear Iy;have t1:(((x[0].toNat:Nat):Int)==48)=true:=by have:=CF.out.symm.trans hb.1;injection this with this;rw[this];rfl
   have t2:¬x.toList=[48]:=by rw[HXL.out];exact hb.2
   have t3:(x.toList== [48])=false:=by simpa using t2
   clear hb;exact ZaM
  ·by_cases Ob:k < eA bH s.data.toList k
   ·have Iy:R=.error 30:=by rw[lV.out,if_neg];rw[HFL.out.2 Ob];simp
    have Iz:=hid Iy;clear Iy;have g2:=decide_eq_true (show(k:Int)<(eA bH s.data.toList k:Nat) by omega);have g3:=decide_eq_true Ob;by_cases Xb:x[0]=48
    ·have t1:(((x[0].toNat:Nat):Int)==48)=true:=by rw[Xb];rfl
     have t2:x.toList=[48]:=by exact Zgh
     have t3:(x.toList== [48])=true:=by simpa using t2
     exact ZeS
    ·have t1:(((x[0].toNat:Nat):Int)==48)=false:=by rw[beq_eq_false_iff_ne];intro h;exact Xb (UInt8.toNat_inj.1 Tbk)
     exact ZeS
   ·have Iy:R=.ok (⟨2,[],gZ q⟩,rr):=by
     rw[lV.out,if_pos]
     have h1:(rr.head?.any bH)=false:=by
      cases hh:rr.head?.any bH
      ·rfl
      ·exact absurd (HFL.out.1 hh) Ob
     rw[h1,qD,HZF.out];simp[hv];by_cases hq:q=[48]
     ·exact .inr hq
     ·exact .inl λ h=>hb ⟨h,hq⟩
    have Iz:=hid Iy;clear Iy;have hfe:eA bH s.data.toList k=k:=by have:=rS bH s.data.toList k;omega
    have AG:=hid hfe;clear hfe Ob;by_cases Xb:x[0]=48
    ·have t1:(((x[0].toNat:Nat):Int)==48)=true:=by rw[Xb];rfl
     have t2:x.toList=[48]:=by exact Zgh
     have t3:(x.toList== [48])=true:=by simpa using t2
     exact Za2
    ·have t1:(((x[0].toNat:Nat):Int)==48)=false:=by rw[beq_eq_false_iff_ne];intro h;exact Xb (UInt8.toNat_inj.1 Tbk)
     exact Za2
 ·have Iy:R=.error 30:=by rw[lV.out,if_neg];rw[qD];simp[hv]
  have Iz:=hid Iy;clear Iy;refine(KR nA (by rw[HX.out];exact HN.out) (by rw[HX.out];exact NW.out) (by rw[HX.out];exact hv) zq.out).mono ?_;rintro e w1 ⟨⟨N,rfl⟩,b1⟩;have Oa:=iq.later b1;have Kv:=hid (Ku.out.later b1);obtain⟨d0,d1⟩:=dh Oa.1;have EY:=hid Oa;clear Oa;obtain⟨z0,z1,z2,z3,y0,y1,y2,y3⟩:=aO Kv.out;exact ZaM):p:=h
theorem NV (B:Nat)(s:ByteArray)(g at_:Nat)(w:World)(hE:Env B w)(hB:B<=g)(hL:av w g 118 (tq s at_))(c:UInt8)(r:List UInt8)(hd:s.data.toList.drop at_=c::r)(hc:aL c=true)(hl:bH c=false)(hs:s.size<=4294967280):
  Calls Tryz.prog 106 #[.pointer (some ⟨g,0,none⟩)] w (KQ s g at_ w (dG (c::r))):=by
 have ha:at_<=s.size:=by exact ZeR
 have dR:dG (c::r)=if qD ((c::r).takeWhile aL)&& !(((c::r).dropWhile aL).head?.any bH)then .ok (⟨2,[],gZ ((c::r).takeWhile aL)⟩,(c::r).dropWhile aL)else .error 30:=by simp only[dG,hl,if_pos hc];rfl
 obtain⟨hX,hne⟩:=Ix s hd hc;have Xa:=NT s (pV aL s.data.toList at_ TaZ|>(by simpa using ·));rw[nw,hd] at Xa;have hall:∀x∈(c::r).takeWhile aL,aL x=true:=BQ _;have tI:=qT aL s ha;rw[hd] at tI;obtain⟨c0,c1⟩:=dh hL;have hlt:=hL.lt;have hle:=pV aL s.data.toList at_ TaZ;have FO:=rS aL s.data.toList at_;simp at hle;generalize hk:eA aL s.data.toList at_=k at*;generalize hq:(c::r).takeWhile aL=q at*;generalize V0:(c::r).dropWhile aL=rr at*;generalize hx:dG (c::r)=R at*;have HK:=hid hk;have HX:=hid hX;have NW:=hid hall;have HFL:=hid Xa;have HR:=hid tI;have HN:=hid hne;have HZF:=hid (NU hne);clear hk hq V0 hx hd hX hall Xa tI hne;have lV:=hid dR;clear dR;have hsz:q.length=(s.extract at_ k).size:=by rw[<- HX.out];simp only[ByteArray.size_data,Array.length_toList]
 have nA:(s.extract at_ k).size<=4294967280:=by rw[ByteArray.size_extract];omega
 have NZ:0 <(s.extract at_ k).size:=by rw[<- hsz];exact List.length_pos_iff.2 HN.out
 go_enter Tryz.func106,Tryz.ntmps106;go_wp2_with fail;refine(oh wH s at_ at_ g _ (hL.alloc _) ha hs).mono ?_;rintro e w' ⟨rfl,rfl⟩;rw[HK.out];go_wp2_with fail;open zfu in exact Zc9
theorem Gc (c:UInt8):(wF c=true/\decide ((65:Int)<=c.toNat)=true/\decide ((c.toNat:Int)<=90)=true)\/(wF c=false/\decide ((65:Int)<=c.toNat)=true/\decide ((c.toNat:Int)<=90)=false)\/(wF c=false/\decide ((65:Int)<=c.toNat)=false):=by
 have e:wF c=(decide ((65:Int)<=c.toNat)&& decide ((c.toNat:Int)<=90)):=by rw[Bool.eq_iff_iff];simp only[wF,UInt8.le_iff_toNat_le,Bool.and_eq_true,decide_eq_true_eq];simp;omega
 rw[e];by_cases h1:(65:Int)<=c.toNat <;> by_cases h2:(c.toNat:Int)<=90 <;> simp[h1,h2]
def okC (c:UInt8):Bool:= !wF c && cq c
theorem XL(h0:0 < s.size):jd s.data.toList=(decide (s.size<=32)&& !kP s.data.toList && !aL s[0] && s.data.toList.all okC):=by
 have h1:=byte_at s 0 h0;have hlen:s.data.toList.length=s.size:=by simp
 match hl:s.data.toList with
 | []=>rw[hl] at hlen;simp at hlen;omega
 | c::r=>rw[hl] at h1 hlen;simp only[getElem?_cons_zero,Option.some.injEq] at h1;rw[<- h1,<- hlen];rfl
theorem Ts(h0:¬0 < s.size):jd s.data.toList=false:=by
 have hlen:s.data.toList.length=s.size:=by simp
 match hl:s.data.toList with
 | []=>rfl
 | c::r=>rw[hl] at hlen;simp at hlen;omega
theorem afa{p:UInt8->Bool} (hi:i < s.size):(s.data.toList.drop i).all p=(p s[i] &&(s.data.toList.drop (i+1)).all p):=by rw[drop_at (byte_at s i hi),all_cons]
theorem Z8{p:UInt8->Bool} (hi:¬i < s.size):(s.data.toList.drop i).all p=true:=by rw[drop_eq_nil_of_le Tae];rfl
theorem Oh(h:0 < s.size):¬s.toList=[]:=by
 intro e;rw[ByteArray.toList_eq] at e;have:s.data.toList.length=s.size:=by simp
 rw[e] at this;simp at this;omega
theorem XM(h:¬0 < s.size):s=⟨#[]⟩:=by
 rcases s with ⟨⟨l⟩⟩
 cases l with
 | nil=>rfl
 | cons c r=>exact absurd (by simp[ByteArray.size]) h
def KW (b:Bool)(w:World)(e:Ending)(w':World):Prop:=e=.returned (.bool b)/\Below w.heap.size w w'
theorem zgY.Kcb(h:p:=by
 go_loop [23] (λ u=>∃i:Nat,i<=s.size/\u=.int .i64 i/\R=(s.data.toList.drop i).all okC) (λ u=>s.size - (intOf u).toNat);case atStart=>exact⟨0,by omega,rfl,by rw[HEQ.out,eH.out,XO.out];simp[h32]⟩
 case round=>
  obtain⟨i,hi,rfl,V0⟩:=hrel;have tu:=hid V0;clear V0;by_cases hlt:i < s.size
  ·have HA:=hid (afa (p:=okC) hlt);cases hl:bH s[i] <;> cases hd:aL s[i] <;> rcases Gc s[i] with ⟨hc,t1,t2⟩|⟨hc,t1,t2⟩|⟨hc,t1⟩
   all_goals
    have HL:=hid hl;have HD:=hid hd;have HC:=hid hc;clear hl hd hc;go_wp2_with (first
     |(go_at_call 103;refine(rT s[i] _).mono ?_;rintro e w' ⟨rfl,rfl⟩;rw[HL.out])
     |(go_at_call 105;refine(oI s[i] _).mono ?_;rintro e w' ⟨rfl,rfl⟩;rw[HD.out]))
    first
     |(go_ret
       refine⟨dv ?_,b1⟩
       rw[tu.out,HA.out]
       simp[okC,cq,HL.out,HD.out,HC.out];done)
     |(go_round
       case rel=>exact⟨i+1,hlt,by go_num,by rw[tu.out,HA.out];simp[okC,cq,HL.out,HD.out,HC.out]⟩
       case measure=>simp[intOf];omega)
  ·go_wp2_with fail;go_ret;exact⟨dv (by rw[tu.out,Z8 hlt]),b1⟩):p:=h
theorem zgZ.Kcb(h:p:=by go_ret;exact⟨dv (by rw[HEQ.out,XO.out];simp),b1⟩):p:=h
theorem XN(s:ByteArray)(w:World)(hE:Env B w)(hs:s.size<=4294967280):Calls Tryz.prog 88 #[.string s] w (KW (jd s.data.toList) w):=by
 by_cases h0:0 < s.size
 ·have hne:=Oh h0;have afb:(s.toList== [])=false:=by simpa using hne
  have auU:(!s.toList.isEmpty)=true:=by simpa using hne
  have HEQ:=hid (XL h0);generalize jd s.data.toList=R at*;by_cases h32:s.size<=32
  ·have hr:= @xI B s w hE;cases hres:kP s.data.toList
   ·rw[hres] at hr;have eH:=hid hres;have HR:=hid hr;clear hres hr;cases hd0:aL s[0]
    ·open zgY in exact ZeG
    ·open zgZ in exact ZeG
   ·rw[hres] at hr;have eH:=hid hres;have HR:=hid hr;clear hres hr;go_enter Tryz.func88,Tryz.ntmps88;go_wp2_with fail;refine HR.out.mono ?_;rintro e w1 ⟨rfl,b1⟩;go_wp2_with fail;go_ret;exact⟨dv (by rw[HEQ.out,eH.out];simp),b1⟩
  ·have t1:=decide_eq_true (show(32:Int)< s.size by omega);go_enter Tryz.func88,Tryz.ntmps88;go_wp2_with fail;go_ret;exact⟨dv (by rw[HEQ.out];simp[h32]),Below.refl _ _⟩
 ·rw[Ts h0];obtain rfl:=XM h0;go_enter Tryz.func88,Tryz.ntmps88;go_wp2_with fail;go_ret;exact⟨rfl,Below.refl _ _⟩
end Go.Proofs.YtehhdlgjfdnafaaGreatDoor
