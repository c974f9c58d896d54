/- Parts of the proof. -/
import Derived.Test.YtehhdlgjfdnafaaGreatDoorXB3
import Derived.Test.YtehhdlgjfdnafaaGreatDoorXB4
namespace Go.Proofs.YtehhdlgjfdnafaaGreatDoor
variable{p:Prop}
set_option maxHeartbeats 90000000
set_option maxRecDepth 100000
open Go.Lib (hid)
open Go.ChangeShapes Go.WideShapes Go.ChangeAt Go.RowKit Go.Shelf List
set_option linter.unusedVariables false
set_option linter.unusedSimpArgs false
def Q4 (g:Nat)(w:World):Nat:=match w.cell? ⟨g,1,none⟩with | some (.int .i64 n)=>n.toNat | _=>0
variable{w:World}{g:Nat}{t:TypeId}{s:ByteArray}{a:Nat}
theorem wX(h:av w g t (se s a)):Q4 g w=a:=by unfold Q4;rw[(cQ h).2];simp
def At (s:ByteArray)(g:Nat)(w:World)(a:Nat)(w':World):Prop:=av w' g 118 (se s a)/\w.grownBy w' (some g)
theorem At.refl(h:av w g 118 (se s a)):At s g w a w:=⟨h,aB (Below.refl _ _)⟩
variable{b:Nat}{w':World}
theorem At.set(h:At s g w a w'):At s g w b (w'.setCell ⟨g,1,none⟩ (.int .i64 b)):=⟨h.1.cC 1 _,bu h.2 1 _⟩
variable{w1 w2:World}
theorem At.later(h:At s g w a w1)(k:Below w1.heap.size w1 w2):At s g w a w2:=⟨h.1.later k,ai h.2 (aB k)⟩
theorem At.trans(h:At s g w a w1)(k:At s g w1 b w2):At s g w b w2:=⟨k.1,ai h.2 k.2⟩
variable{q:Nat}{cs:Array Value}
theorem At.other(h:At s g w a w')(hq:av w q t cs)(hne:q≠g):av w' q t cs:=hq.grown h.2 λ e=>hne Ta3
theorem At.far(h:At s g w a w')(hq:w.heap.size<=q)(hne:q≠g)(i:Nat)(v:Value):At s g w a (w'.setCell ⟨q,i,none⟩ v):=by
 refine⟨h.1.far (p:=⟨q,i,none⟩) (λ e=>hne e.symm) v,h.2.os,h.2.tape,h.2.output,?_,λ k hk Q5=>?_⟩
 ·have:(w'.setCell ⟨q,i,none⟩ v).heap.size=w'.heap.size:=by simp[World.setCell]
  rw[this];exact h.2.size
 ·rw[Below.heap_setCell w' ⟨q,i,none⟩ v k Tad];exact h.2.block k hk Q5
variable{d:Value}
theorem aN{a b c:Value}(h:av w q t #[a,b,c,d]):
  w.cell? ⟨q,0,none⟩=some a/\w.cell? ⟨q,1,none⟩=some b/\w.cell? ⟨q,2,none⟩=some c/\w.cell? ⟨q,3,none⟩=some d/\w.frozen? ⟨q,0,none⟩=false/\w.frozen? ⟨q,1,none⟩=false/\w.frozen? ⟨q,2,none⟩=false/\w.frozen? ⟨q,3,none⟩=false:=
 ⟨h.cell 0,h.cell 1,h.cell 2,h.cell 3,h.frozen 0,h.frozen 1,h.frozen 2,h.frozen 3⟩
theorem vG(h:av w g t (se s a))(i:Nat):w.frozen? ⟨g,i,none⟩=false:=h.frozen i
theorem BR (s p:ByteArray)(w:World):Calls Tryz.prog 101 #[.string s,.string p] w λ e w'=>e=.returned (.bool (Lib.hasPrefix s.data.toList p.data.toList))/\w'=w:=Tryz.strings_HasPrefix s p w
theorem nz (s:ByteArray)(a b:Nat):(s.extract a b).data.toList=(s.data.toList.take b).drop a:=by rw[ByteArray.data_extract,Array.toList_extract,extract_eq_take_drop,drop_take]
theorem JY (s:ByteArray)(a:Nat):(s.extract a s.size).data.toList=s.data.toList.drop a:=by rw[nz];congr 1;rw[take_of_length_le Tae]
variable{k:Nat}
theorem ux{p:ByteArray}  {b:Bool}(h:Lib.hasPrefix (s.data.toList.drop k) p.data.toList=b)(w:World):Calls Tryz.prog 101 #[.string (s.extract k s.size),.string p] w λ e w'=>e=.returned (.bool b)/\w'=w:=
 (BR _ _ w).mono λ e w' ⟨he,hw⟩=>⟨by rw[he,JY,h],hw⟩
def dL (s:ByteArray)(a:Nat):Nat:=s.size - (bM false (s.data.toList.drop a)).length
theorem ir (s:ByteArray)(a:Nat):s.data.toList.drop (dL s a)=bM false (s.data.toList.drop a):=by have h:bM false (s.data.toList.drop a)<:+ s.data.toList:=(mN _ _).trans (List.drop_suffix _ _);have:=drop_suffix h;simpa [dL] using this
theorem nM (s:ByteArray)(a:Nat):dL s a<=s.size:=Nat.sub_le _ _
theorem Fh(s:ByteArray) (h:bM false (s.data.toList.drop a)=bM false (s.data.toList.drop b)):dL s a=dL s b:=by unfold dL;rw[h]
theorem JZ(s:ByteArray) (ha:a<=s.size)(h:Lib.hasPrefix (s.data.toList.drop (ee cO s.data.toList a)) [45,45]=false):dL s a=ee cO s.data.toList a:=by rw[mM] at h;have h2:=Sm h;unfold dL;rw[h2,<- mM,length_drop];have:=oZ cO s.data.toList a TaJ;simp at this ⊢;omega
theorem Ka(s:ByteArray) (ha:a<=s.size)(h:Lib.hasPrefix (s.data.toList.drop (ee cO s.data.toList a)) [45,45]=true):
  dL s a=dL s (ee (λ c=> !(c==10)) s.data.toList (ee cO s.data.toList a))/\a < ee (λ c=> !(c==10)) s.data.toList (ee cO s.data.toList a):=by
 refine⟨Fh s ?_,?_⟩
 ·rw[mM _ _ (ee _ _ _),<- Wx h,mM,<- vE]
 ·have h1:=rh cO s.data.toList a;generalize ee cO s.data.toList a=k at*
  match hk:s.data.toList[k]? with
  | none=>rw[drop_eq_nil_of_le TaB] at h;simp[Lib.hasPrefix] at h
  | some c=>
    rw[drop_at hk] at h;have hc:c=45:=by simp[Lib.hasPrefix,List.isPrefixOf] at h;exact h.1.symm
    subst hc;rw[pS hk Tab];have:=rh (λ c=> !(c==10)) s.data.toList (k+1);omega
def Wz (s:ByteArray)(g a:Nat)(w:World)(e:Ending)(w':World):Prop:=e=.returned (.tuple #[])/\At s g w (dL s a) w'
theorem Kb (s:ByteArray)(g at_:Nat)(w:World)(hL:av w g 118 (se s at_))(ha:at_<=s.size)(hs:s.size<=4294967280):
  Calls Tryz.prog 65 #[.pointer (some ⟨g,0,none⟩)] w (Wz s g at_ w):=by
 go_enter Tryz.func65,Tryz.ntmps65;go_wp2_with fail;go_loopw [] (λ wr=>∃a:Nat,a<=s.size/\At s g w a wr/\dL s at_=dL s a) (λ wr=>s.size - Q4 g wr);case atStart=>exact⟨at_,ha,At.refl hL,rfl⟩
 case round=>
  obtain⟨a,ha1,hat,hsk⟩:=hrel;have HS:=hid hsk;clear hsk;obtain⟨c0,c1⟩:=cQ hat.1;have HL:=hid hat.1;have f1:=vG hat.1 1;have hle:=oZ cO s.data.toList a (by simpa using ha1);have EX:=rh cO s.data.toList a;have HM:=hid (Ka s ha1);have HD:=hid (JZ s ha1);go_wp2_with fail;refine(nw Na s a a g _ HL.out ha1 hs).mono ?_;rintro e w' ⟨rfl,rfl⟩;generalize hk:ee cO s.data.toList a=k at*;have HK:=hid hk;clear hk;simp at hle;go_wp2_with fail;have pD:At s g w k (wr.setCell ⟨g,1,none⟩ (.int .i64 k)):=hat.set;generalize wr.setCell ⟨g,1,none⟩ (.int .i64 k)=W at*;clear c0 c1 f1;obtain⟨c0,c1⟩:=cQ pD.1;have HL2:=hid pD;clear pD;cases hp:Lib.hasPrefix (s.data.toList.drop k) [45,45]
  ·have HP:=hid hp;clear hp;go_quiet ((go_at_call 101;exact Calls.quiet_of_same (ux HP.out _)));go_wp2_with fail;go_end0;refine⟨rfl,?_⟩;rw[HS.out,HD.out HP.out];exact HL2.out.later (cE _ _)
  ·have HP:=hid hp;clear hp;go_quiet ((go_at_call 101;exact Calls.quiet_of_same (ux HP.out _)));have HL3:=hid (HL2.out.later (cE _ nq));have d0:(W.drewN nq).cell? ⟨g,0,none⟩=some (.string s):=c0;have d1:(W.drewN nq).cell? ⟨g,1,none⟩=some (.int .i64 k):=c1;generalize W.drewN nq=W2 at*;clear c0 c1 HL2;have f1:=vG HL3.out.1 1;go_wp2_with fail;refine(nw Ss s k k g _ HL3.out.1 hle hs).mono ?_;rintro e w' ⟨rfl,rfl⟩;go_wp2_with fail;have HM2:=hid (HM.out HP.out);go_roundw;case rel=>exact⟨_,by simpa using oZ (λ c=> !(c==10)) s.data.toList k (by simpa using hle),HL3.out.set,by rw[HS.out,HM2.out.1]⟩
   case measure=>rw[wX hat.1,wX (HL3.out.set (b:=ee (λ c=> !(c==10)) s.data.toList k)).1];have:=HM2.out.2;have:=oZ (λ c=> !(c==10)) s.data.toList k (by simpa using hle);simp at this;omega
theorem nN (s:ByteArray)(g at_ q:Nat)(k:Int)(t:ByteArray)(n a:Int)(w:World)(hL:av w g 118 (se s at_)):
  Calls Tryz.prog 145 #[.pointer (some ⟨g,0,none⟩),.agg #[.int .u8 k,.string t,.int .i64 n,.int .i64 a],.int .i64 q] w λ e w'=>e=.returned (.tuple #[.agg #[.int .u8 k,.string t,.int .i64 n,.int .i64 at_],.int .i64 0])/\At s g w q w':=by
 have HL:=hid hL;obtain⟨c0,c1⟩:=cQ hL;have f1:=vG hL 1;have hlt:=hL.lt;go_enter Tryz.func145,Tryz.ntmps145;go_wp2_with fail;refine bodyPost_ret (v:=.tuple #[.agg #[.int .u8 k,.string t,.int .i64 n,.int .i64 at_],.int .i64 0]) ?_ rfl ⟨rfl,?_⟩
 ·simp[results,Tryz.results145,go_sem]
 ·exact((At.refl hL).set (b:=q)).later (((Below.refl _ _).alloc (Nat.le_refl _) _).alloc Tae _)
def Kc (s:ByteArray)(g at_:Nat)(w:World)(r:Except Nat (Wd×List UInt8))(e:Ending)(w':World):Prop:=
 match r with
 | .ok (d,rest)=>e=.returned (.tuple #[.agg #[.int .u8 d.k,.string ⟨d.s.toArray⟩,.int .i64 d.n,.int .i64 at_],.int .i64 0])/\At s g w (s.size - rest.length) w'
 | .error x=>e=.returned (.tuple #[.agg #[.int .u8 0,.string ⟨#[]⟩,.int .i64 0,.int .i64 0],.int .i64 x])/\At s g w at_ w'
theorem Hd(hs:s.size<=4294967280)(h:∀c∈s.data.toList,cx c=true)(w:World):Calls Tryz.prog 146 #[.string s] w λ e w'=>e=.returned (.string ⟨(s.data.toList.map oU).toArray⟩)/\Below w.heap.size w w':=
 Tryz.strings_ToLower_ascii s w Taa λ j b hb=>MX (h b (mem_of_getElem? hb))
theorem kC (p:UInt8->Bool)(s:ByteArray)(k:Nat):(s.extract k (ee p s.data.toList k)).data.toList=(s.data.toList.drop k).takeWhile p:=by rw[nz,<- JU,drop_take]
theorem Qe (p:UInt8->Bool)(l:List UInt8)(k:Nat):ee p l k - k=((l.drop k).takeWhile p).length:=by unfold ee;omega
theorem pT(p:UInt8->Bool)(s:ByteArray) (hk:k<=s.size):s.size - ((s.data.toList.drop k).dropWhile p).length=ee p s.data.toList k:=by rw[<- mM,length_drop];have:=oZ p s.data.toList k TaB;simp at this ⊢;omega
variable{P:Program}{n:String}{x:Array Value}
theorem Fi(h:w.var? P n=some x)(hb:Below w.heap.size w w'):w'.var? P n=some x:=by
 unfold World.var? at*
 cases hg:P.globalNamed n with
 | none=>rw[hg] at h;simp at h
 | some g=>
   rw[hg] at h;simp only[Option.bind_some] at h ⊢
   have:g < w.heap.size:=by
    rcases Nat.lt_or_ge g w.heap.size with hlt | EX
    ·exact hlt
    ·rw[Array.getElem?_eq_none EX] at h;simp at h
   rw[hb.block g this];exact h
variable{zs:List Int}
theorem Fj{k:IntKind} (h:Lib.TabIs P w n k zs)(hb:Below w.heap.size w w'):Lib.TabIs P w' n k zs:=by unfold Lib.TabIs at*;exact Fi h hb
structure kX (w:World):Prop where
 space:Lib.TabIs Tryz.prog w "strings.asciiSpace" .u8 Lib.asciiSpaceTab
 range:∃tp p,w.var? Tryz.prog "strconv.ErrRange" =some #[.iface tp p]
theorem kX.later(h:kX w)(hb:Below w.heap.size w w'):kX w':=by obtain⟨tp,p,h2⟩:=h.range;exact⟨Fj h.space hb,tp,p,Fi h2 hb⟩
def Env (B:Nat)(w:World):Prop:=∃w0,kX w0/\w0.heap.size=B/\Below B w0 w
theorem Env.mk0(h:kX w):Env w.heap.size w:=⟨w,h,rfl,Below.refl _ _⟩
variable{B:Nat}
theorem Env.lib(h:Env B w):kX w:=by obtain⟨w0,h1,rfl,h2⟩:=h;exact h1.later h2
theorem Env.size(h:Env B w):B<=w.heap.size:=by obtain⟨w0,h1,rfl,h2⟩:=h;exact h2.size
theorem Env.below(h:Env B w)(hb:Below B w w'):Env B w':=by obtain⟨w0,h1,h2,h3⟩:=h;exact⟨w0,h1,h2,h3.trans hb⟩
theorem Env.later(h:Env B w)(hb:Below w.heap.size w w'):Env B w':=h.below (hb.mono h.size)
theorem Env.grown(h:Env B w)(hg:w.grownBy w' (some g))(hB:B<=g):Env B w':=h.below (aO hg h.size hB)
theorem Env.at_(h:Env B w)(hg:At s g w a w')(hB:B<=g):Env B w':=h.grown hg.2 hB
theorem WA(hs:s.size<=4294967280)(hne:s.data.toList≠ [])(hd:∀c∈s.data.toList,aL c=true)(h:gO s.data.toList<=9223372036854775807)(w:World):
  Calls Tryz.prog 147 #[.string s,.int .i64 10,.int .i64 64] w λ e w'=>e=.returned (.tuple #[.int .i64 (gO s.data.toList:Int),.nilIface])/\Below w.heap.size w w':=by
 refine(Tryz.strconv_ParseInt_10_at64_ok s Taa _ (by rw[BN hne hd,if_pos h]) w).mono ?_;rintro e w' ⟨he,hw⟩;refine⟨he,?_⟩;rcases hw with rfl |⟨t,rfl⟩
 ·exact Below.refl _ _
 ·exact⟨rfl,rfl,rfl,by rw[Lib.bytesWorld_size];omega,λ j hj=>Lib.bytesWorld_at_old w _ _ j hj⟩
theorem Kd(hs:s.size<=4294967280)(hne:s.data.toList≠ [])(hd:∀c∈s.data.toList,aL c=true)(h:¬gO s.data.toList<=9223372036854775807) (hE:Env B w):
  Calls Tryz.prog 147 #[.string s,.int .i64 10,.int .i64 64] w λ e w'=>(∃N,e=.returned (.tuple #[.int .i64 9223372036854775807,.iface 219 (.pointer (some ⟨N,0,none⟩))]))/\Below w.heap.size w w':=by
 obtain⟨tp,p,hv⟩:=hE.lib.range;refine(Tryz.strconv_ParseInt_10_at64_range_var s Taa (by rw[BN hne hd,if_neg h]) tp p w hv).mono ?_;rintro e w' ⟨N,he,_,_,hb⟩;refine⟨⟨N,?_⟩,hb⟩
 have:Lib.intSat 64 s.data.toList=9223372036854775807:=by
  match hl:s.data.toList with
  | []=>exact absurd hl hne
  | c::r=>
    have:=hd c (by rw[hl];exact mem_cons_self);simp[aL,UInt8.le_iff_toNat_le] at this;have e2:¬c.toNat=45:=by omega
    simp[Lib.intSat,e2]
 rw[he,this]
def more (acc:List UInt8)(x:Option (List UInt8×List UInt8)):Option (List UInt8×List UInt8):=x.map λ y=>(acc++y.1,y.2)
theorem Kg (x:Option (List UInt8×List UInt8)):more [] x=x:=by cases x <;> rfl
variable{c:UInt8}
theorem vI(h:c≠39)(r acc:List UInt8):more acc (gu (c::r))=more (acc++ [c]) (gu r):=by
 cases r with
 | nil=>simp[gu,h,more]
 | cons d r=>simp only[gu,if_neg h,more];cases gu (d::r)<;> simp
theorem BW (r acc:List UInt8):more acc (gu (39::39::r))=more (acc++ [39]) (gu r):=by simp only[gu,more,if_true];cases gu r <;> simp
variable{r:List UInt8}
theorem sQ(h:r.head?≠some 39)(acc:List UInt8):more acc (gu (39::r))=some (acc,r):=by
 cases r with
 | nil=>simp[gu,more]
 | cons d r=>
   have:d≠39:=λ e=>h (by rw[e];rfl)
   simp[gu,this,more]
theorem sR (B b:Nat)(l:List UInt8)(w:World)(h:Kf B b l w)(hB:B<=w.heap.size):Calls Tryz.prog 49 #[.pointer (some ⟨b,0,none⟩)] w λ e w'=>e=.returned (.string ⟨l.toArray⟩)/\Below B w w':=Tryz.Builder_String_any B b l w h hB
structure vJ (s:ByteArray) (g at_:Nat) (w:World) (acc:List UInt8) (w':World):Prop where
 at_:At s g w at_ w'
 buf:Kf (w.heap.size+1) (w.heap.size+1) acc w'
 res:av w' w.heap.size 81 #[.int .u8 0,.string ⟨#[]⟩,.int .i64 0,.int .i64 0]
theorem At.under(h:At s g w a w1)(hb:Below B w1 w2)(hg:g < B)(hB:w.heap.size<=B):At s g w a w2:=
 ⟨h.1.below hb hg,hb.os.trans h.2.os,hb.tape.trans h.2.tape,hb.output.trans h.2.output,Nat.le_trans h.2.size hb.size,λ k hk Q5=>(hb.block k Taa).trans (h.2.block k hk Q5)⟩
variable{acc:List UInt8}
theorem vJ.size{at_:Nat}  (h:vJ s g at_ w acc w'):w.heap.size+1<=w'.heap.size:=h.res.lt
variable{w'':World}{aij:List UInt8}
theorem vJ.next{at_:Nat}  (h:vJ s g at_ w acc w')(hg:g < w.heap.size)(hb:Below (w.heap.size+1) w' w'')(aoe:Kf (w.heap.size+1) (w.heap.size+1) aij w''):vJ s g at_ w aij w'':=
 ⟨h.at_.under hb Taa Taa,aoe,h.res.below hb Taa⟩
theorem zfG.Kby(h:p:=by clear BX;exact ZaW):p:=h
theorem ziL.KcU(h:p:=by
 clear hq;go_wp2_with fail;refine(BV _ _ acc s[k] _ yP.out.buf Taa hsz).mono ?_;rintro e w1 ⟨rfl,hb,b1⟩;go_wp2_with fail;go_roundw;case rel=>refine⟨k+1,acc++ [s[k]],by omega,by simp;omega,by go_num,yP.out.next hlt b1 hb,?_⟩;rw[HM.out,drop_at HB.out,vI HQ.out]
 case measure=>exact Zcu):p:=h
theorem WE (s:ByteArray)(g at_:Nat)(w:World)(hL:av w g 118 (se s at_))(r:List UInt8)(hd:s.data.toList.drop at_=39::r)(hs:s.size<=4294967280):
  Calls Tryz.prog 108 #[.pointer (some ⟨g,0,none⟩)] w (Kc s g at_ w (dH (39::r))):=by
 have ha:at_ < s.size:=by exact Ze0
 have hr:r=s.data.toList.drop (at_+1):=by rw[<- drop_drop,hd];rfl
 subst hr
 have dE:dH (39::s.data.toList.drop (at_+1))=match more [] (gu (s.data.toList.drop (at_+1)))with
   | some (t,rest)=> .ok (⟨3,t,0⟩,rest)
   | none=> .error 30:=by
  rw[Kg];have h1:bJ 39=false:=by decide
  have h2:aL 39=false:=by decide
  simp only[dH,h1,h2];rfl
 obtain⟨c0,c1⟩:=cQ hL;have hlt:=hL.lt;have hne:w.heap.size≠g:=by omega
 generalize dH (39::s.data.toList.drop (at_+1))=R at*;have kY:=hid dE;have Er:=hid hd;clear dE hd;go_enter Tryz.func108,Tryz.ntmps108;go_wp2_with fail;have hT:vJ s g at_ w [] ((w.alloc (.cells #[.int .u8 0,.string ⟨#[]⟩,.int .i64 0,.int .i64 0] 81)).alloc (.cells #[.pointer none,.slice none 0 0] 61)):=by refine⟨(At.refl hL).later (((Below.refl _ _).alloc (Nat.le_refl _) _).alloc Tae _),.inl ⟨Nat.le_refl _,.slice none 0 0,?_,⟨rfl,.inl ⟨rfl,rfl⟩⟩,by simp[Value.ownBlock]⟩,(av.new w _ _).alloc _⟩;have:=heap_alloc_new (w.alloc (.cells #[.int .u8 0,.string ⟨#[]⟩,.int .i64 0,.int .i64 0] 81)) (.cells #[.pointer none,.slice none 0 0] 61);simpa using this
 generalize (w.alloc (.cells #[.int .u8 0,.string ⟨#[]⟩,.int .i64 0,.int .i64 0] 81)).alloc (.cells #[.pointer none,.slice none 0 0] 61)=W at*;clear c0 c1;obtain⟨c0,c1⟩:=cQ hT.at_.1;have HT:=hid hT;clear hT;go_wp2_with fail;go_loopw [5] (λ u wr=>∃(k:Nat) (acc:List UInt8),k<=s.size/\acc.length<=k/\u=.int .i64 k/\vJ s g at_ w acc wr/\more [] (gu (s.data.toList.drop (at_+1)))=more acc (gu (s.data.toList.drop k))) (λ u _=>s.size - (intOf u).toNat);case atStart=>exact⟨at_+1,[],ha,by simp,by go_num,HT.out,rfl⟩
 case round=>
  obtain⟨k,acc,hk,oV,rfl,hT,hm⟩:=hrel;have HM:=hid hm;clear hm c0 c1;obtain⟨c0,c1⟩:=cQ hT.at_.1;have hsz:=hT.size;have yP:=hid hT;clear hT;have HLEN:=hid (show s.data.toList.length=s.size by simp);by_cases hks:k < s.size
  ·have HB:=hid (byte_at s k hks);by_cases hq:s[k]=39
   ·have HQ:=hid hq;have t1:(((s[k].toNat:Nat):Int)==39)=true:=by rw[hq];rfl
    clear hq;by_cases AB:k+1 < s.size
    ·have jB:=hid (byte_at s (k+1) AB);have n1:¬((k:Int)+1=s.size):=by omega
     have n2:(((k:Int)+1)==(s.size:Int))=false:=by simpa using n1
     by_cases BX:s[k+1]=39
     ·have pF:=hid BX;have t2:(((s[k+1].toNat:Nat):Int)==39)=true:=by rw[BX];rfl
      have t3:(((s[k+1].toNat:Nat):Int) != 39)=false:=by rw[BX];rfl
      clear BX;go_wp2_with fail;rw[pF.out];refine(BV _ _ acc 39 _ yP.out.buf Taa hsz).mono ?_;rintro e w1 ⟨rfl,hb,b1⟩;go_wp2_with fail;go_roundw;case rel=>refine⟨k+2,acc++ [39],by omega,by simp;omega,by go_num,yP.out.next hlt b1 hb,?_⟩;rw[HM.out,drop_at HB.out,drop_at jB.out,HQ.out,pF.out,BW]
      case measure=>exact Zcu
     ·open zfG in exact ZcT
    ·have n1:((k:Int)+1=s.size):=by omega
     have n2:(((k:Int)+1)==(s.size:Int))=true:=by simpa using n1
     have n3:s.size=k+1:=by omega
     have Nh:=hid (show(s.data.toList.drop (k+1)).head?≠some 39 by rw[drop_eq_nil_of_le Tao];simp);have HN3:=hid n3;clear n3 n1;exact ZaW
   ·open ziL in exact Zg2
  ·have Ni:=hid (show s.data.toList.drop k=[] by rw[drop_eq_nil_of_le Tao]);obtain⟨z0,z1,z2,z3,y0,y1,y2,y3⟩:=aN yP.out.res;go_wp2_with fail;refine bodyPost_ret (v:=.tuple #[.agg #[.int .u8 0,.string ⟨#[]⟩,.int .i64 0,.int .i64 0],.int .i64 30]) ?_ rfl ?_
   ·simp[results,Tryz.results108,go_sem,z0,z1,z2,z3]
   ·rw[kY.out,HM.out,Ni.out];exact⟨rfl,(((yP.out.at_.far (Nat.le_refl _) hne 0 _).far (Nat.le_refl _) hne 1 _ |>.far (Nat.le_refl _) hne 2 _ |>.far (Nat.le_refl _) hne 3 _))⟩
theorem BZ(s:ByteArray)(l:List (List UInt8))(hl:Lib.fields s.data.toList=l)(hs:s.size < 4294967281)(BQ:s.data.toList.all (λ b=>b.toNat < 128)=true)  (hE:Env B w):
  Calls Tryz.prog 149 #[.string s] w λ e w'=>e=.returned (.slice (some ⟨w.heap.size,0,none⟩) l.length l.length)/\w'=w.alloc (.cells (l.map λ l=>Value.string ⟨l.toArray⟩).toArray 9):=by refine(Tryz.strings_Fields s w hs (λ j b hb=>of_decide_eq_true (List.all_eq_true.1 BQ b (mem_of_getElem? hb))) hE.lib.space).mono ?_;rintro e w' ⟨rfl,rfl⟩;rw[hl];exact⟨rfl,rfl⟩
theorem vK (w:World)(a b:Nat):(w.drewN a).drewN b=w.drewN (a+b):=by simp[World.drewN,Nat.add_assoc]
def WH:ByteArray:=⟨#[60,62,32,60,61,32,62,61,32,40,32,41,32,44,32,42,32,43,32,45,32,47,32,37,32,61,32,60,32,62,32,59]⟩
theorem Hj:Lib.fields WH.data.toList=signs:=by decide+kernel
variable{i:Nat}
theorem Qf(hi:i < 15):∃x,signs[i]?=some x/\signs.drop i=x::signs.drop (i+1)/\1<=x.length/\x.length<=2:=by
 have key:∀i,i < 15->∃x,signs[i]?=some x/\1<=x.length/\x.length<=2:=by
  intro i hi
  match i,hi with
  | 0,_ | 1,_ | 2,_ | 3,_ | 4,_ | 5,_ | 6,_ | 7,_ | 8,_ | 9,_ | 10,_ | 11,_ | 12,_ | 13,_ | 14,_=>exact⟨_,rfl,by decide,by decide⟩
  | n+15,h=>omega
 obtain⟨x,h1,h2,h3⟩:=key i hi;refine⟨x,h1,?_,h2,h3⟩;have hlt:i < signs.length:=hi;rw[drop_eq_getElem_cons hlt];rw[getElem?_eq_getElem hlt] at h1;injection h1 with h1;rw[h1]
theorem zi0.Kc1(h:p:=by
 have HS:=hid (av.new (w.alloc (.cells #[.int .u8 0,.string ⟨#[]⟩,.int .i64 0,.int .i64 0] 81)) 9 (signs.map λ l=>Value.string ⟨l.toArray⟩).toArray);have hat:At s g w at_ ((w.alloc (.cells #[.int .u8 0,.string ⟨#[]⟩,.int .i64 0,.int .i64 0] 81)).alloc (.cells (signs.map λ l=>Value.string ⟨l.toArray⟩).toArray 9)):=(At.refl hL).later (((Below.refl _ _).alloc (Nat.le_refl _) _).alloc Tae _);generalize hb:(w.alloc (.cells #[.int .u8 0,.string ⟨#[]⟩,.int .i64 0,.int .i64 0] 81)).heap.size=b at*;obtain rfl:b=w.heap.size+1:=by rw[<- hb];simp
 generalize (w.alloc (.cells #[.int .u8 0,.string ⟨#[]⟩,.int .i64 0,.int .i64 0] 81)).alloc (.cells (signs.map λ l=>Value.string ⟨l.toArray⟩).toArray 9)=W at*;clear c0 c1 hb;have jg:=hid hat;have hlen:signs.length=15:=rfl;rw[hlen];clear hlen hat;go_wp2_with fail;go_loopw [8] (λ u wr=>∃i n:Nat,i<=15/\u=.int .i64 i/\wr=W.drewN n/\gV signs (s.data.toList.drop at_)=gV (signs.drop i) (s.data.toList.drop at_)) (λ u _=>15 - (intOf u).toNat);case atStart=>exact⟨0,0,by omega,rfl,rfl,rfl⟩
 case round=>
  obtain⟨i,n,hi,rfl,rfl,hsg⟩:=hrel;have HSG:=hid hsg;clear hsg;by_cases WJ:i < 15
  ·obtain⟨x,hx,hdx,hx1,hx2⟩:=Qf WJ;have hcell:(W.drewN n).cell? ⟨w.heap.size+1,i,none⟩=some (.string ⟨x.toArray⟩):=by rw[(HS.out.drewN n).cell i];simp[hx]
   have Q6:=hid (jg.out.later (cE W n));have HZn:=hid (HZ.out.drewN n);obtain⟨c0,c1⟩:=cQ Q6.out.1;generalize hWn:W.drewN n=Wn at*;have HWN:=hid hWn;have HX:=hid hx;have Sx:=hid hdx;clear hWn hx hdx;cases hp:Lib.hasPrefix (s.data.toList.drop at_) x
   ·have HP:=hid hp;clear hp;go_wp2_with fail;go_quiet ((go_at_call 101;exact Calls.quiet_of_same (ux HP.out _)));go_wp2_with fail;go_roundw
    case rel=>
     refine⟨i+1,n+nq,by omega,by go_num,?_,?_⟩
     ·rw[<- HWN.out];exact vK W n nq
     ·rw[HSG.out,Sx.out,gV,if_neg];have:=HP.out;simp only[Lib.hasPrefix] at this;rw[this];decide
    case measure=>exact Zcu
   ·have HP:=hid hp;clear hp;go_wp2_with fail;go_quiet ((go_at_call 101;exact Calls.quiet_of_same (ux HP.out _)));have adN:=hid (Q6.out.later (cE Wn nq));have HZq:=hid (HZn.out.drewN nq);generalize Wn.drewN nq=Wq at*;clear c0 c1 hcell;obtain⟨c0,c1⟩:=cQ adN.out.1;go_wp2_with fail;have abR:((at_:Int)+(x.length:Int))=((at_+x.length:Nat):Int):=by omega
    rw[abR];refine(nN s g at_ (at_+x.length) 4 ⟨x.toArray⟩ 0 0 _ adN.out.1).mono ?_;rintro e w2 ⟨rfl,pD⟩;obtain⟨z0,z1,z2,z3,y0,y1,y2,y3⟩:=aN (pD.other HZq.out hne);clear abR;go_wp2_with fail;refine bodyPost_ret (v:=.tuple #[.agg #[.int .u8 4,.string ⟨x.toArray⟩,.int .i64 0,.int .i64 at_],.int .i64 0]) ?_ rfl ?_
    ·simp[results,Tryz.results109,go_sem,z0,z1,z2,z3]
    ·have e1:gV signs (s.data.toList.drop at_)=some x:=by rw[HSG.out,Sx.out,gV,if_pos];exact HP.out
     rw[kY.out,e1];refine⟨rfl,?_⟩;show At s g w (s.size - _) _
     have e2:s.size - ((s.data.toList.drop at_).drop x.length).length=at_+x.length:=by
      have h4:x.length<=(s.data.toList.drop at_).length:=by have:=HP.out;simp only[Lib.hasPrefix,isPrefixOf_iff_prefix] at this;exact this.length_le
      rw[length_drop] at h4 ⊢;simp at h4 ⊢;omega
     rw[e2];exact(((adN.out.trans pD).far (Nat.le_refl _) hne 0 _).far (Nat.le_refl _) hne 1 _ |>.far (Nat.le_refl _) hne 2 _ |>.far (Nat.le_refl _) hne 3 _)
  ·obtain rfl:i=15:=by omega
   have Q6:=hid (jg.out.later (cE W n));have HZn:=hid (HZ.out.drewN n);generalize W.drewN n=Wn at*;obtain⟨z0,z1,z2,z3,y0,y1,y2,y3⟩:=aN HZn.out;go_wp2_with fail;refine bodyPost_ret (v:=.tuple #[.agg #[.int .u8 0,.string ⟨#[]⟩,.int .i64 0,.int .i64 0],.int .i64 30]) ?_ rfl ?_
   ·simp[results,Tryz.results109,go_sem,z0,z1,z2,z3]
   ·rw[kY.out,HSG.out];exact⟨rfl,(((Q6.out.far (Nat.le_refl _) hne 0 _).far (Nat.le_refl _) hne 1 _ |>.far (Nat.le_refl _) hne 2 _ |>.far (Nat.le_refl _) hne 3 _))⟩):p:=h
theorem WI (B:Nat)(s:ByteArray)(g at_:Nat)(w:World)(hE:Env B w)(hB:B<=g)(hL:av w g 118 (se s at_))(c:UInt8)(r:List UInt8)(hd:s.data.toList.drop at_=c::r)(h1:bJ c=false)(h2:aL c=false)(h3:c≠39)(hs:s.size<=4294967280):
  Calls Tryz.prog 109 #[.pointer (some ⟨g,0,none⟩)] w (Kc s g at_ w (dH (c::r))):=by
 have ha:at_ < s.size:=by exact Ze0
 have dE:dH (c::r)=match gV signs (s.data.toList.drop at_)with
   | some x=> .ok (⟨4,x,0⟩,(s.data.toList.drop at_).drop x.length)
   | none=> .error 30:=by
  rw[hd];simp only[dH,h1,h2,if_neg h3];rfl
 obtain⟨c0,c1⟩:=cQ hL;have hlt:=hL.lt;have hne:w.heap.size≠g:=by omega
 generalize dH (c::r)=R at*;have kY:=hid dE;clear dE hd;go_enter Tryz.func109,Tryz.ntmps109;go_wp2_with fail;have bb:=aa w (.cells #[.int .u8 0,.string ⟨#[]⟩,.int .i64 0,.int .i64 0] 81);refine(BZ WH signs Hj Ta8 Ta8 (hE.later bb)).mono ?_;rintro e w1 ⟨rfl,rfl⟩;open zi0 in exact Zhu
def fo (w:World)(g:Nat)(es:Array MapEntry)(c:Nat):World:= { w with heap:=w.heap.setIfInBounds g (.map es c)}
variable{w0:World}
theorem lj(h:Below B w0 w)(g:Nat)(hg:B<=g)(es:Array MapEntry)(c:Nat):Below B w0 (fo w g es c):=by
 refine⟨h.os,h.tape,h.output,?_,λ k hk=>?_⟩
 ·have:=h.size;simp[fo];exact this
 ·rw[<- h.block k hk];simp only[fo,Array.getElem?_setIfInBounds];rw[if_neg Taa]
variable{es es':Array MapEntry}{c':Nat}
theorem nO{c:Nat}(hg:w.heap[g]?=some (.map es c)):(fo w g es' c').heap[g]?=some (.map es' c'):=by
 rcases Nat.lt_or_ge g w.heap.size with hlt | EX
 ·simp[fo,hlt]
 ·rw[Array.getElem?_eq_none EX] at hg;cases hg
theorem Ca(es:Array MapEntry)(c:Nat)(h:g≠q):(fo w g es c).heap[q]?=w.heap[q]?:=by simp only[fo,Array.getElem?_setIfInBounds];rw[if_neg h]
def entry (x:List UInt8)(i:Nat):MapEntry:=⟨.string ⟨x.toArray⟩,.bool true,i⟩
def dw:List (List UInt8)->Nat->List MapEntry
 | [],_=> []
 | x::l,i=>entry x i::dw l (i+1)
theorem wY (x:List UInt8):∀(l:List (List UInt8)) (i:Nat),dw (l++ [x]) i=dw l i++ [entry x (i+l.length)]
 | [],i=>rfl
 | y::l,i=>by simp only[cons_append,dw,wY x l (i+1),length_cons];rw[show i+1+l.length=i+(l.length+1) by omega]
theorem bytes_beq (a b:ByteArray):(a==b)=(a.data.toList==b.data.toList):=by rcases a with ⟨⟨a⟩⟩;rcases b with ⟨⟨b⟩⟩;show((⟨a⟩:Array UInt8)==⟨b⟩)=(a==b);simp
theorem vL (k:ByteArray):∀(l:List (List UInt8)) (i j:Nat),if l.contains k.data.toList=true then∃n,Instr.findNow .string (.string k) (dw l i) j=some (some (n,.bool true))else Instr.findNow .string (.string k) (dw l i) j=some none
 | [],i,j=>by simp[dw,Instr.findNow]
 | x::l,i,j=>by
   have ih:=vL k l (i+1) (j+1);have e:Instr.sameNow .string (.string k) (entry x i).key=some (k.data.toList==x):=by show some (k==(⟨x.toArray⟩:ByteArray))=_;rw[bytes_beq]
   rw[contains_cons];cases hx:(k.data.toList==x)
   ·rw[Bool.false_or];have e2:Instr.findNow .string (.string k) (dw (x::l) i) j=Instr.findNow .string (.string k) (dw l (i+1)) (j+1):=by simp only[dw,Instr.findNow,e,hx]
    rw[e2];exact ih
   ·rw[Bool.true_or,if_pos rfl];exact⟨j,by simp only[dw,Instr.findNow,e,hx];rfl⟩
def Kh (w:World)(g:Nat)(l:List (List UInt8)):Prop:=w.heap[g]?=some (.map (dw l 0).toArray l.length)
theorem vM (e:Bool)(k:ByteArray)(w:World):(Instr.checkKey e 10000 9 (.string k)).run Tryz.prog w=.ok () w:=
 MapKept.run_checkKey Tryz.underlying9 Taw e 9999
variable{l:List (List UInt8)}
theorem Hk(hg:Kh w g l) {x:List UInt8}(hx:l.contains x=false):
  (Instr.mapUpdate 186 (.map (some g)) (.string ⟨x.toArray⟩) (.bool true)).run Tryz.prog w=.ok () (fo w g (dw (l++ [x]) 0).toArray (l.length+1)):=by have hf:=vL ⟨x.toArray⟩ l 0 0;rw[if_neg TaI] at hf;unfold Instr.mapUpdate;simp only[Sem.run_bind,run_underlying Tryz.underlying186,Result.andThen_ok,MapKept.run_getObj_map hg,vM,Instr.findKey,run_underlying Tryz.underlying9,hf,Sem.run_pure,MapKept.run_setObj_map _ hg];rw[wY];simp[fo,entry]
theorem Es(hg:Kh w g l)(k:ByteArray):
  (Instr.lookup 186 (.map (some g)) (.string k) false).run Tryz.prog w=.ok (.bool (l.contains k.data.toList)) w:=by
 have hf:=vL k l 0 0;unfold Instr.lookup;cases hc:l.contains k.data.toList
 ·rw[if_neg (by rw[hc];decide)] at hf;simp only[Sem.run_bind,run_underlying Tryz.underlying186,Result.andThen_ok,MapKept.run_getObj_map hg,vM,Instr.findKey,run_underlying Tryz.underlying9,hf,Sem.run_pure,Tryz.zeroValue4];rfl
 ·rw[if_pos hc] at hf;obtain⟨n,hf⟩:=hf;simp only[Sem.run_bind,run_underlying Tryz.underlying186,Result.andThen_ok,MapKept.run_getObj_map hg,vM,Instr.findKey,run_underlying Tryz.underlying9,hf,Sem.run_pure];rfl
def aim:ByteArray:=⟨(([97,110,100,32,97,115,32,98,121,32,99,97,108,108,32,99,114,101,97,116,101,32,100,101,108,101,116,101,32,100,101,115,99,32,100].append [114,111,112,32,102,97,108,115,101,32,102,114,111,109,32,103,114,111,117,112,32,104,97,118,105,110,103,32,105,110,115,101,114,116,32,105]).append ([110,116,111,32,105,115,32,108,105,109,105,116,32,110,111,116,32,110,117,108,108,32,111,110,108,121,32,111,114,32,111,114,100,101,114].append [32,115,101,108,101,99,116,32,115,101,116,32,116,114,117,101,32,117,112,100,97,116,101,32,118,97,108,117,101,115,32,119,104,101,114,101])).toArray⟩
theorem Nj:Lib.fields aim.data.toList=jN:=by decide+kernel
theorem Bf:jN.length=27:=by decide+kernel
theorem WK(hi:i < 27):∃x,jN[i]?=some x/\jN.take (i+1)=jN.take i++ [x]/\(jN.take i).contains x=false:=by
 have hlt:i < jN.length:=by rw[Bf];exact hi
 refine⟨jN[i],getElem?_eq_getElem hlt,by rw[take_succ_eq_append_getElem hlt],?_⟩;have key:(List.range 27).all (λ i=> !(jN.take i).contains (jN.getD i []))=true:=by decide+kernel
 have:=List.all_eq_true.1 key i (List.mem_range.2 hi);rw[getD_eq_getElem?_getD,getElem?_eq_getElem hlt] at this;exact Zd5
structure abS (w:World) (i:Nat) (wr:World):Prop where
 map:Kh wr w.heap.size (jN.take i)
 N7:av wr (w.heap.size+1) 9 (jN.map λ l=>Value.string ⟨l.toArray⟩).toArray
 VS:Below w.heap.size w wr
theorem Hl(w:World)(hE:Env B w):Calls Tryz.prog 166 #[] w λ e w'=>e=.returned (.map (some w.heap.size))/\Kh w' w.heap.size jN/\Below w.heap.size w w':=by
 have N8:= @run_makeMap Tryz.prog;go_enter Tryz.func166,Tryz.ntmps166;go_wp2_with fail;have b0:=aa w (.map #[] 0);refine(BZ aim jN Nj Ta8 Ta8 (hE.later b0)).mono ?_;rintro e w1 ⟨rfl,rfl⟩;rw[Bf]
 have hR:abS w 0 ((w.alloc (.map #[] 0)).alloc (.cells (jN.map λ l=>Value.string ⟨l.toArray⟩).toArray 9)):=by
  refine⟨?_,?_,b0.trans (((Below.refl _ _).alloc (Nat.le_refl _) _).mono b0.size)⟩
  ·exact(Below.heap_alloc _ _ _ Tae).trans (heap_alloc_new w _)
  ·have:=av.new (w.alloc (.map #[] 0)) 9 (jN.map λ l=>Value.string ⟨l.toArray⟩).toArray;exact Zd5
 have hs1:(w.alloc (.map #[] 0)).heap.size=w.heap.size+1:=by simp
 rw[hs1];generalize (w.alloc (.map #[] 0)).alloc (.cells (jN.map λ l=>Value.string ⟨l.toArray⟩).toArray 9)=W at*;have HR:=hid hR;clear hR hs1 b0;go_wp2_with fail;go_loopw [7] (λ u wr=>∃i:Nat,i<=27/\u=.int .i64 i/\abS w i wr) (λ u _=>27 - (intOf u).toNat);case atStart=>exact⟨0,by omega,rfl,HR.out⟩
 case round=>
  obtain⟨i,hi,rfl,hr⟩:=hrel;have Nk:=hid hr;clear hr;by_cases hlt:i < 27
  ·obtain⟨x,hx,zU,hc⟩:=WK hlt;have hcell:=Nk.out.N7.cell i;have hx2:(jN.map λ l=>Value.string ⟨l.toArray⟩).toArray[i]?=some (.string ⟨x.toArray⟩):=by simp[hx]
   rw[hx2] at hcell;have hput:=Hk Nk.out.map hc;have HTK:=hid zU;clear hx zU hc hx2;go_wp2_with fail;go_roundw
   case rel=>
    refine⟨i+1,by omega,by go_num,?_,?_,?_⟩
    ·rw[HTK.out];have:=nO (es':=(dw (jN.take i++ [x]) 0).toArray) (c':=(jN.take i).length+1) Nk.out.map;unfold Kh;rw[length_append,length_singleton];rw[<- length_take];exact this
    ·exact(Ca _ _ Taa).trans Nk.out.N7
    ·exact lj Nk.out.VS _ (Nat.le_refl _) _ _
   case measure=>exact Zcu
  ·obtain rfl:i=27:=by omega
   go_wp2_with fail;refine bodyPost_ret (v:=.map (some w.heap.size)) ?_ rfl ⟨rfl,?_,Nk.out.VS⟩
   ·simp[results,Tryz.results166,go_sem]
   ·have:=Nk.out.map;rwa [take_of_length_le (Nat.le_of_eq Bf)] at this
theorem Et (l:List UInt8):jN.contains l=kO l:=rfl
theorem wZ {B:Nat}(s:ByteArray)(w:World)(hE:Env B w):Calls Tryz.prog 139 #[.string s] w λ e w'=>e=.returned (.bool (kO s.data.toList))/\Below w.heap.size w w':=by go_enter Tryz.func139,Tryz.ntmps139;go_wp2_with fail;refine(Hl w hE).mono ?_;rintro e w1 ⟨rfl,hm,b1⟩;have hl:=Es hm s;rw[Et] at hl;clear hm;go_wp2_with fail;go_ret;exact⟨rfl,b1⟩
theorem He(s:ByteArray) {at_:Nat}  (hd:s.data.toList.drop at_=c::r)(hc:aL c=true):
  (s.extract at_ (ee aL s.data.toList at_)).data.toList=(c::r).takeWhile aL/\(c::r).takeWhile aL≠ []:=by rw[kC,hd];exact⟨rfl,by rw[takeWhile_cons,if_pos hc];simp⟩
theorem Nb(s:ByteArray) (hk:k<=s.size):((s.data.toList.drop k).head?.any bJ=true↔k < ee bJ s.data.toList k):=by
 cases h:s.data.toList[k]? with
 | none=>rw[drop_eq_nil_of_le Tam,wU Tam];simp
 | some d=>
   rw[drop_at h];cases hp:bJ d
   ·rw[Bd h hp];simp[hp]
   ·rw[pS h hp];have:=rh bJ s.data.toList (k+1);simp[hp];omega
theorem Nc{l:List UInt8}(hne:l≠ []):(decide (l.length<=1)|| !(l.head?==some 48))= !(l.head?==some 48 && !(l== [48])):=by
 match l with
 | []=>exact absurd rfl hne
 | [c]=>by_cases h:c=48 <;> simp[h]
 | c::d::r=>by_cases h:c=48 <;> simp[h]
theorem zfW.KbG(h:p:=by
 go_quiet (fail);generalize s.extract at_ k=x at*;have bb2:=bb.trans ((cE _ nq).mono bb.size);have fW:At s g w at_ _:=(At.refl hL).later bb2;have JG:=hid (HZ.out.drewN nq);generalize (w.alloc (.cells #[.int .u8 0,.string ⟨#[]⟩,.int .i64 0,.int .i64 0] 81)).drewN nq=W at*;have yI:=hid (hE.later bb2);have hx0:q.head?=some x[0]:=by rw[<- HX.out,head?_eq_getElem?];exact byte_at x 0 Nf
 have hxl:x.toList=q:=by rw[ByteArray.toList_eq];exact HX.out
 have BS:=hid hx0;have HXL:=hid hxl;clear hx0 hxl;go_wp2_with fail;by_cases hv:gO q<=9223372036854775807
 ·refine(WA kZ (by rw[HX.out];exact HN.out) (by rw[HX.out];exact Hf.out) (by rw[HX.out];exact hv) _).mono ?_;rintro e w1 ⟨rfl,b1⟩;rw[HX.out];have Ng:=fW.later b1;have JH:=hid (JG.out.later b1);obtain⟨d0,d1⟩:=cQ Ng.1;have Eg:=hid Ng;clear Ng;obtain⟨z0,z1,z2,z3,y0,y1,y2,y3⟩:=aN JH.out;by_cases hb:q.head?=some 48/\q≠ [48]
  ·have Hg:R=.error 30:=by rw[kY.out,if_neg];rw[pQ,HZF.out];simp[hb.1,hb.2]
   have Hh:=hid Hg;clear Hg;have t1:(((x[0].toNat:Nat):Int)==48)=true:=by have:=BS.out.symm.trans hb.1;injection this with this;rw[this];rfl
   have t2:¬x.toList=[48]:=by rw[HXL.out];exact hb.2
   have t3:(x.toList== [48])=false:=by simpa using t2
   clear hb;exact ZaP
  ·by_cases Ep:k < ee bJ s.data.toList k
   ·have Hg:R=.error 30:=by rw[kY.out,if_neg];rw[HFL.out.2 Ep];simp
    have Hh:=hid Hg;clear Hg;have g2:=decide_eq_true (show(k:Int)<(ee bJ s.data.toList k:Nat) by omega);have g3:=decide_eq_true Ep;by_cases VR:x[0]=48
    ·have t1:(((x[0].toNat:Nat):Int)==48)=true:=by rw[VR];rfl
     have t2:x.toList=[48]:=by exact Zgp
     have t3:(x.toList== [48])=true:=by simpa using t2
     exact Ze2
    ·have t1:(((x[0].toNat:Nat):Int)==48)=false:=by rw[beq_eq_false_iff_ne];intro h;exact VR (UInt8.toNat_inj.1 Tbg)
     exact Ze2
   ·have Hg:R=.ok (⟨2,[],gO q⟩,rr):=by
     rw[kY.out,if_pos]
     have h1:(rr.head?.any bJ)=false:=by
      cases hh:rr.head?.any bJ
      ·rfl
      ·exact absurd (HFL.out.1 hh) Ep
     rw[h1,pQ,HZF.out];simp[hv];by_cases hq:q=[48]
     ·exact .inr hq
     ·exact .inl λ h=>hb ⟨h,hq⟩
    have Hh:=hid Hg;clear Hg;have hfe:ee bJ s.data.toList k=k:=by have:=rh bJ s.data.toList k;omega
    have zW:=hid hfe;clear hfe Ep;by_cases VR:x[0]=48
    ·have t1:(((x[0].toNat:Nat):Int)==48)=true:=by rw[VR];rfl
     have t2:x.toList=[48]:=by exact Zgp
     have t3:(x.toList== [48])=true:=by simpa using t2
     exact Za7
    ·have t1:(((x[0].toNat:Nat):Int)==48)=false:=by rw[beq_eq_false_iff_ne];intro h;exact VR (UInt8.toNat_inj.1 Tbg)
     exact Za7
 ·have Hg:R=.error 30:=by rw[kY.out,if_neg];rw[pQ];simp[hv]
  have Hh:=hid Hg;clear Hg;refine(Kd kZ (by rw[HX.out];exact HN.out) (by rw[HX.out];exact Hf.out) (by rw[HX.out];exact hv) yI.out).mono ?_;rintro e w1 ⟨⟨N,rfl⟩,b1⟩;have Ng:=fW.later b1;have JH:=hid (JG.out.later b1);obtain⟨d0,d1⟩:=cQ Ng.1;have Eg:=hid Ng;clear Ng;obtain⟨z0,z1,z2,z3,y0,y1,y2,y3⟩:=aN JH.out;exact ZaP):p:=h
theorem Nd (B:Nat)(s:ByteArray)(g at_:Nat)(w:World)(hE:Env B w)(hB:B<=g)(hL:av w g 118 (se s at_))(c:UInt8)(r:List UInt8)(hd:s.data.toList.drop at_=c::r)(hc:aL c=true)(hl:bJ c=false)(hs:s.size<=4294967280):
  Calls Tryz.prog 106 #[.pointer (some ⟨g,0,none⟩)] w (Kc s g at_ w (dH (c::r))):=by
 have ha:at_<=s.size:=by exact Ze1
 have dE:dH (c::r)=if pQ ((c::r).takeWhile aL)&& !(((c::r).dropWhile aL).head?.any bJ)then .ok (⟨2,[],gO ((c::r).takeWhile aL)⟩,(c::r).dropWhile aL)else .error 30:=by simp only[dH,hl,if_pos hc];rfl
 obtain⟨hX,hne⟩:=He s hd hc;have VQ:=Nb s (oZ aL s.data.toList at_ TaJ|>(by simpa using ·));rw[mM,hd] at VQ;have hall:∀x∈(c::r).takeWhile aL,aL x=true:=Be _;have sK:=pT aL s ha;rw[hd] at sK;obtain⟨c0,c1⟩:=cQ hL;have hlt:=hL.lt;have hle:=oZ aL s.data.toList at_ TaJ;have EX:=rh aL s.data.toList at_;simp at hle;generalize hk:ee aL s.data.toList at_=k at*;generalize hq:(c::r).takeWhile aL=q at*;generalize N6:(c::r).dropWhile aL=rr at*;generalize hx:dH (c::r)=R at*;have HK:=hid hk;have HX:=hid hX;have Hf:=hid hall;have HFL:=hid VQ;have HR:=hid sK;have HN:=hid hne;have HZF:=hid (Nc hne);clear hk hq N6 hx hd hX hall VQ sK hne;have kY:=hid dE;clear dE;have hsz:q.length=(s.extract at_ k).size:=by rw[<- HX.out];simp only[ByteArray.size_data,Array.length_toList]
 have kZ:(s.extract at_ k).size<=4294967280:=by rw[ByteArray.size_extract];omega
 have Nf:0 <(s.extract at_ k).size:=by rw[<- hsz];exact List.length_pos_iff.2 HN.out
 go_enter Tryz.func106,Tryz.ntmps106;go_wp2_with fail;refine(nw vF s at_ at_ g _ (hL.alloc _) ha hs).mono ?_;rintro e w' ⟨rfl,rfl⟩;rw[HK.out];go_wp2_with fail;open zfW in exact Zdj
theorem Fl (c:UInt8):(yO c=true/\decide ((65:Int)<=c.toNat)=true/\decide ((c.toNat:Int)<=90)=true)\/(yO c=false/\decide ((65:Int)<=c.toNat)=true/\decide ((c.toNat:Int)<=90)=false)\/(yO c=false/\decide ((65:Int)<=c.toNat)=false):=by
 have e:yO c=(decide ((65:Int)<=c.toNat)&& decide ((c.toNat:Int)<=90)):=by rw[Bool.eq_iff_iff];simp only[yO,UInt8.le_iff_toNat_le,Bool.and_eq_true,decide_eq_true_eq];simp;omega
 rw[e];by_cases h1:(65:Int)<=c.toNat <;> by_cases h2:(c.toNat:Int)<=90 <;> simp[h1,h2]
def okC (c:UInt8):Bool:= !yO c && cx c
theorem WL(h0:0 < s.size):pR s.data.toList=(decide (s.size<=32)&& !kO s.data.toList && !aL s[0] && s.data.toList.all okC):=by
 have h1:=byte_at s 0 h0;have hlen:s.data.toList.length=s.size:=by simp
 match hl:s.data.toList with
 | []=>rw[hl] at hlen;simp at hlen;omega
 | c::r=>rw[hl] at h1 hlen;simp only[getElem?_cons_zero,Option.some.injEq] at h1;rw[<- h1,<- hlen];rfl
theorem Sy(h0:¬0 < s.size):pR s.data.toList=false:=by
 have hlen:s.data.toList.length=s.size:=by simp
 match hl:s.data.toList with
 | []=>rfl
 | c::r=>rw[hl] at hlen;simp at hlen;omega
theorem adP{p:UInt8->Bool} (hi:i < s.size):(s.data.toList.drop i).all p=(p s[i] &&(s.data.toList.drop (i+1)).all p):=by rw[drop_at (byte_at s i hi),all_cons]
theorem Q7{p:UInt8->Bool} (hi:¬i < s.size):(s.data.toList.drop i).all p=true:=by rw[drop_eq_nil_of_le Tad];rfl
theorem Nl(h:0 < s.size):¬s.toList=[]:=by
 intro e;rw[ByteArray.toList_eq] at e;have:s.data.toList.length=s.size:=by simp
 rw[e] at this;simp at this;omega
theorem WN(h:¬0 < s.size):s=⟨#[]⟩:=by
 rcases s with ⟨⟨l⟩⟩
 cases l with
 | nil=>rfl
 | cons c r=>exact absurd (by simp[ByteArray.size]) h
def Ki (b:Bool)(w:World)(e:Ending)(w':World):Prop:=e=.returned (.bool b)/\Below w.heap.size w w'
theorem zhr.Kci(h:p:=by
 go_loop [23] (λ u=>∃i:Nat,i<=s.size/\u=.int .i64 i/\R=(s.data.toList.drop i).all okC) (λ u=>s.size - (intOf u).toNat);case atStart=>exact⟨0,by omega,rfl,by rw[HEQ.out,et.out,WR.out];simp[h32]⟩
 case round=>
  obtain⟨i,hi,rfl,N6⟩:=hrel;have sf:=hid N6;clear N6;by_cases hlt:i < s.size
  ·have HA:=hid (adP (p:=okC) hlt);cases hl:bJ s[i] <;> cases hd:aL s[i] <;> rcases Fl s[i] with ⟨hc,t1,t2⟩|⟨hc,t1,t2⟩|⟨hc,t1⟩
   all_goals
    have HL:=hid hl;have HD:=hid hd;have HC:=hid hc;clear hl hd hc;go_wp2_with (first
     |(go_at_call 103;refine(ri s[i] _).mono ?_;rintro e w' ⟨rfl,rfl⟩;rw[HL.out])
     |(go_at_call 105;refine(nL s[i] _).mono ?_;rintro e w' ⟨rfl,rfl⟩;rw[HD.out]))
    first
     |(go_ret
       refine⟨cW ?_,b1⟩
       rw[sf.out,HA.out]
       simp[okC,cx,HL.out,HD.out,HC.out];done)
     |(go_round
       case rel=>exact⟨i+1,hlt,by go_num,by rw[sf.out,HA.out];simp[okC,cx,HL.out,HD.out,HC.out]⟩
       case measure=>simp[intOf];omega)
  ·go_wp2_with fail;go_ret;exact⟨cW (by rw[sf.out,Q7 hlt]),b1⟩):p:=h
theorem zhs.Kci(h:p:=by go_ret;exact⟨cW (by rw[HEQ.out,WR.out];simp),b1⟩):p:=h
theorem WO(s:ByteArray)(w:World)(hE:Env B w)(hs:s.size<=4294967280):Calls Tryz.prog 88 #[.string s] w (Ki (pR s.data.toList) w):=by
 by_cases h0:0 < s.size
 ·have hne:=Nl h0;have adQ:(s.toList== [])=false:=by simpa using hne
  have atw:(!s.toList.isEmpty)=true:=by simpa using hne
  have HEQ:=hid (WL h0);generalize pR s.data.toList=R at*;by_cases h32:s.size<=32
  ·have hr:= @wZ B s w hE;cases hres:kO s.data.toList
   ·rw[hres] at hr;have et:=hid hres;have HR:=hid hr;clear hres hr;cases hd0:aL s[0]
    ·open zhr in exact ZeQ
    ·open zhs in exact ZeQ
   ·rw[hres] at hr;have et:=hid hres;have HR:=hid hr;clear hres hr;go_enter Tryz.func88,Tryz.ntmps88;go_wp2_with fail;refine HR.out.mono ?_;rintro e w1 ⟨rfl,b1⟩;go_wp2_with fail;go_ret;exact⟨cW (by rw[HEQ.out,et.out];simp),b1⟩
  ·have t1:=decide_eq_true (show(32:Int)< s.size by omega);go_enter Tryz.func88,Tryz.ntmps88;go_wp2_with fail;go_ret;exact⟨cW (by rw[HEQ.out];simp[h32]),Below.refl _ _⟩
 ·rw[Sy h0];obtain rfl:=WN h0;go_enter Tryz.func88,Tryz.ntmps88;go_wp2_with fail;go_ret;exact⟨rfl,Below.refl _ _⟩
end Go.Proofs.YtehhdlgjfdnafaaGreatDoor
