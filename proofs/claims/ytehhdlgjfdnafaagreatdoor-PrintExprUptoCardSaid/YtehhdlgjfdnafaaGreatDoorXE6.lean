/- Parts of the proof. -/
import Derived.Test.YtehhdlgjfdnafaaGreatDoorXE5
namespace Go.Proofs.YtehhdlgjfdnafaaGreatDoor
variable{p:Prop}
set_option maxHeartbeats 90000000
set_option maxRecDepth 100000
open Go.Lib (hid)
open Go.ChangeShapes Go.WideShapes Go.ChangeAt Go.RowKit Go.Shelf List
set_option linter.unusedVariables false
set_option linter.unusedSimpArgs false
theorem zfm.Kbw(h:p:=by
 go_region_with (first
  |(go_at_call 146;refine(Eh HX1.out oq.out _).mono ?_;rintro e w1 ⟨rfl,b1⟩)
  |(go_at_call 145;refine(mY s g at_ k _ _ _ _ _ (HA.out.drew.later b1)).mono ?_;rintro e w2 ⟨rfl,hat⟩;obtain⟨z0,z1,z2,z3,y0,y1,y2,y3⟩:=aI (hat.other (HZ.out.drew.later b1) hne)))
 all_goals
  go_wp2_with fail;refine bodyPost_ret (v:=.tuple #[.agg #[.int .u8 1,.string ⟨((s.extract at_ k).data.toList.map nY).toArray⟩,.int .i64 0,.int .i64 at_],.int .i64 0]) ?_ rfl ?_
  ·simp[results,Tryz.results104,go_sem,z0,z1,z2,z3]
  ·rw[HE.out];refine⟨rfl,?_⟩;show At s g w (s.size - _) _;rw[HR.out];exact(((((((At.refl hL).later bb).later (Below.refl _ _).drew).later b1).trans hat).far (Nat.le_refl _) hne 0 _).far (Nat.le_refl _) hne 1 _ |>.far (Nat.le_refl _) hne 2 _ |>.far (Nat.le_refl _) hne 3 _)):p:=h
theorem zgY.Kcd(h:p:=by have g1:=decide_eq_false (show¬(32:Int)<(k:Int) - at_ by omega);go_wp2_with fail;have HX1:=hid (show(s.extract at_ k).size<=4294967280 by rw[ByteArray.size_extract];omega);have oq:=hid (show∀c∈(s.extract at_ k).data.toList,cj c=true by rw[HE.out];exact yO _);open zfm in exact Zc5):p:=h
theorem zgZ.Kcd(h:p:=by
 have g1:=decide_eq_true (show(32:Int)<(k:Int) - at_ by omega);go_wp2_with fail;refine bodyPost_ret (v:=.tuple #[.agg #[.int .u8 0,.string ⟨#[]⟩,.int .i64 0,.int .i64 0],.int .i64 2]) ?_ rfl ⟨rfl,?_⟩
 ·simp[results,Tryz.results104,go_sem]
 ·exact(At.refl hL).later ((Below.refl _ _).alloc (Nat.le_refl _) _)):p:=h
theorem Rx (s:ByteArray)(g at_:Nat)(w:World)(hL:av w g 118 (qT s at_))(c:UInt8)(r:List UInt8)(hd:s.data.toList.drop at_=c::r)(hc:bB c=true)(hs:s.size<=4294967280):
  Calls Tryz.prog 104 #[.pointer (some ⟨g,0,none⟩)] w (Gv s g at_ w (dF (c::r))):=by
 have ha:at_<=s.size:=by exact ZeM
 have dx:dF (c::r)=if ((c::r).takeWhile cj).length<=32 then .ok (⟨1,((c::r).takeWhile cj).map nY,0⟩,(c::r).dropWhile cj)else .error 2:=by simp only[dF,if_pos hc]
 rw[dx,<- hd,<- Mm];have BX:=hid hd;clear hd dx;obtain⟨c0,c1⟩:=cJ hL;have hlt:=hL.lt;have hle:=om cj s.data.toList at_ TaK;have CE:=pX cj s.data.toList at_;have HE:=hid (jL cj s at_);have HR:=hid (pk cj s ha);simp at hle;by_cases hl:dR cj s.data.toList at_ - at_<=32
 ·rw[if_pos hl];open zgY in exact ZeX
 ·rw[if_neg hl];open zgZ in exact ZeX
variable{f:FuncId}{c:UInt8}{b:Bool}
theorem td{p:UInt8->Bool}(hf:Gq f p)  (h:p c=b)(W:World):Calls Tryz.prog f #[.int .u8 (c.toNat:Int)] W λ e w'=>e=.returned (.bool b)/\w'=W:=
 (hf.says c W).mono λ e w' ⟨he,hw⟩=>⟨by rw[he,h],hw.symm⟩
def uw:Array Value:= #[.func (.func 103) #[] #[],.func (.func 104) #[] #[],.func (.func 105) #[] #[],.func (.func 106) #[] #[],.func (.func 107) #[] #[],.func (.func 108) #[] #[]]
structure Hm (s:ByteArray) (g at_:Nat) (w wr:World):Prop where
 at_:At s g w at_ wr
 res:av wr w.heap.size 81 #[.int .u8 0,.string ⟨#[]⟩,.int .i64 0,.int .i64 0]
 Wa:av wr (w.heap.size+1) 152 uw
variable{s:ByteArray}{g:Nat}{w wr w':World}
theorem Hm.later{at_:Nat} (h:Hm s g at_ w wr)(hb:Below wr.heap.size wr w'):Hm s g at_ w w':=⟨h.at_.later hb,h.res.later hb,h.Wa.later hb⟩
def ux:Nat->UInt8->Bool
 | 0=>bB
 | 1=>aH
 | _=>λ c=>c==39
theorem zhM.KcA(h:p:=by
 refine bodyPost_ret (v:=.tuple #[.agg #[.int .u8 0,.string ⟨#[]⟩,.int .i64 0,.int .i64 0],.int .i64 x]) ?_ rfl ?_
 ·simp[results,Tryz.results66,go_sem,z0,z1,z2,z3]
 ·exact Zdk):p:=h
theorem zhN.KcA(h:p:=by
 refine bodyPost_ret (v:=.tuple #[.agg #[.int .u8 d.k,.string ⟨d.s.toArray⟩,.int .i64 d.n,.int .i64 at_],.int .i64 0]) ?_ rfl ?_
 ·simp[results,Tryz.results66,go_sem,z0,z1,z2,z3]
 ·exact Zdk):p:=h
theorem SV (B:Nat)(s:ByteArray)(g at_:Nat)(w:World)(hE:Env B w)(hB:B<=g)(hL:av w g 118 (qT s at_))(ha:at_ < s.size)(hs:s.size<=4294967280):
  Calls Tryz.prog 66 #[.pointer (some ⟨g,0,none⟩)] w (Gv s g at_ w (dF (s.data.toList.drop at_))):=by
 have hd:=drop_at (byte_at s at_ ha);obtain⟨c0,c1⟩:=cJ hL;have hlt:=hL.lt;have hne:w.heap.size≠g:=by omega
 rw[hd];have HD:=hid hd;clear hd;generalize s.data.toList.drop (at_+1)=r at*;generalize hR:dF (s[at_]::r)=R at*;have HR:=hid hR;clear hR;go_enter Tryz.func66,Tryz.ntmps66;go_wp2_with fail;have hN:Hm s g at_ w ((w.alloc (.cells #[.int .u8 0,.string ⟨#[]⟩,.int .i64 0,.int .i64 0] 81)).alloc (.cells uw 152)):=by refine⟨(At.refl hL).later (((Below.refl _ _).alloc (Nat.le_refl _) _).alloc Tae _),(av.new w _ _).alloc _,?_⟩;have:=av.new (w.alloc (.cells #[.int .u8 0,.string ⟨#[]⟩,.int .i64 0,.int .i64 0] 81)) 152 uw;simpa using this
 unfold uw at hN;generalize (w.alloc (.cells #[.int .u8 0,.string ⟨#[]⟩,.int .i64 0,.int .i64 0] 81)).alloc (.cells _ 152)=W at*;have HE:=hid hE;have HN0:=hid hN;clear hN hE c0 c1;go_loopw [11] (λ u wr=>∃i:Nat,i<=3/\u=.int .i64 i/\Hm s g at_ w wr/\∀j,j < i->ux j s[at_]=false) (λ u _=>3 - (intOf u).toNat);case atStart=>exact⟨0,by omega,rfl,HN0.out,λ j h=>by omega⟩
 case round=>
  obtain⟨i,hi,rfl,hn,MI⟩:=hrel;have HB:=hid MI;obtain⟨c0,c1⟩:=cJ hn.at_.1;have BW:=hn.at_.1.lt;have HN:=hid hn;clear MI hn;by_cases h3:i < 3
  ·rcases(show i=0\/i=1\/i=2 by omega)with rfl | rfl | rfl
   · -- reading 0
     have d0:=HN.out.Wa.cell 0;have d1:=HN.out.Wa.cell 1;simp[uw] at d0 d1;cases hc:ux 0 s[at_]
     ·have HC:=hid hc;clear hc;go_wp2_with fail;go_quiet ((go_at_call 103;exact Calls.quiet_of_same (td jK HC.out _)));go_wp2_with fail;go_roundw;case rel=>
       refine⟨1,by omega,by go_num,HN.out.later (((Below.refl _ _).alloc (Nat.le_refl _) _).trans ((cu _ nq).mono Tae)),?_⟩;intro j hj;by_cases hjk:j=0
       ·rw[hjk];exact HC.out
       ·exact HB.out j Taa
      case measure=>simp[intOf]
     ·have HC:=hid hc;clear hc;go_wp2_with fail;go_quiet ((go_at_call 103;exact Calls.quiet_of_same (td jK HC.out _)));have xg:=hid (HN.out.later (((Below.refl _ _).alloc (Nat.le_refl _) (.cells #[.func (.func 103) #[] #[],.func (.func 104) #[] #[]] 152)).trans ((cu _ nq).mono Tae)));go_wp2_with fail;refine(Rx s g at_ _ xg.out.at_.1 s[at_] r HD.out HC.out hs).mono ?_;intro e w1 hp;rw[HR.out] at hp;rcases hres:R with x |⟨d,rest⟩
      ·rw[hres] at hp;obtain⟨rfl,hat⟩:=hp;obtain⟨z0,z1,z2,z3,y0,y1,y2,y3⟩:=aI (hat.other xg.out.res hne);have iO:=hid hat;have dY:=hid hres;clear hres hat;go_wp2_with fail;refine bodyPost_ret (v:=.tuple #[.agg #[.int .u8 0,.string ⟨#[]⟩,.int .i64 0,.int .i64 0],.int .i64 x]) ?_ rfl ?_
       ·simp[results,Tryz.results66,go_sem,z0,z1,z2,z3]
       ·rw[dY.out];exact⟨rfl,(((xg.out.at_.trans iO.out).far (Nat.le_refl _) hne 0 _).far (Nat.le_refl _) hne 1 _ |>.far (Nat.le_refl _) hne 2 _ |>.far (Nat.le_refl _) hne 3 _)⟩
      ·rw[hres] at hp;obtain⟨rfl,hat⟩:=hp;obtain⟨z0,z1,z2,z3,y0,y1,y2,y3⟩:=aI (hat.other xg.out.res hne);have iO:=hid hat;have dY:=hid hres;clear hres hat;go_wp2_with fail;refine bodyPost_ret (v:=.tuple #[.agg #[.int .u8 d.k,.string ⟨d.s.toArray⟩,.int .i64 d.n,.int .i64 at_],.int .i64 0]) ?_ rfl ?_
       ·simp[results,Tryz.results66,go_sem,z0,z1,z2,z3]
       ·rw[dY.out];exact⟨rfl,(((xg.out.at_.trans iO.out).far (Nat.le_refl _) hne 0 _).far (Nat.le_refl _) hne 1 _ |>.far (Nat.le_refl _) hne 2 _ |>.far (Nat.le_refl _) hne 3 _)⟩
   · -- reading 1
     have d0:=HN.out.Wa.cell 2;have d1:=HN.out.Wa.cell 3;simp[uw] at d0 d1;cases hc:ux 1 s[at_]
     ·have HC:=hid hc;clear hc;go_wp2_with fail;go_quiet ((go_at_call 105;exact Calls.quiet_of_same (td tZ HC.out _)));go_wp2_with fail;go_roundw;case rel=>
       refine⟨2,by omega,by go_num,HN.out.later (((Below.refl _ _).alloc (Nat.le_refl _) _).trans ((cu _ nq).mono Tae)),?_⟩;intro j hj;by_cases hjk:j=1
       ·rw[hjk];exact HC.out
       ·exact HB.out j Taa
      case measure=>simp[intOf]
     ·have HC:=hid hc;clear hc;go_wp2_with fail;go_quiet ((go_at_call 105;exact Calls.quiet_of_same (td tZ HC.out _)));have xg:=hid (HN.out.later (((Below.refl _ _).alloc (Nat.le_refl _) (.cells #[.func (.func 105) #[] #[],.func (.func 106) #[] #[]] 152)).trans ((cu _ nq).mono Tae)));go_wp2_with fail;refine(JK B s g at_ _ (HE.out.at_ xg.out.at_ hB) hB xg.out.at_.1 s[at_] r HD.out HC.out (HB.out 0 Taa) hs).mono ?_;intro e w1 hp;rw[HR.out] at hp;rcases hres:R with x |⟨d,rest⟩
      ·rw[hres] at hp;obtain⟨rfl,hat⟩:=hp;obtain⟨z0,z1,z2,z3,y0,y1,y2,y3⟩:=aI (hat.other xg.out.res hne);have iO:=hid hat;have dY:=hid hres;clear hres hat;go_wp2_with fail;refine bodyPost_ret (v:=.tuple #[.agg #[.int .u8 0,.string ⟨#[]⟩,.int .i64 0,.int .i64 0],.int .i64 x]) ?_ rfl ?_
       ·simp[results,Tryz.results66,go_sem,z0,z1,z2,z3]
       ·rw[dY.out];exact⟨rfl,(((xg.out.at_.trans iO.out).far (Nat.le_refl _) hne 0 _).far (Nat.le_refl _) hne 1 _ |>.far (Nat.le_refl _) hne 2 _ |>.far (Nat.le_refl _) hne 3 _)⟩
      ·rw[hres] at hp;obtain⟨rfl,hat⟩:=hp;obtain⟨z0,z1,z2,z3,y0,y1,y2,y3⟩:=aI (hat.other xg.out.res hne);have iO:=hid hat;have dY:=hid hres;clear hres hat;go_wp2_with fail;refine bodyPost_ret (v:=.tuple #[.agg #[.int .u8 d.k,.string ⟨d.s.toArray⟩,.int .i64 d.n,.int .i64 at_],.int .i64 0]) ?_ rfl ?_
       ·simp[results,Tryz.results66,go_sem,z0,z1,z2,z3]
       ·rw[dY.out];exact⟨rfl,(((xg.out.at_.trans iO.out).far (Nat.le_refl _) hne 0 _).far (Nat.le_refl _) hne 1 _ |>.far (Nat.le_refl _) hne 2 _ |>.far (Nat.le_refl _) hne 3 _)⟩
   · -- reading 2
     have d0:=HN.out.Wa.cell 4;have d1:=HN.out.Wa.cell 5;simp[uw] at d0 d1;cases hc:ux 2 s[at_]
     ·have HC:=hid hc;clear hc;go_wp2_with fail;go_quiet ((go_at_call 107;exact Calls.quiet_of_same (td zF HC.out _)));go_wp2_with fail;go_roundw;case rel=>
       refine⟨3,by omega,by go_num,HN.out.later (((Below.refl _ _).alloc (Nat.le_refl _) _).trans ((cu _ nq).mono Tae)),?_⟩;intro j hj;by_cases hjk:j=2
       ·rw[hjk];exact HC.out
       ·exact HB.out j Taa
      case measure=>simp[intOf]
     ·have HC:=hid hc;clear hc;go_wp2_with fail;go_quiet ((go_at_call 107;exact Calls.quiet_of_same (td zF HC.out _)));have xg:=hid (HN.out.later (((Below.refl _ _).alloc (Nat.le_refl _) (.cells #[.func (.func 107) #[] #[],.func (.func 108) #[] #[]] 152)).trans ((cu _ nq).mono Tae)));go_wp2_with fail;refine(Rw s g at_ _ xg.out.at_.1 r (by rw[HD.out];exact congrArg (· ::r) (by simpa [ux] using HC.out)) hs).mono ?_;intro e w1 hp;rw[<-(show s[at_]=39 by simpa [ux] using HC.out),HR.out] at hp;rcases hres:R with x |⟨d,rest⟩
      ·rw[hres] at hp;obtain⟨rfl,hat⟩:=hp;obtain⟨z0,z1,z2,z3,y0,y1,y2,y3⟩:=aI (hat.other xg.out.res hne);have iO:=hid hat;have dY:=hid hres;clear hres hat;go_wp2_with fail;refine bodyPost_ret (v:=.tuple #[.agg #[.int .u8 0,.string ⟨#[]⟩,.int .i64 0,.int .i64 0],.int .i64 x]) ?_ rfl ?_
       ·simp[results,Tryz.results66,go_sem,z0,z1,z2,z3]
       ·rw[dY.out];exact⟨rfl,(((xg.out.at_.trans iO.out).far (Nat.le_refl _) hne 0 _).far (Nat.le_refl _) hne 1 _ |>.far (Nat.le_refl _) hne 2 _ |>.far (Nat.le_refl _) hne 3 _)⟩
      ·rw[hres] at hp;obtain⟨rfl,hat⟩:=hp;obtain⟨z0,z1,z2,z3,y0,y1,y2,y3⟩:=aI (hat.other xg.out.res hne);have iO:=hid hat;have dY:=hid hres;clear hres hat;go_wp2_with fail;refine bodyPost_ret (v:=.tuple #[.agg #[.int .u8 d.k,.string ⟨d.s.toArray⟩,.int .i64 d.n,.int .i64 at_],.int .i64 0]) ?_ rfl ?_
       ·simp[results,Tryz.results66,go_sem,z0,z1,z2,z3]
       ·rw[dY.out];exact⟨rfl,(((xg.out.at_.trans iO.out).far (Nat.le_refl _) hne 0 _).far (Nat.le_refl _) hne 1 _ |>.far (Nat.le_refl _) hne 2 _ |>.far (Nat.le_refl _) hne 3 _)⟩
  ·obtain rfl:i=3:=by omega
   go_wp2_with fail;refine(Rz B s g at_ _ (HE.out.at_ HN.out.at_ hB) hB HN.out.at_.1 s[at_] r HD.out (HB.out 0 Taa) (HB.out 1 Taa) (by simpa [ux] using HB.out 2 Taa) hs).mono ?_;intro e w1 hp;rw[HR.out] at hp;have xg:=HN;rcases hres:R with x |⟨d,rest⟩
   ·open zhM in exact Zgr
   ·open zhN in exact Zgr
def LX (n:Nat)(r:List UInt8):Except (Nat×Nat) (List mA):=pW n (n+1) r
def pre (acc:List mA):Except (Nat×Nat) (List mA)->Except (Nat×Nat) (List mA)
 | .error e=> .error e
 | .ok l=> .ok (acc++l)
def Ff (n:Nat):mA:=⟨⟨0,[],0⟩,n⟩
theorem pL (b:Bool)(r:List UInt8):bG false (bG b r)=bG b r:=by
 induction r generalizing b with
 | nil=>cases b <;> rfl
 | cons d r ih=>
   cases b with
   | true=>
     simp only[bG];split
     ·exact ih false
     ·exact ih true
   | false=>
     by_cases h1:cG d=true
     ·simp only[bG,if_pos h1];exact ih false
     ·by_cases h2:d=45/\r.head?=some 45
      ·simp only[bG,if_neg h1,if_pos h2];exact ih true
      ·have:bG false (d::r)=d::r:=by simp only[bG,if_neg h1,if_neg h2]
       rw[this,this]
theorem vJ (n:Nat)(r:List UInt8):LX n (bG false r)=LX n r:=by unfold LX;simp only[pW];have:=pL false r;rw[this]
variable{n:Nat}{r:List UInt8}
theorem SX(h:bG false r=[]):LX n r=.ok [Ff n]:=by unfold LX;simp only[pW,h];rfl
variable{r':List UInt8}{e:Nat}
theorem SY(h:bG false r=c::r')(ho:dF (c::r')=.error e):LX n r=.error (n - (c::r').length,e):=by unfold LX;simp only[pW,h,ho]
variable{rest:List UInt8}
theorem Zu{w:Wd}(hr:r.length<=n)(h:bG false r=c::r')(ho:dF (c::r')=.ok (w,rest)):LX n r=pre [⟨w,n - (c::r').length⟩] (LX n rest):=by
 have h1:=sL ho;have h2:=jy false r;rw[h] at h2;unfold LX;conv=>lhs;unfold pW
 simp only[h,ho];rw[CK n n (n+1) rest Taa Taa];cases pW n (n+1) rest <;> rfl
theorem MJ (a b:List mA)(x:Except (Nat×Nat) (List mA)):pre a (pre b x)=pre (a++b) x:=by cases x <;> simp[pre]
theorem MK (x:Except (Nat×Nat) (List mA)):pre [] x=x:=by cases x <;> rfl
variable{x:Nat}
theorem Hn(h:dF r=.error x):x=2\/x=30:=by
 cases r with
 | nil=>simp[dF] at h;exact .inr h.symm
 | cons c r=>
   simp only[dF] at h;split at h
   ·split at h
    ·cases h
    ·injection h with h;exact .inl h.symm
   ·split at h
    ·exact Zcr
    ·split at h
     ·exact Zcr
     ·exact Zcr
theorem xX{w:Wd}(h:dF r=.ok (w,rest)):rest <:+ r:=by obtain⟨b,hb,_⟩:=zC h;exact⟨b,hb.symm⟩
def jz (t:mA):List Value:=[.int .u8 t.w.k,.string ⟨t.w.s.toArray⟩,.int .i64 t.w.n,.int .i64 t.p]
theorem vK:(Tryz.prog.info? 81).map (λ i=>(i.zero,i.size,i.bytes))=some (some (.agg #[.int .u8 0,.string ⟨#[]⟩,.int .i64 0,.int .i64 0]),4,40):=by kernel_rfl
def Az (w:World)(base:Nat)(v:Value)(l:List mA):Prop:=cz jz 81 4 w base v l
def kz (s:ByteArray)(w:World)(e:Ending)(w':World):Prop:=
 match kP s.data.toList with
 | .error (p,x)=>e=.returned (.tuple #[.slice none 0 0,.int .i64 p,.int .i64 x])/\Below w.heap.size w w'
 | .ok l=>∃v,e=.returned (.tuple #[v,.int .i64 0,.int .i64 0])/\Az w' w.heap.size v l/\Below w.heap.size w w'
theorem Ho(h:4096 < s.size):kP s.data.toList=.error (0,2):=by unfold kP;rw[if_pos Tam]
theorem ML(h:¬4096 < s.size):kP s.data.toList=LX s.size s.data.toList:=by
 unfold kP LX;have:s.data.toList.length=s.size:=by simp
 rw[this,if_neg h]
structure Zv (s:ByteArray) (g:Nat) (w:World) (a:Nat) (v:Value) (acc:List mA) (wr:World):Prop where
 at_:av wr g 118 (qT s a)
 QQ:Below w.heap.size w wr
 own:Az wr w.heap.size v acc
 le:a<=s.size
 len:acc.length<=a
 skip:bG false (s.data.toList.drop a)=s.data.toList.drop a
 more:LX s.size s.data.toList=pre acc (LX s.size (s.data.toList.drop a))
theorem zfE.KbE(h:p:=by exact⟨rfl,fV.out.QQ.trans ((aJ iO.out.2 (Nat.le_of_lt KF) (Nat.le_refl _)).trans ((((Below.refl _ _).alloc (Nat.le_refl _) _).trans ((cu _ _).mono Tae)).mono (Nat.le_of_lt Ta)))⟩):p:=h
theorem zf0.KbO(h:p:=by
 clear hq Zw;refine(Gu s w.heap.size (s.size - rest.length) _ S2.out (Nat.sub_le _ _) hs).mono ?_;rintro e w4 ⟨rfl,acD⟩;have ahM:s.size - rest.length<=dD s (s.size - rest.length):=by unfold dD;rw[HQ.out];have:=jy false rest;omega
 have Hp:=hid acD;clear acD;go_wp2_with fail;go_roundw
 case rel=>
  refine⟨dD s (s.size - rest.length),acc++ [mA.mk d a],v2,rfl,Hp.out.1,B2.out.trans (aJ Hp.out.2 B2.out.size (Nat.le_refl _)),O2.out.grown Hp.out.2 (O2.out.other S2.out Tac),mX _ _,?_,?_,Zcl⟩
  ·rw[length_append,length_singleton];omega
  ·rw[gQ];exact pL _ _
 case measure=>rw[uX fV.out.at_,uX Hp.out.1];have:=mX s (s.size - rest.length);omega):p:=h
theorem zgh.KbU(h:p:=by
 have HG:=hid hG;have hgL:=iO.out.1.later bW;have Tb:Below w.heap.size w ((w2.alloc (.cells (jz ⟨d,a⟩).toArray 81)).alloc (.cells (jz ⟨d,a⟩).toArray 81)):=fV.out.QQ.trans ((aJ iO.out.2 (Nat.le_of_lt KF) (Nat.le_refl _)).trans (bW.mono (Nat.le_of_lt Ta)));have HGL:=hid hgL;have nM:=hid Tb;clear hown hG hgL Tb bW;unfold jz at HG HO HGL nM;go_wp2_with (first
  |(at_builtin
    refine iD rfl (.tmp 38) (.tmp 40) 71 rfl _ 40 Tryz.underlying71 vK rfl Taa ⟨d,a⟩ rfl TaO rfl HO.out (w2.heap.size+1) rfl HG.out Taa Taa nM.out.size ?_
    intro v2 w3 o2 g2
    have b2:=mU HO.out g2 nM.out.size
    have s2:=av.Gf HGL.out HO.out Tac g2
    have O2:=hid o2
    have S2:=hid s2
    have B2:=hid (nM.out.trans b2)
    clear o2 g2 HO HG s2 b2 nM))
 open zf0 in exact ZdX):p:=h
theorem zg2.Kcf(h:p:=by have iO:=hid hat;clear hres hat;obtain⟨d0,d1⟩:=cJ iO.out.1;have Ta:=iO.out.1.lt;go_wp2_with fail;go_quiet (fail);open zfE in exact Zdm):p:=h
theorem MM (s:ByteArray)(w:World)(hE:kg w)(hs:s.size<=4294967280):Calls Tryz.prog 25 #[.string s] w (kz s w):=by
 by_cases SZ:4096 < s.size
 ·unfold kz;rw[Ho SZ];go_enter Tryz.func25,Tryz.ntmps25;go_wp2_with fail;go_ret3;exact ZfK
 ·have rT:=hid (ML SZ);have HLEN:=hid (show s.data.toList.length=s.size by simp);go_enter Tryz.func25,Tryz.ntmps25;go_wp2_with fail;have hE1:=(Env.mk0 hE).later (aa w (.cells (qT s 0) 118));have hb0:=aa w (.cells (qT s 0) 118);have hL:=av.new w 118 (qT s 0);unfold qT at hE1 hb0 hL;refine(Gu s w.heap.size 0 _ hL (Nat.zero_le _) hs).mono ?_;rintro e w1 ⟨rfl,hat⟩
  have hA:Zv s w.heap.size w (dD s 0) (.slice none 0 0) [] w1:=by
   refine⟨hat.1,hb0.trans (aJ hat.2 Tae (Nat.le_refl _)),cz.nil,mX _ _,Nat.zero_le _,?_,?_⟩
   ·rw[gQ];have:=vJ;exact pL _ _
   ·rw[gQ,vJ,MK];rfl
  generalize dD s 0=a0 at*;have uy:=hid hE1;have HA:=hid hA;clear hE1 hb0 hL hat hA;go_wp2_with fail;go_loopw [6] (λ x wr=>∃(a:Nat) (acc:List mA) (u:Value),x=u/\Zv s w.heap.size w a u acc wr) (λ _ wr=>s.size - WL w.heap.size wr);case atStart=>exact⟨a0,[],_,rfl,HA.out⟩
  case round=>
   obtain⟨a,acc,u,hu,hA⟩:=hrel;have hu2:=hu.symm;clear hu;subst hu2;obtain⟨c0,c1⟩:=cJ hA.at_;have KF:=hA.at_.lt;have nZ:=hA.len;have hae:=hA.le;have fV:=hid hA;have hEr:Env w.heap.size wr:=(Env.mk0 hE).below hA.QQ;have HER:=hid hEr;clear hA hEr;by_cases ha:a < s.size
   ·go_wp2_with fail;refine(SV w.heap.size s w.heap.size a _ HER.out (Nat.le_refl _) fV.out.at_ ha hs).mono ?_;intro e w2 hp;have HB:=hid (byte_at s a ha);rcases hres:dF (s.data.toList.drop a)with x |⟨d,rest⟩
    ·rw[hres] at hp;obtain⟨rfl,hat⟩:=hp;open zg2 in exact Ze7
    ·rw[hres] at hp;obtain⟨rfl,hat⟩:=hp;have dY:=hid hres;have iO:=hid hat;clear hres hat;obtain⟨d0,d1⟩:=cJ iO.out.1;have Ta:=iO.out.1.lt;have bW:=((Below.refl w2.heap.size w2).alloc (Nat.le_refl _) (.cells (jz ⟨d,a⟩).toArray 81)).alloc Tae (.cells (jz ⟨d,a⟩).toArray 81);have hown:Az w2 w.heap.size u acc:=fV.out.own.grown iO.out.2 (fV.out.own.other fV.out.at_ Tac);open zgh in exact Zeb
   ·have hnil:s.data.toList.drop a=[]:=drop_eq_nil_of_le Tao;have JO:=hid hnil;clear hnil;have bW:=(Below.refl wr.heap.size wr).alloc (Nat.le_refl _) (.cells (jz (Ff s.size)).toArray 81);have HO:=hid (fV.out.own.later bW);have HG:=hid (av.new wr 81 (jz (Ff s.size)).toArray);have nM:=hid (fV.out.QQ.trans (bW.mono (Nat.le_of_lt KF)));clear bW;unfold jz Ff at HG HO nM;go_wp2_with (first
     |(at_builtin
       refine iD rfl (.tmp 42) (.tmp 46) 71 rfl _ 40 Tryz.underlying71 vK rfl Taa (Ff s.size) rfl TaO rfl HO.out wr.heap.size rfl HG.out Taa Taa nM.out.size ?_
       intro v2 w3 o2 g2
       have b2:=mU HO.out g2 nM.out.size
       have O2:=hid o2
       have B2:=hid (nM.out.trans b2)
       clear o2 g2 HO HG b2 nM))
    exact ZfZ
theorem MN (t:mA):(jz t).length=4:=rfl
variable{base:Nat}{v:Value}{l:List mA}{k:Nat}{t:mA}
theorem Az.at_(h:Az w base v l)  (hk:l[k]?=some t):
  ∃g c,v=.slice (some ⟨g,0,none⟩) l.length c/\g < w.heap.size/\w.cell? ⟨g,k*4,none⟩=some (.int .u8 t.w.k)/\w.cell? ⟨g,k*4+1,none⟩=some (.string ⟨t.w.s.toArray⟩)/\w.cell? ⟨g,k*4+2,none⟩=some (.int .i64 t.w.n)/\w.cell? ⟨g,k*4+3,none⟩=some (.int .i64 t.p):=by obtain⟨g,c,hv,_,hlt,hc⟩:=cz.cell MN h hk;exact⟨g,c,hv,hlt,hc 0 _ rfl,hc 1 _ rfl,hc 2 _ rfl,hc 3 _ rfl⟩
variable{A:Option Addr}
theorem Az.cells{c:Nat} (h:Az w base (.slice A n c) l)(hne:l≠ []):
  ∃g,A=some ⟨g,0,none⟩/\base<=g/\g < w.heap.size/\∀k t,l[k]?=some t->w.cell? ⟨g,k*4,none⟩=some (.int .u8 t.w.k)/\w.cell? ⟨g,k*4+1,none⟩=some (.string ⟨t.w.s.toArray⟩)/\w.cell? ⟨g,k*4+2,none⟩=some (.int .i64 t.w.n)/\w.cell? ⟨g,k*4+3,none⟩=some (.int .i64 t.p):=by
 match l,hne with
 | t0::l,_=>obtain⟨g,c0,hv,hb,hlt,_⟩:=cz.cell MN h (k:=0) (x:=t0) rfl;injection hv with hA _ _;refine⟨g,hA,hb,hlt,λ k t hk=>?_⟩;obtain⟨g',c',hv',_,a⟩:=h.at_ hk;injection hv' with hA' _ _;rw[hA] at hA';injection hA' with hA';injection hA' with hg _ _;subst hg;exact a
theorem EL (w:World)(g:Nat)(c:UInt8)(h:av w g 5 #[.int .u8 (c.toNat:Int)]):(convert 59 9 (.slice (some ⟨g,0,none⟩) 1 1)).run Tryz.prog w=.ok (.string ⟨#[c]⟩) w:=by
 have:=run_convert_bytes_back (P:=Tryz.prog) w 59 9 5 ⟨g,0,none⟩ 1 [c] Tryz.underlying59 Tryz.underlying5 Tryz.underlying9 (λ j hj=>by
  have:j=0:=by simpa using hj
  subst this
  have h0:=h.cell 0
  simpa [Addr.add] using h0)
 exact Zep
theorem Xe(h:wF c=true):(nY c).toNat=c.toNat+32:=by unfold nY;rw[if_pos h];simp[wF,UInt8.le_iff_toNat_le] at h;rw[UInt8.toNat_add];simp;omega
theorem Mt(h:wF c=false):nY c=c:=by unfold nY;rw[h];rfl
theorem nH (l:List UInt8)(c:UInt8):(⟨l.toArray⟩:ByteArray)++⟨#[c]⟩=⟨(l++ [c]).toArray⟩:=by apply ByteArray.ext;simp
theorem Da (s:ByteArray)(w:World)(hs:s.size<=4294967280):Calls Tryz.prog 156 #[.string s] w λ e w'=>e=.returned (.string ⟨(s.data.toList.map nY).toArray⟩)/\Below w.heap.size w w':=by
 have HLEN:=hid (show s.data.toList.length=s.size by simp);go_enter Tryz.func156,Tryz.ntmps156;go_wp2_with fail;go_loopw [3,4] (λ x u wr=>∃(i:Nat) (l:List UInt8),i<=s.size/\u=.int .i64 i/\x=.string ⟨l.toArray⟩/\l.length=i/\s.data.toList.map nY=l++(s.data.toList.drop i).map nY/\Below w.heap.size w wr) (λ _ u _=>s.size - (intOf u).toNat);case atStart=>exact⟨0,[],by omega,rfl,rfl,rfl,rfl,Below.refl _ _⟩
 case round=>
  obtain⟨i,l,hi,rfl,rfl,hl,hm,hb⟩:=hrel;have HM:=hid hm;have hl2:l.length<=s.size:=by omega
  have HL:=hid hl;have HLL:=hid (show l.length<=s.size by omega);clear hm hl;by_cases hlt:i < s.size
  ·have HD:=hid (drop_at (byte_at s i hlt));rcases CR s[i] with ⟨hc,t1,t2⟩|⟨hc,t1,t2⟩|⟨hc,t1⟩
   ·have Sj:=Xe hc;have hn:s[i].toNat<=90:=by have:=of_decide_eq_true t2;omega
    have hr:=EL _ _ (nY s[i]) (av.new wr 5 #[.int .u8 ((nY s[i]).toNat:Int)]);rw[Sj] at hr;rw[show((s[i].toNat+32:Nat):Int)=(s[i].toNat:Int)+32 from rfl] at hr;have Xf:=hid Sj;clear Sj hc;go_wp2_with fail;go_roundw;case rel=>refine⟨i+1,l++ [nY s[i]],by omega,by go_num,by rw[nH],by rw[length_append,HL.out];rfl,?_,hb.trans ((aa wr _).mono hb.size)⟩;rw[HM.out,HD.out];simp
    case measure=>exact Zcj
   ·exact ZbV
   ·exact ZbV
  ·go_wp2_with fail;go_ret;refine⟨?_,hb⟩;rw[HM.out,drop_eq_nil_of_le Tao];simp
variable{a:Nat}
theorem Ac{b:Nat}(h:bG false (s.data.toList.drop a)=bG false (s.data.toList.drop b)):dD s a=dD s b:=CN s h
theorem sV(ha:a<=s.size)(h:bG false (s.data.toList.drop a)=s.data.toList.drop a):dD s a=a:=by unfold dD;rw[h,length_drop];simp;omega
theorem zhW.KcF(h:p:=by rintro⟨_,h⟩;rw[fw.out] at h;exact H46.out Tam):p:=h
theorem zhX.KcF(h:p:=by rintro⟨_,h⟩;rw[drop_eq_nil_of_le Tao] at h;simp at h):p:=h
theorem zhY.KcF(h:p:=by rintro⟨h,_⟩;exact H45.out h):p:=h
theorem Db (s:ByteArray)(at_:Nat)(w:World)(ha:at_<=s.size)(hs:s.size<=4294967280):Calls Tryz.prog 124 #[.string s,.int .i64 at_] w λ e w'=>e=.returned (.int .i64 (dD s at_))/\w=w':=by
 have HLEN:=hid (show s.data.toList.length=s.size by simp);go_enter Tryz.func124,Tryz.ntmps124;go_wp2_with fail;go_loop [1] (λ u=>∃a:Nat,a<=s.size/\u=.int .i64 a/\dD s at_=dD s a) (λ u=>s.size - (intOf u).toNat);case atStart=>exact⟨at_,ha,rfl,rfl⟩
 case round=>
  obtain⟨a,hle,rfl,hsk⟩:=hrel;have HS:=hid hsk;clear hsk;by_cases hlt:a < s.size
  ·have HD:=hid (drop_at (byte_at s a hlt));cases hb:cG s[a]
   ·have Oy:s[a]=45\/s[a]≠45:=by by_cases h:s[a]=45 <;> simp[h]
    rw[sM] at hb;simp only[Bool.or_eq_false_iff] at hb;obtain⟨⟨⟨b1,b2⟩,b3⟩,b4⟩:=hb;have HB:=hid (show cG s[a]=false by rw[sM,b1,b2,b3,b4];rfl);rcases Oy with Oy | Oy
    ·have t1:(((s[a].toNat:Nat):Int)==45)=true:=by rw[Oy];rfl
     have t2:(((s[a].toNat:Nat):Int) != 45)=false:=by rw[Oy];rfl
     have H45:=hid Oy;clear Oy;by_cases ahA:a+1 < s.size
     ·have fw:=hid (drop_at (byte_at s (a+1) ahA));have n1:=decide_eq_false (show¬((s.size:Int)<=(a:Int)+1) by omega);by_cases O1:s[a+1]=45
      ·have u1:(((s[a+1].toNat:Nat):Int)==45)=true:=by rw[O1];rfl
       have u2:(((s[a+1].toNat:Nat):Int) != 45)=false:=by rw[O1];rfl
       have HC:=hid (show bG false (s.data.toList.drop a)=bG true (s.data.toList.drop a) by
        rw[HD.out,fw.out,O1,H45.out]
        simp[bG,cG])
       clear O1;go_wp2_with fail;go_loop [1] (λ u=>∃k:Nat,a<=k/\k<=s.size/\u=.int .i64 k/\bG false (s.data.toList.drop a)=bG true (s.data.toList.drop k)) (λ u=>s.size - (intOf u).toNat);case atStart=>exact⟨a,Nat.le_refl _,hle,rfl,HC.out⟩
       case round=>
        obtain⟨k,yu,hk2,rfl,hsk⟩:=hrel;have HK:=hid hsk;clear hsk;by_cases WI:k < s.size
        ·have HDK:=hid (drop_at (byte_at s k WI));by_cases h10:s[k]=10
         ·have v1:(((s[k].toNat:Nat):Int)==10)=true:=by rw[h10];rfl
          have v2:(((s[k].toNat:Nat):Int) != 10)=false:=by rw[h10];rfl
          have qY:=hid h10;have hne:a≠k:=by intro e;subst e;have:=H45.out.symm.trans h10;exact absurd this Tac
          clear h10;go_wp2_with fail;go_round;case rel=>refine⟨k,hk2,rfl,?_⟩;rw[HS.out];refine Ac ?_;rw[HK.out,HDK.out,qY.out];simp[bG,cG]
          case measure=>exact Zcj
         ·have v1:(((s[k].toNat:Nat):Int)==10)=false:=by rw[beq_eq_false_iff_ne];intro h;exact h10 (UInt8.toNat_inj.1 (by simpa using(by omega:s[k].toNat=10)))
          have v2:(((s[k].toNat:Nat):Int) != 10)=true:=by simpa [bne] using v1
          have qY:=hid h10;clear h10;go_wp2_with fail;go_round;case rel=>refine⟨k+1,by omega,WI,by go_num,?_⟩;rw[HK.out,HDK.out,bG,if_neg qY.out]
          case measure=>exact Zcj
        ·go_wp2_with fail;go_round;case rel=>refine⟨k,hk2,rfl,?_⟩;rw[HS.out];refine Ac ?_;rw[HK.out,drop_eq_nil_of_le Tao];simp[bG]
         case measure=>exact Zcj
      ·have u1:(((s[a+1].toNat:Nat):Int)==45)=false:=by rw[beq_eq_false_iff_ne];intro h;exact O1 (UInt8.toNat_inj.1 (by simpa using(by omega:s[a+1].toNat=45)))
       have u2:(((s[a+1].toNat:Nat):Int) != 45)=true:=by simpa [bne] using u1
       have H46:=hid O1;clear O1;open zhW in exact ZgD
     ·have n1:=decide_eq_true (show((s.size:Int)<=(a:Int)+1) by omega);open zhX in exact ZgD
    ·have t1:(((s[a].toNat:Nat):Int)==45)=false:=by rw[beq_eq_false_iff_ne];intro h;exact Oy (UInt8.toNat_inj.1 (by simpa using(by omega:s[a].toNat=45)))
     have t2:(((s[a].toNat:Nat):Int) != 45)=true:=by simpa [bne] using t1
     have H45:=hid Oy;clear Oy;open zhY in exact ZgD
   ·have HB:=hid hb;rw[sM] at hb;cases b1:(((s[a].toNat:Nat):Int)==32)<;> cases b2:(((s[a].toNat:Nat):Int)==9)<;> cases b3:(((s[a].toNat:Nat):Int)==10)<;> cases b4:(((s[a].toNat:Nat):Int)==13);all_goals try (exfalso;rw[b1,b2,b3,b4] at hb;exact absurd hb Tac)
    all_goals
     clear hb;go_wp2_with fail;go_round;case rel=>refine⟨a+1,hlt,by go_num,?_⟩;rw[HS.out];refine Ac ?_;rw[HD.out,bG,if_pos HB.out]
     case measure=>simp[intOf];omega
  ·go_wp2_with fail;go_ret;refine⟨jC ?_,rfl⟩;rw[HS.out,sV hle];rw[drop_eq_nil_of_le Tao];rfl
theorem eW:Eg 92 bB:=by intro c W;rw[zE];have h1:=c.toNat_lt;generalize c.toNat=n at*;go_enter Tryz.func92,Tryz.ntmps92;exact ZaW
theorem fU:Eg 93 aH:=by intro c W;rw[CL];have h1:=c.toNat_lt;generalize c.toNat=n at*;go_enter Tryz.func93,Tryz.ntmps93;exact ZaW
theorem Cj (w:World):Calls Tryz.prog 141 #[] w λ e w'=>e=.returned (.slice (some ⟨w.heap.size,0,none⟩) 27 27)/\w'=w.alloc (.cells (jr.map λ l=>Value.string ⟨l.toArray⟩).toArray 9):=by go_enter Tryz.func141,Tryz.ntmps141;go_wp2_with fail;go_ret;exact⟨rfl,rfl⟩
variable{i:Nat}
theorem Si{x:List UInt8}(hx:jr[i]?=some x):jr.drop i=x::jr.drop (i+1):=by
 have hlt:i < jr.length:=by
  rcases Nat.lt_or_ge i jr.length with h | h
  ·exact h
  ·rw[getElem?_eq_none h] at hx;cases hx
 rw[drop_eq_getElem_cons hlt];rw[getElem?_eq_getElem hlt] at hx;injection hx with hx;rw[hx]
theorem Ox (l:List UInt8):(⟨l.toArray⟩:ByteArray).toList=l:=by rw[ByteArray.toList_eq]
theorem Ck (s:ByteArray)(w:World):Calls Tryz.prog 91 #[.string s] w (GC (jT s.data.toList) w):=by
 go_enter Tryz.func91,Tryz.ntmps91;go_wp2_with fail;refine(Cj w).mono ?_;rintro e w1 ⟨rfl,rfl⟩;have HB:=hid (av.new w 9 (jr.map λ l=>Value.string ⟨l.toArray⟩).toArray);have b1:=aa w (.cells (jr.map λ l=>Value.string ⟨l.toArray⟩).toArray 9);generalize w.alloc (.cells (jr.map λ l=>Value.string ⟨l.toArray⟩).toArray 9)=W at*;go_wp2_with fail;go_loop [4] (λ u=>∃i:Nat,i<=27/\u=.int .i64 i/\jT s.data.toList=(jr.drop i).contains s.data.toList) (λ u=>27 - (intOf u).toNat);case atStart=>exact⟨0,by omega,rfl,rfl⟩
 case round=>
  obtain⟨i,hi,rfl,VZ⟩:=hrel;have qU:=hid VZ;clear VZ;by_cases hlt:i < 27
  ·obtain⟨x,hx,_,_⟩:=RB hlt;have hcell:=HB.out.cell i;have hx2:(jr.map λ l=>Value.string ⟨l.toArray⟩).toArray[i]?=some (.string ⟨x.toArray⟩):=by simp[hx]
   rw[hx2] at hcell;have NV:=hid (Si hx);have e0:=Ox x;have HE0:=hid e0;clear hx hx2 e0;by_cases he:s.data.toList=x
   ·have HE:=hid he;have t2:(x==s.toList)=true:=by rw[ByteArray.toList_eq,he];simp
    clear he;go_wp2_with fail;go_ret;refine⟨cP ?_,b1⟩;rw[qU.out,NV.out,HE.out];simp
   ·have HE:=hid he;have t2:(x==s.toList)=false:=by rw[ByteArray.toList_eq,beq_eq_false_iff_ne];exact λ e=>he e.symm
    clear he;go_wp2_with fail;go_round
    case rel=>
     refine⟨i+1,by omega,by go_num,?_⟩;rw[qU.out,NV.out,contains_cons];have:(s.data.toList==x)=false:=by simpa using HE.out
     rw[this];rfl
    case measure=>exact Zcj
  ·obtain rfl:i=27:=by omega
   go_wp2_with fail;go_ret;refine⟨cP ?_,b1⟩;rw[qU.out,drop_eq_nil_of_le (Nat.le_of_eq yP)];rfl
def yB (s:ByteArray)(at_:Nat)(w:World)(r:Except Nat (Wd×List UInt8))(e:Ending)(w':World):Prop:=
 match r with
 | .ok (d,rest)=>e=.returned (.tuple #[.agg #[.int .u8 d.k,.string ⟨d.s.toArray⟩,.int .i64 d.n,.int .i64 at_],.int .i64 (s.size - rest.length:Nat),.int .i64 0])/\Below w.heap.size w w'
 | .error x=>e=.returned (.tuple #[.agg #[.int .u8 0,.string ⟨#[]⟩,.int .i64 0,.int .i64 0],.int .i64 0,.int .i64 x])/\Below w.heap.size w w'
variable{B q:Nat}
theorem vI(h:Below B w w') (hq:B<=q)(a b c d:Value):Below B w ((((w'.setCell ⟨q,0,none⟩ a).setCell ⟨q,1,none⟩ b).setCell ⟨q,2,none⟩ c).setCell ⟨q,3,none⟩ d):=
 (((h.setCell (p:=⟨q,0,none⟩) hq a).setCell (p:=⟨q,1,none⟩) hq b).setCell (p:=⟨q,2,none⟩) hq c).setCell (p:=⟨q,3,none⟩) hq d
theorem zgj.KbV(h:p:=by
 have hsz:(w.alloc (.cells #[.int .u8 0,.string ⟨#[]⟩,.int .i64 0,.int .i64 0] 81)).heap.size=w.heap.size+1:=by simp
 generalize w.alloc (.cells #[.int .u8 0,.string ⟨#[]⟩,.int .i64 0,.int .i64 0] 81)=W at*;have dy:=hid hsz;clear hsz;go_loop [8] (λ u=>∃k:Nat,at_<=k/\k<=s.size/\u=.int .i64 k/\dR cj s.data.toList at_=dR cj s.data.toList k) (λ u=>s.size - (intOf u).toNat);case atStart=>exact⟨at_,Nat.le_refl _,by omega,rfl,rfl⟩
 case round=>
  obtain⟨k,yu,hk2,rfl,hf⟩:=hrel;have HF:=hid hf;clear hf;by_cases hlt:k < s.size
  ·have HB:=hid (byte_at s k hlt);cases hl:bB s[k]
   ·have HL:=hid hl;cases hd:aH s[k]
    ·have HD:=hid hd;have xJ:=hid (show dR cj s.data.toList at_=k by rw[HF.out];exact yN HB.out (by simp[cj,hl,hd]));clear hl hd;by_cases Zn:k - at_<=32
     ·have n1:=decide_eq_false (show¬(32:Int)<(k:Int) - at_ by omega);go_wp2_with (first
       |(go_at_call 92;refine(eW s[k] _).mono ?_;rintro e w' ⟨rfl,rfl⟩;rw[HL.out])
       |(go_at_call 93;refine(fU s[k] _).mono ?_;rintro e w' ⟨rfl,rfl⟩;rw[HD.out]))
      exact Za3
     ·have n1:=decide_eq_true (show(32:Int)<(k:Int) - at_ by omega);obtain⟨z0,z1,z2,z3,y0,y1,y2,y3⟩:=aI HZ.out;go_wp2_with (first
       |(go_at_call 92;refine(eW s[k] _).mono ?_;rintro e w' ⟨rfl,rfl⟩;rw[HL.out])
       |(go_at_call 93;refine(fU s[k] _).mono ?_;rintro e w' ⟨rfl,rfl⟩;rw[HD.out]))
      exact ZcM
    ·have HD:=hid hd;have xJ:=hid (show dR cj s.data.toList at_=dR cj s.data.toList (k+1) by rw[HF.out];exact pj HB.out (by simp[cj,hl,hd]));clear hl hd;go_wp2_with (first
      |(go_at_call 92;refine(eW s[k] _).mono ?_;rintro e w' ⟨rfl,rfl⟩;rw[HL.out])
      |(go_at_call 93;refine(fU s[k] _).mono ?_;rintro e w' ⟨rfl,rfl⟩;rw[HD.out]))
     exact Zd2
   ·have HL:=hid hl;have xJ:=hid (show dR cj s.data.toList at_=dR cj s.data.toList (k+1) by rw[HF.out];exact pj HB.out (by simp[cj,hl]));clear hl;go_wp2_with (go_at_call 92;refine(eW s[k] _).mono ?_;rintro e w' ⟨rfl,rfl⟩;rw[HL.out]);exact Zd2
  ·have xJ:=hid (show dR cj s.data.toList at_=k by rw[HF.out];exact uV Tao);by_cases Zn:k - at_<=32
   ·have n1:=decide_eq_false (show¬(32:Int)<(k:Int) - at_ by omega);go_wp2_with fail;exact Za3
   ·have n1:=decide_eq_true (show(32:Int)<(k:Int) - at_ by omega);obtain⟨z0,z1,z2,z3,y0,y1,y2,y3⟩:=aI HZ.out;go_wp2_with fail;exact ZcM):p:=h
theorem SR (s:ByteArray)(at_:Nat)(w:World)(ha:at_ < s.size)(hc:bB s[at_]=true)(hs:s.size<=4294967280):
  Calls Tryz.prog 125 #[.string s,.int .i64 at_] w (yB s at_ w (dF (s.data.toList.drop at_))):=by
 have hd:=drop_at (byte_at s at_ ha);have dx:dF (s.data.toList.drop at_)=if dR cj s.data.toList at_ - at_<=32 then .ok (⟨1,((s.data.toList.drop at_).takeWhile cj).map nY,0⟩,(s.data.toList.drop at_).dropWhile cj)else .error 2:=by rw[Mm,hd];simp only[dF,if_pos hc]
 generalize dF (s.data.toList.drop at_)=R at*;have kh:=hid dx;have HC:=hid hc;have HLEN:=hid (show s.data.toList.length=s.size by simp);clear dx hd hc;go_enter Tryz.func125,Tryz.ntmps125;go_wp2_with (go_at_call 92;refine(eW s[at_] _).mono ?_;rintro e w' ⟨rfl,rfl⟩;rw[HC.out]);open zgj in exact Zec
theorem xW (s:ByteArray)(k:Nat)(hk:k < s.size):s.extract k (k+1)=⟨#[s[k]]⟩:=by
 have h:=mH s k (k+1)
 have h2:(s.data.toList.take (k+1)).drop k=[s[k]]:=by
  rw[drop_take,drop_at (byte_at s k hk)];have:k+1 - k=1:=by omega
  rw[this];rfl
 rw[h2] at h;apply Go.WideShapes.bytes_inj;rw[h]
theorem mO (s:ByteArray)(a b:Nat)(x y:Int)(hx:x=a)(hy:y=b)(hab:a<=b)(hb:b<=s.size)(w:World):
  (Instr.slice 9 (.string s) (some (.int .i64 x)) (some (.int .i64 y)) none).run Tryz.prog w=.ok (.string (s.extract a b)) w:=by subst hx hy;have:=run_slice_string (P:=Tryz.prog) (w:=w) 9 s .i64 .i64 a b Tryz.underlying9 Taa Taa Taa;exact Zep
theorem zfa.Kbq(h:p:=by clear zM;exact ZbG):p:=h
theorem zh0.KcG(h:p:=by
 have ja:=mO s k (k+1) (k:Int) ((k:Int)+1) rfl Taa Taa Taa W;rw[xW s k hks] at ja;clear hq;go_wp2_with fail;go_round;case rel=>refine⟨k+1,acc++ [s[k]],by omega,by simp;omega,by go_num,by rw[nH],?_⟩;rw[HM.out,drop_at HB.out,ud HQ.out]
 case measure=>exact Zcj):p:=h
theorem zgl.KbV(h:p:=by
 generalize w.alloc (.cells #[.int .u8 0,.string ⟨#[]⟩,.int .i64 0,.int .i64 0] 81)=W at*;obtain⟨z0,z1,z2,z3,y0,y1,y2,y3⟩:=aI HZ.out;clear t0;go_loop [8,11] (λ u x=>∃(k:Nat) (acc:List UInt8),k<=s.size/\acc.length<=k/\u=.int .i64 k/\x=.string ⟨acc.toArray⟩/\more [] (fJ (s.data.toList.drop (at_+1)))=more acc (fJ (s.data.toList.drop k))) (λ u _=>s.size - (intOf u).toNat);case atStart=>exact⟨at_+1,[],ha,by simp,by go_num,rfl,rfl⟩
 case round=>
  obtain⟨k,acc,hk,nZ,rfl,rfl,hm⟩:=hrel;have HM:=hid hm;clear hm;by_cases hks:k < s.size
  ·have HB:=hid (byte_at s k hks);by_cases hq:s[k]=39
   ·have HQ:=hid hq;have t1:(((s[k].toNat:Nat):Int)==39)=true:=by rw[hq];rfl
    clear hq;by_cases yu:k+1 < s.size
    ·have mn:=hid (byte_at s (k+1) yu);have n2:=decide_eq_false (show¬((s.size:Int)<=(k:Int)+1) by omega);by_cases zM:s[k+1]=39
     ·have oL:=hid zM;have t2:(((s[k+1].toNat:Nat):Int)==39)=true:=by rw[zM];rfl
      have t3:(((s[k+1].toNat:Nat):Int) != 39)=false:=by rw[zM];rfl
      have hx:=xW s (k+1) yu;have ja:=mO s (k+1) (k+1+1) ((k:Int)+1) ((k:Int)+1+1) Taa Taa Taa Taa W;rw[hx,zM] at ja;clear zM hx;go_wp2_with fail;go_round;case rel=>refine⟨k+2,acc++ [39],by omega,by simp;omega,by go_num,by rw[nH],?_⟩;rw[HM.out,drop_at HB.out,drop_at mn.out,HQ.out,oL.out,zL]
      case measure=>exact Zcj
     ·open zfa in exact ZcG
    ·have n2:=decide_eq_true (show((s.size:Int)<=(k:Int)+1) by omega);have JN:=hid (show(s.data.toList.drop (k+1)).head?≠some 39 by rw[drop_eq_nil_of_le Tao];simp);exact ZbG
   ·open zh0 in exact ZgH
  ·have JO:=hid (show s.data.toList.drop k=[] by rw[drop_eq_nil_of_le Tao]);go_wp2_with fail;refine bodyPost_ret (v:=.tuple #[.agg #[.int .u8 0,.string ⟨#[]⟩,.int .i64 0,.int .i64 0],.int .i64 0,.int .i64 30]) Zb2 rfl ?_
   ·rw[kh.out,HM.out,JO.out];exact⟨rfl,vI bb (Nat.le_refl _) _ _ _ _⟩):p:=h
theorem zfT.KbL(h:p:=by open zgl in exact Zec):p:=h
theorem SS (s:ByteArray)(at_:Nat)(w:World)(ha:at_ < s.size)(hl:bB s[at_]=false)(P9:aH s[at_]=false)(hq:s[at_]=39)(hs:s.size<=4294967280):
  Calls Tryz.prog 125 #[.string s,.int .i64 at_] w (yB s at_ w (dF (s.data.toList.drop at_))):=by
 have hd:=drop_at (byte_at s at_ ha)
 have dx:dF (s.data.toList.drop at_)=match more [] (fJ (s.data.toList.drop (at_+1)))with
   | some (t,rest)=> .ok (⟨3,t,0⟩,rest)
   | none=> .error 30:=by
  rw[Gz,hd];simp only[dF,hl,P9,if_pos hq];rfl
 generalize dF (s.data.toList.drop at_)=R at*;have t0:(((s[at_].toNat:Nat):Int)==39)=true:=by rw[hq];rfl
 open zfT in exact ZdT
end Go.Proofs.YtehhdlgjfdnafaaGreatDoor
