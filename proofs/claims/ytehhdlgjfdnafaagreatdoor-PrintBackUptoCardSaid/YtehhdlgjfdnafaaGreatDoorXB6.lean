/- Parts of the proof. -/
import Derived.Test.YtehhdlgjfdnafaaGreatDoorXB5
namespace Go.Proofs.YtehhdlgjfdnafaaGreatDoor
variable{p:Prop}
set_option maxHeartbeats 90000000
set_option maxRecDepth 100000
open Go.Lib (hid)
open Go.ChangeShapes Go.WideShapes Go.ChangeAt Go.RowKit Go.Shelf List
set_option linter.unusedVariables false
set_option linter.unusedSimpArgs false
theorem zfX.KbG(h:p:=by
 go_region_with (first
  |(go_at_call 146;refine(Hd HX1.out qW.out _).mono ?_;rintro e w1 ⟨rfl,b1⟩)
  |(go_at_call 145;refine(nN s g at_ k _ _ _ _ _ (HA.out.drew.later b1)).mono ?_;rintro e w2 ⟨rfl,hat⟩;obtain⟨z0,z1,z2,z3,y0,y1,y2,y3⟩:=aN (hat.other (HZ.out.drew.later b1) hne)))
 all_goals
  go_wp2_with fail;refine bodyPost_ret (v:=.tuple #[.agg #[.int .u8 1,.string ⟨((s.extract at_ k).data.toList.map oU).toArray⟩,.int .i64 0,.int .i64 at_],.int .i64 0]) ?_ rfl ?_
  ·simp[results,Tryz.results104,go_sem,z0,z1,z2,z3]
  ·rw[HE.out];refine⟨rfl,?_⟩;show At s g w (s.size - _) _;rw[HR.out];exact(((((((At.refl hL).later bb).later (Below.refl _ _).drew).later b1).trans hat).far (Nat.le_refl _) hne 0 _).far (Nat.le_refl _) hne 1 _ |>.far (Nat.le_refl _) hne 2 _ |>.far (Nat.le_refl _) hne 3 _)):p:=h
theorem zhD.Kco(h:p:=by have g1:=decide_eq_false (show¬(32:Int)<(k:Int) - at_ by omega);go_wp2_with fail;have HX1:=hid (show(s.extract at_ k).size<=4294967280 by rw[ByteArray.size_extract];omega);have qW:=hid (show∀c∈(s.extract at_ k).data.toList,cx c=true by rw[HE.out];exact Be _);open zfX in exact Zdj):p:=h
theorem zhE.Kco(h:p:=by
 have g1:=decide_eq_true (show(32:Int)<(k:Int) - at_ by omega);go_wp2_with fail;refine bodyPost_ret (v:=.tuple #[.agg #[.int .u8 0,.string ⟨#[]⟩,.int .i64 0,.int .i64 0],.int .i64 2]) ?_ rfl ⟨rfl,?_⟩
 ·simp[results,Tryz.results104,go_sem]
 ·exact(At.refl hL).later ((Below.refl _ _).alloc (Nat.le_refl _) _)):p:=h
theorem WG (s:ByteArray)(g at_:Nat)(w:World)(hL:av w g 118 (se s at_))(c:UInt8)(r:List UInt8)(hd:s.data.toList.drop at_=c::r)(hc:bJ c=true)(hs:s.size<=4294967280):
  Calls Tryz.prog 104 #[.pointer (some ⟨g,0,none⟩)] w (Kc s g at_ w (dH (c::r))):=by
 have ha:at_<=s.size:=by exact Ze1
 have dE:dH (c::r)=if ((c::r).takeWhile cx).length<=32 then .ok (⟨1,((c::r).takeWhile cx).map oU,0⟩,(c::r).dropWhile cx)else .error 2:=by simp only[dH,if_pos hc]
 rw[dE,<- hd,<- Qe];have Er:=hid hd;clear hd dE;obtain⟨c0,c1⟩:=cQ hL;have hlt:=hL.lt;have hle:=oZ cx s.data.toList at_ TaJ;have EX:=rh cx s.data.toList at_;have HE:=hid (kC cx s at_);have HR:=hid (pT cx s ha);simp at hle;by_cases hl:ee cx s.data.toList at_ - at_<=32
 ·rw[if_pos hl];open zhD in exact Zfd
 ·rw[if_neg hl];open zhE in exact Zfd
variable{f:FuncId}{c:UInt8}{b:Bool}
theorem uI{p:UInt8->Bool}(hf:JX f p)  (h:p c=b)(W:World):Calls Tryz.prog f #[.int .u8 (c.toNat:Int)] W λ e w'=>e=.returned (.bool b)/\w'=W:=
 (hf.says c W).mono λ e w' ⟨he,hw⟩=>⟨by rw[he,h],hw.symm⟩
def vS:Array Value:= #[.func (.func 103) #[] #[],.func (.func 104) #[] #[],.func (.func 105) #[] #[],.func (.func 106) #[] #[],.func (.func 107) #[] #[],.func (.func 108) #[] #[]]
structure KC (s:ByteArray) (g at_:Nat) (w wr:World):Prop where
 at_:At s g w at_ wr
 res:av wr w.heap.size 81 #[.int .u8 0,.string ⟨#[]⟩,.int .i64 0,.int .i64 0]
 N7:av wr (w.heap.size+1) 152 vS
variable{s:ByteArray}{g:Nat}{w wr w':World}
theorem KC.later{at_:Nat} (h:KC s g at_ w wr)(hb:Below wr.heap.size wr w'):KC s g at_ w w':=⟨h.at_.later hb,h.res.later hb,h.N7.later hb⟩
def vT:Nat->UInt8->Bool
 | 0=>bJ
 | 1=>aL
 | _=>λ c=>c==39
theorem ziw.KcN(h:p:=by
 refine bodyPost_ret (v:=.tuple #[.agg #[.int .u8 0,.string ⟨#[]⟩,.int .i64 0,.int .i64 0],.int .i64 x]) ?_ rfl ?_
 ·simp[results,Tryz.results66,go_sem,z0,z1,z2,z3]
 ·exact Zdy):p:=h
theorem zix.KcN(h:p:=by
 refine bodyPost_ret (v:=.tuple #[.agg #[.int .u8 d.k,.string ⟨d.s.toArray⟩,.int .i64 d.n,.int .i64 at_],.int .i64 0]) ?_ rfl ?_
 ·simp[results,Tryz.results66,go_sem,z0,z1,z2,z3]
 ·exact Zdy):p:=h
theorem XB (B:Nat)(s:ByteArray)(g at_:Nat)(w:World)(hE:Env B w)(hB:B<=g)(hL:av w g 118 (se s at_))(ha:at_ < s.size)(hs:s.size<=4294967280):
  Calls Tryz.prog 66 #[.pointer (some ⟨g,0,none⟩)] w (Kc s g at_ w (dH (s.data.toList.drop at_))):=by
 have hd:=drop_at (byte_at s at_ ha);obtain⟨c0,c1⟩:=cQ hL;have hlt:=hL.lt;have hne:w.heap.size≠g:=by omega
 rw[hd];have HD:=hid hd;clear hd;generalize s.data.toList.drop (at_+1)=r at*;generalize hR:dH (s[at_]::r)=R at*;have HR:=hid hR;clear hR;go_enter Tryz.func66,Tryz.ntmps66;go_wp2_with fail;have hN:KC s g at_ w ((w.alloc (.cells #[.int .u8 0,.string ⟨#[]⟩,.int .i64 0,.int .i64 0] 81)).alloc (.cells vS 152)):=by refine⟨(At.refl hL).later (((Below.refl _ _).alloc (Nat.le_refl _) _).alloc Tae _),(av.new w _ _).alloc _,?_⟩;have:=av.new (w.alloc (.cells #[.int .u8 0,.string ⟨#[]⟩,.int .i64 0,.int .i64 0] 81)) 152 vS;simpa using this
 unfold vS at hN;generalize (w.alloc (.cells #[.int .u8 0,.string ⟨#[]⟩,.int .i64 0,.int .i64 0] 81)).alloc (.cells _ 152)=W at*;have HE:=hid hE;have HN0:=hid hN;clear hN hE c0 c1;go_loopw [11] (λ u wr=>∃i:Nat,i<=3/\u=.int .i64 i/\KC s g at_ w wr/\∀j,j < i->vT j s[at_]=false) (λ u _=>3 - (intOf u).toNat);case atStart=>exact⟨0,by omega,rfl,HN0.out,λ j h=>by omega⟩
 case round=>
  obtain⟨i,hi,rfl,hn,Qp⟩:=hrel;have HB:=hid Qp;obtain⟨c0,c1⟩:=cQ hn.at_.1;have Ep:=hn.at_.1.lt;have HN:=hid hn;clear Qp hn;by_cases h3:i < 3
  ·rcases(show i=0\/i=1\/i=2 by omega)with rfl | rfl | rfl
   · -- reading 0
     have d0:=HN.out.N7.cell 0;have d1:=HN.out.N7.cell 1;simp[vS] at d0 d1;cases hc:vT 0 s[at_]
     ·have HC:=hid hc;clear hc;go_wp2_with fail;go_quiet ((go_at_call 103;exact Calls.quiet_of_same (uI kB HC.out _)));go_wp2_with fail;go_roundw;case rel=>
       refine⟨1,by omega,by go_num,HN.out.later (((Below.refl _ _).alloc (Nat.le_refl _) _).trans ((cE _ nq).mono Tae)),?_⟩;intro j hj;by_cases hjk:j=0
       ·rw[hjk];exact HC.out
       ·exact HB.out j Taa
      case measure=>simp[intOf]
     ·have HC:=hid hc;clear hc;go_wp2_with fail;go_quiet ((go_at_call 103;exact Calls.quiet_of_same (uI kB HC.out _)));have AJ:=hid (HN.out.later (((Below.refl _ _).alloc (Nat.le_refl _) (.cells #[.func (.func 103) #[] #[],.func (.func 104) #[] #[]] 152)).trans ((cE _ nq).mono Tae)));go_wp2_with fail;refine(WG s g at_ _ AJ.out.at_.1 s[at_] r HD.out HC.out hs).mono ?_;intro e w1 hp;rw[HR.out] at hp;rcases hres:R with x |⟨d,rest⟩
      ·rw[hres] at hp;obtain⟨rfl,hat⟩:=hp;obtain⟨z0,z1,z2,z3,y0,y1,y2,y3⟩:=aN (hat.other AJ.out.res hne);have jg:=hid hat;have et:=hid hres;clear hres hat;go_wp2_with fail;refine bodyPost_ret (v:=.tuple #[.agg #[.int .u8 0,.string ⟨#[]⟩,.int .i64 0,.int .i64 0],.int .i64 x]) ?_ rfl ?_
       ·simp[results,Tryz.results66,go_sem,z0,z1,z2,z3]
       ·rw[et.out];exact⟨rfl,(((AJ.out.at_.trans jg.out).far (Nat.le_refl _) hne 0 _).far (Nat.le_refl _) hne 1 _ |>.far (Nat.le_refl _) hne 2 _ |>.far (Nat.le_refl _) hne 3 _)⟩
      ·rw[hres] at hp;obtain⟨rfl,hat⟩:=hp;obtain⟨z0,z1,z2,z3,y0,y1,y2,y3⟩:=aN (hat.other AJ.out.res hne);have jg:=hid hat;have et:=hid hres;clear hres hat;go_wp2_with fail;refine bodyPost_ret (v:=.tuple #[.agg #[.int .u8 d.k,.string ⟨d.s.toArray⟩,.int .i64 d.n,.int .i64 at_],.int .i64 0]) ?_ rfl ?_
       ·simp[results,Tryz.results66,go_sem,z0,z1,z2,z3]
       ·rw[et.out];exact⟨rfl,(((AJ.out.at_.trans jg.out).far (Nat.le_refl _) hne 0 _).far (Nat.le_refl _) hne 1 _ |>.far (Nat.le_refl _) hne 2 _ |>.far (Nat.le_refl _) hne 3 _)⟩
   · -- reading 1
     have d0:=HN.out.N7.cell 2;have d1:=HN.out.N7.cell 3;simp[vS] at d0 d1;cases hc:vT 1 s[at_]
     ·have HC:=hid hc;clear hc;go_wp2_with fail;go_quiet ((go_at_call 105;exact Calls.quiet_of_same (uI vF HC.out _)));go_wp2_with fail;go_roundw;case rel=>
       refine⟨2,by omega,by go_num,HN.out.later (((Below.refl _ _).alloc (Nat.le_refl _) _).trans ((cE _ nq).mono Tae)),?_⟩;intro j hj;by_cases hjk:j=1
       ·rw[hjk];exact HC.out
       ·exact HB.out j Taa
      case measure=>simp[intOf]
     ·have HC:=hid hc;clear hc;go_wp2_with fail;go_quiet ((go_at_call 105;exact Calls.quiet_of_same (uI vF HC.out _)));have AJ:=hid (HN.out.later (((Below.refl _ _).alloc (Nat.le_refl _) (.cells #[.func (.func 105) #[] #[],.func (.func 106) #[] #[]] 152)).trans ((cE _ nq).mono Tae)));go_wp2_with fail;refine(Nd B s g at_ _ (HE.out.at_ AJ.out.at_ hB) hB AJ.out.at_.1 s[at_] r HD.out HC.out (HB.out 0 Taa) hs).mono ?_;intro e w1 hp;rw[HR.out] at hp;rcases hres:R with x |⟨d,rest⟩
      ·rw[hres] at hp;obtain⟨rfl,hat⟩:=hp;obtain⟨z0,z1,z2,z3,y0,y1,y2,y3⟩:=aN (hat.other AJ.out.res hne);have jg:=hid hat;have et:=hid hres;clear hres hat;go_wp2_with fail;refine bodyPost_ret (v:=.tuple #[.agg #[.int .u8 0,.string ⟨#[]⟩,.int .i64 0,.int .i64 0],.int .i64 x]) ?_ rfl ?_
       ·simp[results,Tryz.results66,go_sem,z0,z1,z2,z3]
       ·rw[et.out];exact⟨rfl,(((AJ.out.at_.trans jg.out).far (Nat.le_refl _) hne 0 _).far (Nat.le_refl _) hne 1 _ |>.far (Nat.le_refl _) hne 2 _ |>.far (Nat.le_refl _) hne 3 _)⟩
      ·rw[hres] at hp;obtain⟨rfl,hat⟩:=hp;obtain⟨z0,z1,z2,z3,y0,y1,y2,y3⟩:=aN (hat.other AJ.out.res hne);have jg:=hid hat;have et:=hid hres;clear hres hat;go_wp2_with fail;refine bodyPost_ret (v:=.tuple #[.agg #[.int .u8 d.k,.string ⟨d.s.toArray⟩,.int .i64 d.n,.int .i64 at_],.int .i64 0]) ?_ rfl ?_
       ·simp[results,Tryz.results66,go_sem,z0,z1,z2,z3]
       ·rw[et.out];exact⟨rfl,(((AJ.out.at_.trans jg.out).far (Nat.le_refl _) hne 0 _).far (Nat.le_refl _) hne 1 _ |>.far (Nat.le_refl _) hne 2 _ |>.far (Nat.le_refl _) hne 3 _)⟩
   · -- reading 2
     have d0:=HN.out.N7.cell 4;have d1:=HN.out.N7.cell 5;simp[vS] at d0 d1;cases hc:vT 2 s[at_]
     ·have HC:=hid hc;clear hc;go_wp2_with fail;go_quiet ((go_at_call 107;exact Calls.quiet_of_same (uI BP HC.out _)));go_wp2_with fail;go_roundw;case rel=>
       refine⟨3,by omega,by go_num,HN.out.later (((Below.refl _ _).alloc (Nat.le_refl _) _).trans ((cE _ nq).mono Tae)),?_⟩;intro j hj;by_cases hjk:j=2
       ·rw[hjk];exact HC.out
       ·exact HB.out j Taa
      case measure=>simp[intOf]
     ·have HC:=hid hc;clear hc;go_wp2_with fail;go_quiet ((go_at_call 107;exact Calls.quiet_of_same (uI BP HC.out _)));have AJ:=hid (HN.out.later (((Below.refl _ _).alloc (Nat.le_refl _) (.cells #[.func (.func 107) #[] #[],.func (.func 108) #[] #[]] 152)).trans ((cE _ nq).mono Tae)));go_wp2_with fail;refine(WE s g at_ _ AJ.out.at_.1 r (by rw[HD.out];exact congrArg (· ::r) (by simpa [vT] using HC.out)) hs).mono ?_;intro e w1 hp;rw[<-(show s[at_]=39 by simpa [vT] using HC.out),HR.out] at hp;rcases hres:R with x |⟨d,rest⟩
      ·rw[hres] at hp;obtain⟨rfl,hat⟩:=hp;obtain⟨z0,z1,z2,z3,y0,y1,y2,y3⟩:=aN (hat.other AJ.out.res hne);have jg:=hid hat;have et:=hid hres;clear hres hat;go_wp2_with fail;refine bodyPost_ret (v:=.tuple #[.agg #[.int .u8 0,.string ⟨#[]⟩,.int .i64 0,.int .i64 0],.int .i64 x]) ?_ rfl ?_
       ·simp[results,Tryz.results66,go_sem,z0,z1,z2,z3]
       ·rw[et.out];exact⟨rfl,(((AJ.out.at_.trans jg.out).far (Nat.le_refl _) hne 0 _).far (Nat.le_refl _) hne 1 _ |>.far (Nat.le_refl _) hne 2 _ |>.far (Nat.le_refl _) hne 3 _)⟩
      ·rw[hres] at hp;obtain⟨rfl,hat⟩:=hp;obtain⟨z0,z1,z2,z3,y0,y1,y2,y3⟩:=aN (hat.other AJ.out.res hne);have jg:=hid hat;have et:=hid hres;clear hres hat;go_wp2_with fail;refine bodyPost_ret (v:=.tuple #[.agg #[.int .u8 d.k,.string ⟨d.s.toArray⟩,.int .i64 d.n,.int .i64 at_],.int .i64 0]) ?_ rfl ?_
       ·simp[results,Tryz.results66,go_sem,z0,z1,z2,z3]
       ·rw[et.out];exact⟨rfl,(((AJ.out.at_.trans jg.out).far (Nat.le_refl _) hne 0 _).far (Nat.le_refl _) hne 1 _ |>.far (Nat.le_refl _) hne 2 _ |>.far (Nat.le_refl _) hne 3 _)⟩
  ·obtain rfl:i=3:=by omega
   go_wp2_with fail;refine(WI B s g at_ _ (HE.out.at_ HN.out.at_ hB) hB HN.out.at_.1 s[at_] r HD.out (HB.out 0 Taa) (HB.out 1 Taa) (by simpa [vT] using HB.out 2 Taa) hs).mono ?_;intro e w1 hp;rw[HR.out] at hp;have AJ:=HN;rcases hres:R with x |⟨d,rest⟩
   ·open ziw in exact ZgJ
   ·open zix in exact ZgJ
def LX (n:Nat)(r:List UInt8):Except (Nat×Nat) (List np):=rf n (n+1) r
def pre (acc:List np):Except (Nat×Nat) (List np)->Except (Nat×Nat) (List np)
 | .error e=> .error e
 | .ok l=> .ok (acc++l)
def Io (n:Nat):np:=⟨⟨0,[],0⟩,n⟩
theorem qs (b:Bool)(r:List UInt8):bM false (bM b r)=bM b r:=by
 induction r generalizing b with
 | nil=>cases b <;> rfl
 | cons d r ih=>
   cases b with
   | true=>
     simp only[bM];split
     ·exact ih false
     ·exact ih true
   | false=>
     by_cases h1:cO d=true
     ·simp only[bM,if_pos h1];exact ih false
     ·by_cases h2:d=45/\r.head?=some 45
      ·simp only[bM,if_neg h1,if_pos h2];exact ih true
      ·have:bM false (d::r)=d::r:=by simp only[bM,if_neg h1,if_neg h2]
       rw[this,this]
theorem xE (n:Nat)(r:List UInt8):LX n (bM false r)=LX n r:=by unfold LX;simp only[rf];have:=qs false r;rw[this]
variable{n:Nat}{r:List UInt8}
theorem XC(h:bM false r=[]):LX n r=.ok [Io n]:=by unfold LX;simp only[rf,h];rfl
variable{r':List UInt8}{e:Nat}
theorem XD(h:bM false r=c::r')(ho:dH (c::r')=.error e):LX n r=.error (n - (c::r').length,e):=by unfold LX;simp only[rf,h,ho]
variable{rest:List UInt8}
theorem abY{w:Wd}(hr:r.length<=n)(h:bM false r=c::r')(ho:dH (c::r')=.ok (w,rest)):LX n r=pre [⟨w,n - (c::r').length⟩] (LX n rest):=by
 have h1:=uv ho;have h2:=jY false r;rw[h] at h2;unfold LX;conv=>lhs;unfold rf
 simp only[h,ho];rw[Fe n n (n+1) rest Taa Taa];cases rf n (n+1) rest <;> rfl
theorem Qq (a b:List np)(x:Except (Nat×Nat) (List np)):pre a (pre b x)=pre (a++b) x:=by cases x <;> simp[pre]
theorem Qr (x:Except (Nat×Nat) (List np)):pre [] x=x:=by cases x <;> rfl
variable{x:Nat}
theorem KD(h:dH r=.error x):x=2\/x=30:=by
 cases r with
 | nil=>simp[dH] at h;exact .inr h.symm
 | cons c r=>
   simp only[dH] at h;split at h
   ·split at h
    ·cases h
    ·injection h with h;exact .inl h.symm
   ·split at h
    ·exact ZcD
    ·split at h
     ·exact ZcD
     ·exact ZcD
theorem Ah{w:Wd}(h:dH r=.ok (w,rest)):rest <:+ r:=by obtain⟨b,hb,_⟩:=BM h;exact⟨b,hb.symm⟩
def jZ (t:np):List Value:=[.int .u8 t.w.k,.string ⟨t.w.s.toArray⟩,.int .i64 t.w.n,.int .i64 t.p]
theorem xF:(Tryz.prog.info? 81).map (λ i=>(i.zero,i.size,i.bytes))=some (some (.agg #[.int .u8 0,.string ⟨#[]⟩,.int .i64 0,.int .i64 0]),4,40):=by exact Zhj
def CB (w:World)(base:Nat)(v:Value)(l:List np):Prop:=cJ jZ 81 4 w base v l
def lG (s:ByteArray)(w:World)(e:Ending)(w':World):Prop:=
 match lY s.data.toList with
 | .error (p,x)=>e=.returned (.tuple #[.slice none 0 0,.int .i64 p,.int .i64 x])/\Below w.heap.size w w'
 | .ok l=>∃v,e=.returned (.tuple #[v,.int .i64 0,.int .i64 0])/\CB w' w.heap.size v l/\Below w.heap.size w w'
theorem KE(h:4096 < s.size):lY s.data.toList=.error (0,2):=by unfold lY;rw[if_pos Tam]
theorem Qs(h:¬4096 < s.size):lY s.data.toList=LX s.size s.data.toList:=by
 unfold lY LX;have:s.data.toList.length=s.size:=by simp
 rw[this,if_neg h]
structure abZ (s:ByteArray) (g:Nat) (w:World) (a:Nat) (v:Value) (acc:List np) (wr:World):Prop where
 at_:av wr g 118 (se s a)
 VS:Below w.heap.size w wr
 own:CB wr w.heap.size v acc
 le:a<=s.size
 len:acc.length<=a
 skip:bM false (s.data.toList.drop a)=s.data.toList.drop a
 more:LX s.size s.data.toList=pre acc (LX s.size (s.data.toList.drop a))
theorem zgf.KbO(h:p:=by exact⟨rfl,gP.out.VS.trans ((aO jg.out.2 (Nat.le_of_lt NU) (Nat.le_refl _)).trans ((((Below.refl _ _).alloc (Nat.le_refl _) _).trans ((cE _ _).mono Tae)).mono (Nat.le_of_lt XG)))⟩):p:=h
theorem zgJ.Kb0(h:p:=by
 clear hq hrs;refine(Kb s w.heap.size (s.size - rest.length) _ S2.out (Nat.sub_le _ _) hs).mono ?_;rintro e w4 ⟨rfl,ajL⟩;have aoQ:s.size - rest.length<=dL s (s.size - rest.length):=by unfold dL;rw[HQ.out];have:=jY false rest;omega
 have KF:=hid ajL;clear ajL;go_wp2_with fail;go_roundw
 case rel=>
  refine⟨dL s (s.size - rest.length),acc++ [np.mk d a],v2,rfl,KF.out.1,B2.out.trans (aO KF.out.2 B2.out.size (Nat.le_refl _)),O2.out.grown KF.out.2 (O2.out.other S2.out Tab),nM _ _,?_,?_,Zcv⟩
  ·rw[length_append,length_singleton];omega
  ·rw[ir];exact qs _ _
 case measure=>rw[wX gP.out.at_,wX KF.out.1];have:=nM s (s.size - rest.length);omega):p:=h
theorem zg0.Kb6(h:p:=by
 have HG:=hid hG;have hgL:=jg.out.1.later bW;have XH:Below w.heap.size w ((w2.alloc (.cells (jZ ⟨d,a⟩).toArray 81)).alloc (.cells (jZ ⟨d,a⟩).toArray 81)):=gP.out.VS.trans ((aO jg.out.2 (Nat.le_of_lt NU) (Nat.le_refl _)).trans (bW.mono (Nat.le_of_lt XG)));have HGL:=hid hgL;have ox:=hid XH;clear hown hG hgL XH bW;unfold jZ at HG HO HGL ox;go_wp2_with (first
  |(at_builtin
    refine jc rfl (.tmp 38) (.tmp 40) 71 rfl _ 40 Tryz.underlying71 xF rfl Taa ⟨d,a⟩ rfl TaO rfl HO.out (w2.heap.size+1) rfl HG.out Taa Taa ox.out.size ?_
    intro v2 w3 o2 g2
    have b2:=nJ HO.out g2 ox.out.size
    have s2:=av.JN HGL.out HO.out Tab g2
    have O2:=hid o2
    have S2:=hid s2
    have B2:=hid (ox.out.trans b2)
    clear o2 g2 HO HG s2 b2 ox))
 open zgJ in exact Zee):p:=h
theorem zhH.Kcq(h:p:=by have jg:=hid hat;clear hres hat;obtain⟨d0,d1⟩:=cQ jg.out.1;have XG:=jg.out.1.lt;go_wp2_with fail;go_quiet (fail);open zgf in exact ZdA):p:=h
theorem Qt (s:ByteArray)(w:World)(hE:kX w)(hs:s.size<=4294967280):Calls Tryz.prog 25 #[.string s] w (lG s w):=by
 by_cases XF:4096 < s.size
 ·unfold lG;rw[KE XF];go_enter Tryz.func25,Tryz.ntmps25;go_wp2_with fail;go_ret3;exact⟨rfl,Below.refl _ _⟩
 ·have tz:=hid (Qs XF);have HLEN:=hid (show s.data.toList.length=s.size by simp);go_enter Tryz.func25,Tryz.ntmps25;go_wp2_with fail;have hE1:=(Env.mk0 hE).later (aa w (.cells (se s 0) 118));have hb0:=aa w (.cells (se s 0) 118);have hL:=av.new w 118 (se s 0);unfold se at hE1 hb0 hL;refine(Kb s w.heap.size 0 _ hL (Nat.zero_le _) hs).mono ?_;rintro e w1 ⟨rfl,hat⟩
  have hA:abZ s w.heap.size w (dL s 0) (.slice none 0 0) [] w1:=by
   refine⟨hat.1,hb0.trans (aO hat.2 Tae (Nat.le_refl _)),cJ.nil,nM _ _,Nat.zero_le _,?_,?_⟩
   ·rw[ir];have:=xE;exact qs _ _
   ·rw[ir,xE,Qr];rfl
  generalize dL s 0=a0 at*;have vU:=hid hE1;have HA:=hid hA;clear hE1 hb0 hL hat hA;go_wp2_with fail;go_loopw [6] (λ x wr=>∃(a:Nat) (acc:List np) (u:Value),x=u/\abZ s w.heap.size w a u acc wr) (λ _ wr=>s.size - Q4 w.heap.size wr);case atStart=>exact⟨a0,[],_,rfl,HA.out⟩
  case round=>
   obtain⟨a,acc,u,hu,hA⟩:=hrel;have hu2:=hu.symm;clear hu;subst hu2;obtain⟨c0,c1⟩:=cQ hA.at_;have NU:=hA.at_.lt;have oV:=hA.len;have hae:=hA.le;have gP:=hid hA;have hEr:Env w.heap.size wr:=(Env.mk0 hE).below hA.VS;have HER:=hid hEr;clear hA hEr;by_cases ha:a < s.size
   ·go_wp2_with fail;refine(XB w.heap.size s w.heap.size a _ HER.out (Nat.le_refl _) gP.out.at_ ha hs).mono ?_;intro e w2 hp;have HB:=hid (byte_at s a ha);rcases hres:dH (s.data.toList.drop a)with x |⟨d,rest⟩
    ·rw[hres] at hp;obtain⟨rfl,hat⟩:=hp;open zhH in exact Zfm
    ·rw[hres] at hp;obtain⟨rfl,hat⟩:=hp;have et:=hid hres;have jg:=hid hat;clear hres hat;obtain⟨d0,d1⟩:=cQ jg.out.1;have XG:=jg.out.1.lt;have bW:=((Below.refl w2.heap.size w2).alloc (Nat.le_refl _) (.cells (jZ ⟨d,a⟩).toArray 81)).alloc Tae (.cells (jZ ⟨d,a⟩).toArray 81);have hown:CB w2 w.heap.size u acc:=gP.out.own.grown jg.out.2 (gP.out.own.other gP.out.at_ Tab);open zg0 in exact Zes
   ·have hnil:s.data.toList.drop a=[]:=drop_eq_nil_of_le Tao;have Ni:=hid hnil;clear hnil;have bW:=(Below.refl wr.heap.size wr).alloc (Nat.le_refl _) (.cells (jZ (Io s.size)).toArray 81);have HO:=hid (gP.out.own.later bW);have HG:=hid (av.new wr 81 (jZ (Io s.size)).toArray);have ox:=hid (gP.out.VS.trans (bW.mono (Nat.le_of_lt NU)));clear bW;unfold jZ Io at HG HO ox;go_wp2_with (first
     |(at_builtin
       refine jc rfl (.tmp 42) (.tmp 46) 71 rfl _ 40 Tryz.underlying71 xF rfl Taa (Io s.size) rfl TaO rfl HO.out wr.heap.size rfl HG.out Taa Taa ox.out.size ?_
       intro v2 w3 o2 g2
       have b2:=nJ HO.out g2 ox.out.size
       have O2:=hid o2
       have B2:=hid (ox.out.trans b2)
       clear o2 g2 HO HG b2 ox))
    exact Zgf
theorem Qv (t:np):(jZ t).length=4:=rfl
variable{base:Nat}{v:Value}{l:List np}{k:Nat}{t:np}
theorem CB.at_(h:CB w base v l)  (hk:l[k]?=some t):
  ∃g c,v=.slice (some ⟨g,0,none⟩) l.length c/\g < w.heap.size/\w.cell? ⟨g,k*4,none⟩=some (.int .u8 t.w.k)/\w.cell? ⟨g,k*4+1,none⟩=some (.string ⟨t.w.s.toArray⟩)/\w.cell? ⟨g,k*4+2,none⟩=some (.int .i64 t.w.n)/\w.cell? ⟨g,k*4+3,none⟩=some (.int .i64 t.p):=by obtain⟨g,c,hv,_,hlt,hc⟩:=cJ.cell Qv h hk;exact⟨g,c,hv,hlt,hc 0 _ rfl,hc 1 _ rfl,hc 2 _ rfl,hc 3 _ rfl⟩
variable{A:Option Addr}
theorem CB.cells{c:Nat} (h:CB w base (.slice A n c) l)(hne:l≠ []):
  ∃g,A=some ⟨g,0,none⟩/\base<=g/\g < w.heap.size/\∀k t,l[k]?=some t->w.cell? ⟨g,k*4,none⟩=some (.int .u8 t.w.k)/\w.cell? ⟨g,k*4+1,none⟩=some (.string ⟨t.w.s.toArray⟩)/\w.cell? ⟨g,k*4+2,none⟩=some (.int .i64 t.w.n)/\w.cell? ⟨g,k*4+3,none⟩=some (.int .i64 t.p):=by
 match l,hne with
 | t0::l,_=>obtain⟨g,c0,hv,hb,hlt,_⟩:=cJ.cell Qv h (k:=0) (x:=t0) rfl;injection hv with hA _ _;refine⟨g,hA,hb,hlt,λ k t hk=>?_⟩;obtain⟨g',c',hv',_,a⟩:=h.at_ hk;injection hv' with hA' _ _;rw[hA] at hA';injection hA' with hA';injection hA' with hg _ _;subst hg;exact a
theorem Im (w:World)(g:Nat)(c:UInt8)(h:av w g 5 #[.int .u8 (c.toNat:Int)]):(convert 59 9 (.slice (some ⟨g,0,none⟩) 1 1)).run Tryz.prog w=.ok (.string ⟨#[c]⟩) w:=by
 have:=run_convert_bytes_back (P:=Tryz.prog) w 59 9 5 ⟨g,0,none⟩ 1 [c] Tryz.underlying59 Tryz.underlying5 Tryz.underlying9 (λ j hj=>by
  have:j=0:=by simpa using hj
  subst this
  have h0:=h.cell 0
  simpa [Addr.add] using h0)
 exact Zd5
theorem T8(h:yO c=true):(oU c).toNat=c.toNat+32:=by unfold oU;rw[if_pos h];simp[yO,UInt8.le_iff_toNat_le] at h;rw[UInt8.toNat_add];simp;omega
theorem Qn(h:yO c=false):oU c=c:=by unfold oU;rw[h];rfl
theorem ow (l:List UInt8)(c:UInt8):(⟨l.toArray⟩:ByteArray)++⟨#[c]⟩=⟨(l++ [c]).toArray⟩:=by apply ByteArray.ext;simp
theorem FC (s:ByteArray)(w:World)(hs:s.size<=4294967280):Calls Tryz.prog 156 #[.string s] w λ e w'=>e=.returned (.string ⟨(s.data.toList.map oU).toArray⟩)/\Below w.heap.size w w':=by
 have HLEN:=hid (show s.data.toList.length=s.size by simp);go_enter Tryz.func156,Tryz.ntmps156;go_wp2_with fail;go_loopw [3,4] (λ x u wr=>∃(i:Nat) (l:List UInt8),i<=s.size/\u=.int .i64 i/\x=.string ⟨l.toArray⟩/\l.length=i/\s.data.toList.map oU=l++(s.data.toList.drop i).map oU/\Below w.heap.size w wr) (λ _ u _=>s.size - (intOf u).toNat);case atStart=>exact⟨0,[],by omega,rfl,rfl,rfl,rfl,Below.refl _ _⟩
 case round=>
  obtain⟨i,l,hi,rfl,rfl,hl,hm,hb⟩:=hrel;have HM:=hid hm;have hl2:l.length<=s.size:=by omega
  have HL:=hid hl;have HLL:=hid (show l.length<=s.size by omega);clear hm hl;by_cases hlt:i < s.size
  ·have HD:=hid (drop_at (byte_at s i hlt));rcases Fl s[i] with ⟨hc,t1,t2⟩|⟨hc,t1,t2⟩|⟨hc,t1⟩
   ·have Xt:=T8 hc;have hn:s[i].toNat<=90:=by have:=of_decide_eq_true t2;omega
    have hr:=Im _ _ (oU s[i]) (av.new wr 5 #[.int .u8 ((oU s[i]).toNat:Int)]);rw[Xt] at hr;rw[show((s[i].toNat+32:Nat):Int)=(s[i].toNat:Int)+32 from rfl] at hr;have T9:=hid Xt;clear Xt hc;go_wp2_with fail;go_roundw;case rel=>refine⟨i+1,l++ [oU s[i]],by omega,by go_num,by rw[ow],by rw[length_append,HL.out];rfl,?_,hb.trans ((aa wr _).mono hb.size)⟩;rw[HM.out,HD.out];simp
    case measure=>exact Zcu
   ·exact Zb6
   ·exact Zb6
  ·go_wp2_with fail;go_ret;refine⟨?_,hb⟩;rw[HM.out,drop_eq_nil_of_le Tao];simp
variable{a:Nat}
theorem CA{b:Nat}(h:bM false (s.data.toList.drop a)=bM false (s.data.toList.drop b)):dL s a=dL s b:=Fh s h
theorem uH(ha:a<=s.size)(h:bM false (s.data.toList.drop a)=s.data.toList.drop a):dL s a=a:=by unfold dL;rw[h,length_drop];simp;omega
theorem ziG.KcS(h:p:=by rintro⟨_,h⟩;rw[fT.out] at h;exact H46.out Tam):p:=h
theorem ziH.KcS(h:p:=by rintro⟨_,h⟩;rw[drop_eq_nil_of_le Tao] at h;simp at h):p:=h
theorem ziI.KcS(h:p:=by rintro⟨h,_⟩;exact H45.out h):p:=h
theorem FD (s:ByteArray)(at_:Nat)(w:World)(ha:at_<=s.size)(hs:s.size<=4294967280):Calls Tryz.prog 124 #[.string s,.int .i64 at_] w λ e w'=>e=.returned (.int .i64 (dL s at_))/\w=w':=by
 have HLEN:=hid (show s.data.toList.length=s.size by simp);go_enter Tryz.func124,Tryz.ntmps124;go_wp2_with fail;go_loop [1] (λ u=>∃a:Nat,a<=s.size/\u=.int .i64 a/\dL s at_=dL s a) (λ u=>s.size - (intOf u).toNat);case atStart=>exact⟨at_,ha,rfl,rfl⟩
 case round=>
  obtain⟨a,hle,rfl,hsk⟩:=hrel;have HS:=hid hsk;clear hsk;by_cases hlt:a < s.size
  ·have HD:=hid (drop_at (byte_at s a hlt));cases hb:cO s[a]
   ·have NQ:s[a]=45\/s[a]≠45:=by by_cases h:s[a]=45 <;> simp[h]
    rw[uw] at hb;simp only[Bool.or_eq_false_iff] at hb;obtain⟨⟨⟨b1,b2⟩,b3⟩,b4⟩:=hb;have HB:=hid (show cO s[a]=false by rw[uw,b1,b2,b3,b4];rfl);rcases NQ with NQ | NQ
    ·have t1:(((s[a].toNat:Nat):Int)==45)=true:=by rw[NQ];rfl
     have t2:(((s[a].toNat:Nat):Int) != 45)=false:=by rw[NQ];rfl
     have H45:=hid NQ;clear NQ;by_cases aoK:a+1 < s.size
     ·have fT:=hid (drop_at (byte_at s (a+1) aoK));have n1:=decide_eq_false (show¬((s.size:Int)<=(a:Int)+1) by omega);by_cases h46:s[a+1]=45
      ·have u1:(((s[a+1].toNat:Nat):Int)==45)=true:=by rw[h46];rfl
       have u2:(((s[a+1].toNat:Nat):Int) != 45)=false:=by rw[h46];rfl
       have HC:=hid (show bM false (s.data.toList.drop a)=bM true (s.data.toList.drop a) by
        rw[HD.out,fT.out,h46,H45.out]
        simp[bM,cO])
       clear h46;go_wp2_with fail;go_loop [1] (λ u=>∃k:Nat,a<=k/\k<=s.size/\u=.int .i64 k/\bM false (s.data.toList.drop a)=bM true (s.data.toList.drop k)) (λ u=>s.size - (intOf u).toNat);case atStart=>exact⟨a,Nat.le_refl _,hle,rfl,HC.out⟩
       case round=>
        obtain⟨k,AB,hk2,rfl,hsk⟩:=hrel;have HK:=hid hsk;clear hsk;by_cases Q1:k < s.size
        ·have HDK:=hid (drop_at (byte_at s k Q1));by_cases h10:s[k]=10
         ·have v1:(((s[k].toNat:Nat):Int)==10)=true:=by rw[h10];rfl
          have v2:(((s[k].toNat:Nat):Int) != 10)=false:=by rw[h10];rfl
          have sq:=hid h10;have hne:a≠k:=by intro e;subst e;have:=H45.out.symm.trans h10;exact absurd this Tab
          clear h10;go_wp2_with fail;go_round;case rel=>refine⟨k,hk2,rfl,?_⟩;rw[HS.out];refine CA ?_;rw[HK.out,HDK.out,sq.out];simp[bM,cO]
          case measure=>exact Zcu
         ·have v1:(((s[k].toNat:Nat):Int)==10)=false:=by rw[beq_eq_false_iff_ne];intro h;exact h10 (UInt8.toNat_inj.1 (by simpa using(by omega:s[k].toNat=10)))
          have v2:(((s[k].toNat:Nat):Int) != 10)=true:=by simpa [bne] using v1
          have sq:=hid h10;clear h10;go_wp2_with fail;go_round;case rel=>refine⟨k+1,by omega,Q1,by go_num,?_⟩;rw[HK.out,HDK.out,bM,if_neg sq.out]
          case measure=>exact Zcu
        ·go_wp2_with fail;go_round;case rel=>refine⟨k,hk2,rfl,?_⟩;rw[HS.out];refine CA ?_;rw[HK.out,drop_eq_nil_of_le Tao];simp[bM]
         case measure=>exact Zcu
      ·have u1:(((s[a+1].toNat:Nat):Int)==45)=false:=by rw[beq_eq_false_iff_ne];intro h;exact h46 (UInt8.toNat_inj.1 (by simpa using(by omega:s[a+1].toNat=45)))
       have u2:(((s[a+1].toNat:Nat):Int) != 45)=true:=by simpa [bne] using u1
       have H46:=hid h46;clear h46;open ziG in exact ZgV
     ·have n1:=decide_eq_true (show((s.size:Int)<=(a:Int)+1) by omega);open ziH in exact ZgV
    ·have t1:(((s[a].toNat:Nat):Int)==45)=false:=by rw[beq_eq_false_iff_ne];intro h;exact NQ (UInt8.toNat_inj.1 (by simpa using(by omega:s[a].toNat=45)))
     have t2:(((s[a].toNat:Nat):Int) != 45)=true:=by simpa [bne] using t1
     have H45:=hid NQ;clear NQ;open ziI in exact ZgV
   ·have HB:=hid hb;rw[uw] at hb;cases b1:(((s[a].toNat:Nat):Int)==32)<;> cases b2:(((s[a].toNat:Nat):Int)==9)<;> cases b3:(((s[a].toNat:Nat):Int)==10)<;> cases b4:(((s[a].toNat:Nat):Int)==13);all_goals try (exfalso;rw[b1,b2,b3,b4] at hb;exact absurd hb Tab)
    all_goals
     clear hb;go_wp2_with fail;go_round;case rel=>refine⟨a+1,hlt,by go_num,?_⟩;rw[HS.out];refine CA ?_;rw[HD.out,bM,if_pos HB.out]
     case measure=>simp[intOf];omega
  ·go_wp2_with fail;go_ret;refine⟨kr ?_,rfl⟩;rw[HS.out,uH hle];rw[drop_eq_nil_of_le Tao];rfl
theorem fy:Hc 92 bJ:=by intro c W;rw[BO];have h1:=c.toNat_lt;generalize c.toNat=n at*;go_enter Tryz.func92,Tryz.ntmps92;exact Za0
theorem gI:Hc 93 aL:=by intro c W;rw[Ff];have h1:=c.toNat_lt;generalize c.toNat=n at*;go_enter Tryz.func93,Tryz.ntmps93;exact Za0
theorem Ez (w:World):Calls Tryz.prog 141 #[] w λ e w'=>e=.returned (.slice (some ⟨w.heap.size,0,none⟩) 27 27)/\w'=w.alloc (.cells (jN.map λ l=>Value.string ⟨l.toArray⟩).toArray 9):=by go_enter Tryz.func141,Tryz.ntmps141;go_wp2_with fail;go_ret;exact⟨rfl,rfl⟩
variable{i:Nat}
theorem Xs{x:List UInt8}(hx:jN[i]?=some x):jN.drop i=x::jN.drop (i+1):=by
 have hlt:i < jN.length:=by
  rcases Nat.lt_or_ge i jN.length with h | h
  ·exact h
  ·rw[getElem?_eq_none h] at hx;cases hx
 rw[drop_eq_getElem_cons hlt];rw[getElem?_eq_getElem hlt] at hx;injection hx with hx;rw[hx]
theorem Tk (l:List UInt8):(⟨l.toArray⟩:ByteArray).toList=l:=by rw[ByteArray.toList_eq]
theorem EA (s:ByteArray)(w:World):Calls Tryz.prog 91 #[.string s] w (Ki (kO s.data.toList) w):=by
 go_enter Tryz.func91,Tryz.ntmps91;go_wp2_with fail;refine(Ez w).mono ?_;rintro e w1 ⟨rfl,rfl⟩;have HB:=hid (av.new w 9 (jN.map λ l=>Value.string ⟨l.toArray⟩).toArray);have b1:=aa w (.cells (jN.map λ l=>Value.string ⟨l.toArray⟩).toArray 9);generalize w.alloc (.cells (jN.map λ l=>Value.string ⟨l.toArray⟩).toArray 9)=W at*;go_wp2_with fail;go_loop [4] (λ u=>∃i:Nat,i<=27/\u=.int .i64 i/\kO s.data.toList=(jN.drop i).contains s.data.toList) (λ u=>27 - (intOf u).toNat);case atStart=>exact⟨0,by omega,rfl,rfl⟩
 case round=>
  obtain⟨i,hi,rfl,N6⟩:=hrel;have sf:=hid N6;clear N6;by_cases hlt:i < 27
  ·obtain⟨x,hx,_,_⟩:=WK hlt;have hcell:=HB.out.cell i;have hx2:(jN.map λ l=>Value.string ⟨l.toArray⟩).toArray[i]?=some (.string ⟨x.toArray⟩):=by simp[hx]
   rw[hx2] at hcell;have Sx:=hid (Xs hx);have e0:=Tk x;have HE0:=hid e0;clear hx hx2 e0;by_cases he:s.data.toList=x
   ·have HE:=hid he;have t2:(x==s.toList)=true:=by rw[ByteArray.toList_eq,he];simp
    clear he;go_wp2_with fail;go_ret;refine⟨cW ?_,b1⟩;rw[sf.out,Sx.out,HE.out];simp
   ·have HE:=hid he;have t2:(x==s.toList)=false:=by rw[ByteArray.toList_eq,beq_eq_false_iff_ne];exact λ e=>he e.symm
    clear he;go_wp2_with fail;go_round
    case rel=>
     refine⟨i+1,by omega,by go_num,?_⟩;rw[sf.out,Sx.out,contains_cons];have:(s.data.toList==x)=false:=by simpa using HE.out
     rw[this];rfl
    case measure=>exact Zcu
  ·obtain rfl:i=27:=by omega
   go_wp2_with fail;go_ret;refine⟨cW ?_,b1⟩;rw[sf.out,drop_eq_nil_of_le (Nat.le_of_eq Bf)];rfl
def AG (s:ByteArray)(at_:Nat)(w:World)(r:Except Nat (Wd×List UInt8))(e:Ending)(w':World):Prop:=
 match r with
 | .ok (d,rest)=>e=.returned (.tuple #[.agg #[.int .u8 d.k,.string ⟨d.s.toArray⟩,.int .i64 d.n,.int .i64 at_],.int .i64 (s.size - rest.length:Nat),.int .i64 0])/\Below w.heap.size w w'
 | .error x=>e=.returned (.tuple #[.agg #[.int .u8 0,.string ⟨#[]⟩,.int .i64 0,.int .i64 0],.int .i64 0,.int .i64 x])/\Below w.heap.size w w'
variable{B q:Nat}
theorem xD(h:Below B w w') (hq:B<=q)(a b c d:Value):Below B w ((((w'.setCell ⟨q,0,none⟩ a).setCell ⟨q,1,none⟩ b).setCell ⟨q,2,none⟩ c).setCell ⟨q,3,none⟩ d):=
 (((h.setCell (p:=⟨q,0,none⟩) hq a).setCell (p:=⟨q,1,none⟩) hq b).setCell (p:=⟨q,2,none⟩) hq c).setCell (p:=⟨q,3,none⟩) hq d
theorem zg2.Kb7(h:p:=by
 have hsz:(w.alloc (.cells #[.int .u8 0,.string ⟨#[]⟩,.int .i64 0,.int .i64 0] 81)).heap.size=w.heap.size+1:=by simp
 generalize w.alloc (.cells #[.int .u8 0,.string ⟨#[]⟩,.int .i64 0,.int .i64 0] 81)=W at*;have dK:=hid hsz;clear hsz;go_loop [8] (λ u=>∃k:Nat,at_<=k/\k<=s.size/\u=.int .i64 k/\ee cx s.data.toList at_=ee cx s.data.toList k) (λ u=>s.size - (intOf u).toNat);case atStart=>exact⟨at_,Nat.le_refl _,by omega,rfl,rfl⟩
 case round=>
  obtain⟨k,AB,hk2,rfl,hf⟩:=hrel;have HF:=hid hf;clear hf;by_cases hlt:k < s.size
  ·have HB:=hid (byte_at s k hlt);cases hl:bJ s[k]
   ·have HL:=hid hl;cases hd:aL s[k]
    ·have HD:=hid hd;have zW:=hid (show ee cx s.data.toList at_=k by rw[HF.out];exact Bd HB.out (by simp[cx,hl,hd]));clear hl hd;by_cases h32:k - at_<=32
     ·have n1:=decide_eq_false (show¬(32:Int)<(k:Int) - at_ by omega);go_wp2_with (first
       |(go_at_call 92;refine(fy s[k] _).mono ?_;rintro e w' ⟨rfl,rfl⟩;rw[HL.out])
       |(go_at_call 93;refine(gI s[k] _).mono ?_;rintro e w' ⟨rfl,rfl⟩;rw[HD.out]))
      exact Za8
     ·have n1:=decide_eq_true (show(32:Int)<(k:Int) - at_ by omega);obtain⟨z0,z1,z2,z3,y0,y1,y2,y3⟩:=aN HZ.out;go_wp2_with (first
       |(go_at_call 92;refine(fy s[k] _).mono ?_;rintro e w' ⟨rfl,rfl⟩;rw[HL.out])
       |(go_at_call 93;refine(gI s[k] _).mono ?_;rintro e w' ⟨rfl,rfl⟩;rw[HD.out]))
      exact ZcZ
    ·have HD:=hid hd;have zW:=hid (show ee cx s.data.toList at_=ee cx s.data.toList (k+1) by rw[HF.out];exact pS HB.out (by simp[cx,hl,hd]));clear hl hd;go_wp2_with (first
      |(go_at_call 92;refine(fy s[k] _).mono ?_;rintro e w' ⟨rfl,rfl⟩;rw[HL.out])
      |(go_at_call 93;refine(gI s[k] _).mono ?_;rintro e w' ⟨rfl,rfl⟩;rw[HD.out]))
     exact Zej
   ·have HL:=hid hl;have zW:=hid (show ee cx s.data.toList at_=ee cx s.data.toList (k+1) by rw[HF.out];exact pS HB.out (by simp[cx,hl]));clear hl;go_wp2_with (go_at_call 92;refine(fy s[k] _).mono ?_;rintro e w' ⟨rfl,rfl⟩;rw[HL.out]);exact Zej
  ·have zW:=hid (show ee cx s.data.toList at_=k by rw[HF.out];exact wU Tao);by_cases h32:k - at_<=32
   ·have n1:=decide_eq_false (show¬(32:Int)<(k:Int) - at_ by omega);go_wp2_with fail;exact Za8
   ·have n1:=decide_eq_true (show(32:Int)<(k:Int) - at_ by omega);obtain⟨z0,z1,z2,z3,y0,y1,y2,y3⟩:=aN HZ.out;go_wp2_with fail;exact ZcZ):p:=h
theorem Xy (s:ByteArray)(at_:Nat)(w:World)(ha:at_ < s.size)(hc:bJ s[at_]=true)(hs:s.size<=4294967280):
  Calls Tryz.prog 125 #[.string s,.int .i64 at_] w (AG s at_ w (dH (s.data.toList.drop at_))):=by
 have hd:=drop_at (byte_at s at_ ha);have dE:dH (s.data.toList.drop at_)=if ee cx s.data.toList at_ - at_<=32 then .ok (⟨1,((s.data.toList.drop at_).takeWhile cx).map oU,0⟩,(s.data.toList.drop at_).dropWhile cx)else .error 2:=by rw[Qe,hd];simp only[dH,if_pos hc]
 generalize dH (s.data.toList.drop at_)=R at*;have kY:=hid dE;have HC:=hid hc;have HLEN:=hid (show s.data.toList.length=s.size by simp);clear dE hd hc;go_enter Tryz.func125,Tryz.ntmps125;go_wp2_with (go_at_call 92;refine(fy s[at_] _).mono ?_;rintro e w' ⟨rfl,rfl⟩;rw[HC.out]);open zg2 in exact Zet
theorem Ag (s:ByteArray)(k:Nat)(hk:k < s.size):s.extract k (k+1)=⟨#[s[k]]⟩:=by
 have h:=nz s k (k+1)
 have h2:(s.data.toList.take (k+1)).drop k=[s[k]]:=by
  rw[drop_take,drop_at (byte_at s k hk)];have:k+1 - k=1:=by omega
  rw[this];rfl
 rw[h2] at h;apply Go.WideShapes.bytes_inj;rw[h]
theorem nD (s:ByteArray)(a b:Nat)(x y:Int)(hx:x=a)(hy:y=b)(hab:a<=b)(hb:b<=s.size)(w:World):
  (Instr.slice 9 (.string s) (some (.int .i64 x)) (some (.int .i64 y)) none).run Tryz.prog w=.ok (.string (s.extract a b)) w:=by subst hx hy;have:=run_slice_string (P:=Tryz.prog) (w:=w) 9 s .i64 .i64 a b Tryz.underlying9 Taa Taa Taa;exact Zd5
theorem zfH.Kby(h:p:=by clear BX;exact ZbP):p:=h
theorem ziM.KcU(h:p:=by
 have jk:=nD s k (k+1) (k:Int) ((k:Int)+1) rfl Taa Taa Taa W;rw[Ag s k hks] at jk;clear hq;go_wp2_with fail;go_round;case rel=>refine⟨k+1,acc++ [s[k]],by omega,by simp;omega,by go_num,by rw[ow],?_⟩;rw[HM.out,drop_at HB.out,vI HQ.out]
 case measure=>exact Zcu):p:=h
theorem zg4.Kb7(h:p:=by
 generalize w.alloc (.cells #[.int .u8 0,.string ⟨#[]⟩,.int .i64 0,.int .i64 0] 81)=W at*;obtain⟨z0,z1,z2,z3,y0,y1,y2,y3⟩:=aN HZ.out;clear t0;go_loop [8,11] (λ u x=>∃(k:Nat) (acc:List UInt8),k<=s.size/\acc.length<=k/\u=.int .i64 k/\x=.string ⟨acc.toArray⟩/\more [] (gu (s.data.toList.drop (at_+1)))=more acc (gu (s.data.toList.drop k))) (λ u _=>s.size - (intOf u).toNat);case atStart=>exact⟨at_+1,[],ha,by simp,by go_num,rfl,rfl⟩
 case round=>
  obtain⟨k,acc,hk,oV,rfl,rfl,hm⟩:=hrel;have HM:=hid hm;clear hm;by_cases hks:k < s.size
  ·have HB:=hid (byte_at s k hks);by_cases hq:s[k]=39
   ·have HQ:=hid hq;have t1:(((s[k].toNat:Nat):Int)==39)=true:=by rw[hq];rfl
    clear hq;by_cases AB:k+1 < s.size
    ·have jB:=hid (byte_at s (k+1) AB);have n2:=decide_eq_false (show¬((s.size:Int)<=(k:Int)+1) by omega);by_cases BX:s[k+1]=39
     ·have pF:=hid BX;have t2:(((s[k+1].toNat:Nat):Int)==39)=true:=by rw[BX];rfl
      have t3:(((s[k+1].toNat:Nat):Int) != 39)=false:=by rw[BX];rfl
      have hx:=Ag s (k+1) AB;have jk:=nD s (k+1) (k+1+1) ((k:Int)+1) ((k:Int)+1+1) Taa Taa Taa Taa W;rw[hx,BX] at jk;clear BX hx;go_wp2_with fail;go_round;case rel=>refine⟨k+2,acc++ [39],by omega,by simp;omega,by go_num,by rw[ow],?_⟩;rw[HM.out,drop_at HB.out,drop_at jB.out,HQ.out,pF.out,BW]
      case measure=>exact Zcu
     ·open zfH in exact ZcT
    ·have n2:=decide_eq_true (show((s.size:Int)<=(k:Int)+1) by omega);have Nh:=hid (show(s.data.toList.drop (k+1)).head?≠some 39 by rw[drop_eq_nil_of_le Tao];simp);exact ZbP
   ·open ziM in exact Zg2
  ·have Ni:=hid (show s.data.toList.drop k=[] by rw[drop_eq_nil_of_le Tao]);go_wp2_with fail;refine bodyPost_ret (v:=.tuple #[.agg #[.int .u8 0,.string ⟨#[]⟩,.int .i64 0,.int .i64 0],.int .i64 0,.int .i64 30]) Zcd rfl ?_
   ·rw[kY.out,HM.out,Ni.out];exact⟨rfl,xD bb (Nat.le_refl _) _ _ _ _⟩):p:=h
theorem zgC.KbX(h:p:=by open zg4 in exact Zet):p:=h
theorem Xz (s:ByteArray)(at_:Nat)(w:World)(ha:at_ < s.size)(hl:bJ s[at_]=false)(hdg:aL s[at_]=false)(hq:s[at_]=39)(hs:s.size<=4294967280):
  Calls Tryz.prog 125 #[.string s,.int .i64 at_] w (AG s at_ w (dH (s.data.toList.drop at_))):=by
 have hd:=drop_at (byte_at s at_ ha)
 have dE:dH (s.data.toList.drop at_)=match more [] (gu (s.data.toList.drop (at_+1)))with
   | some (t,rest)=> .ok (⟨3,t,0⟩,rest)
   | none=> .error 30:=by
  rw[Kg,hd];simp only[dH,hl,hdg,if_pos hq];rfl
 generalize dH (s.data.toList.drop at_)=R at*;have t0:(((s[at_].toNat:Nat):Int)==39)=true:=by rw[hq];rfl
 open zgC in exact Zea
end Go.Proofs.YtehhdlgjfdnafaaGreatDoor
