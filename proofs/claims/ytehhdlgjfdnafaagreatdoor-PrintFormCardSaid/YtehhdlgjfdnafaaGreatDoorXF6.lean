/- Parts of the proof. -/
import Derived.Test.YtehhdlgjfdnafaaGreatDoorXF5
namespace Go.Proofs.YtehhdlgjfdnafaaGreatDoor
variable{p:Prop}
set_option maxHeartbeats 90000000
set_option maxRecDepth 100000
open Go.Lib (hid)
open Go.ChangeShapes Go.WideShapes Go.ChangeAt Go.RowKit Go.Shelf List
set_option linter.unusedVariables false
set_option linter.unusedSimpArgs false
theorem zfv.Kbz(h:p:=by
 go_region_with (first
  |(go_at_call 146;refine(Iw HX1.out rN.out _).mono ?_;rintro e w1 ⟨rfl,b1⟩)
  |(go_at_call 145;refine(oK s g at_ k _ _ _ _ _ (HA.out.drew.later b1)).mono ?_;rintro e w2 ⟨rfl,hat⟩;obtain⟨z0,z1,z2,z3,y0,y1,y2,y3⟩:=aO (hat.other (HZ.out.drew.later b1) hne)))
 all_goals
  go_wp2_with fail;refine bodyPost_ret (v:=.tuple #[.agg #[.int .u8 1,.string ⟨((s.extract at_ k).data.toList.map kN).toArray⟩,.int .i64 0,.int .i64 at_],.int .i64 0]) ?_ rfl ?_
  ·simp[results,Tryz.results104,go_sem,z0,z1,z2,z3]
  ·rw[HE.out];refine⟨rfl,?_⟩;show At s g w (s.size - _) _;rw[HR.out];exact(((((((At.refl hL).later bb).later (Below.refl _ _).drew).later b1).trans hat).far (Nat.le_refl _) hne 0 _).far (Nat.le_refl _) hne 1 _ |>.far (Nat.le_refl _) hne 2 _ |>.far (Nat.le_refl _) hne 3 _)):p:=h
theorem zha.Kch(h:p:=by have g1:=decide_eq_false (show¬(32:Int)<(k:Int) - at_ by omega);go_wp2_with fail;have HX1:=hid (show(s.extract at_ k).size<=4294967280 by rw[ByteArray.size_extract];omega);have rN:=hid (show∀c∈(s.extract at_ k).data.toList,cq c=true by rw[HE.out];exact BQ _);open zfv in exact Zc9):p:=h
theorem zhb.Kch(h:p:=by
 have g1:=decide_eq_true (show(32:Int)<(k:Int) - at_ by omega);go_wp2_with fail;refine bodyPost_ret (v:=.tuple #[.agg #[.int .u8 0,.string ⟨#[]⟩,.int .i64 0,.int .i64 0],.int .i64 2]) ?_ rfl ⟨rfl,?_⟩
 ·simp[results,Tryz.results104,go_sem]
 ·exact(At.refl hL).later ((Below.refl _ _).alloc (Nat.le_refl _) _)):p:=h
theorem XG (s:ByteArray)(g at_:Nat)(w:World)(hL:av w g 118 (tq s at_))(c:UInt8)(r:List UInt8)(hd:s.data.toList.drop at_=c::r)(hc:bH c=true)(hs:s.size<=4294967280):
  Calls Tryz.prog 104 #[.pointer (some ⟨g,0,none⟩)] w (KQ s g at_ w (dG (c::r))):=by
 have ha:at_<=s.size:=by exact ZeR
 have dR:dG (c::r)=if ((c::r).takeWhile cq).length<=32 then .ok (⟨1,((c::r).takeWhile cq).map kN,0⟩,(c::r).dropWhile cq)else .error 2:=by simp only[dG,if_pos hc]
 rw[dR,<- hd,<- QP];have Fh:=hid hd;clear hd dR;obtain⟨c0,c1⟩:=dh hL;have hlt:=hL.lt;have hle:=pV cq s.data.toList at_ TaZ;have FO:=rS cq s.data.toList at_;have HE:=hid (lz cq s at_);have HR:=hid (qT cq s ha);simp at hle;by_cases hl:eA cq s.data.toList at_ - at_<=32
 ·rw[if_pos hl];open zha in exact Ze5
 ·rw[if_neg hl];open zhb in exact Ze5
variable{f:FuncId}{c:UInt8}{b:Bool}
theorem vv{p:UInt8->Bool}(hf:KL f p)  (h:p c=b)(W:World):Calls Tryz.prog f #[.int .u8 (c.toNat:Int)] W λ e w'=>e=.returned (.bool b)/\w'=W:=
 (hf.says c W).mono λ e w' ⟨he,hw⟩=>⟨by rw[he,h],hw.symm⟩
def wU:Array Value:= #[.func (.func 103) #[] #[],.func (.func 104) #[] #[],.func (.func 105) #[] #[],.func (.func 106) #[] #[],.func (.func 107) #[] #[],.func (.func 108) #[] #[]]
structure Ln (s:ByteArray) (g at_:Nat) (w wr:World):Prop where
 at_:At s g w at_ wr
 res:av wr w.heap.size 81 #[.int .u8 0,.string ⟨#[]⟩,.int .i64 0,.int .i64 0]
 V5:av wr (w.heap.size+1) 152 wU
variable{s:ByteArray}{g:Nat}{w wr w':World}
theorem Ln.later{at_:Nat} (h:Ln s g at_ w wr)(hb:Below wr.heap.size wr w'):Ln s g at_ w w':=⟨h.at_.later hb,h.res.later hb,h.V5.later hb⟩
def wV:Nat->UInt8->Bool
 | 0=>bH
 | 1=>aL
 | _=>λ c=>c==39
theorem zh0.KcF(h:p:=by
 refine bodyPost_ret (v:=.tuple #[.agg #[.int .u8 0,.string ⟨#[]⟩,.int .i64 0,.int .i64 0],.int .i64 x]) ?_ rfl ?_
 ·simp[results,Tryz.results66,go_sem,z0,z1,z2,z3]
 ·exact Zdo):p:=h
theorem zh1.KcF(h:p:=by
 refine bodyPost_ret (v:=.tuple #[.agg #[.int .u8 d.k,.string ⟨d.s.toArray⟩,.int .i64 d.n,.int .i64 at_],.int .i64 0]) ?_ rfl ?_
 ·simp[results,Tryz.results66,go_sem,z0,z1,z2,z3]
 ·exact Zdo):p:=h
theorem Yy (B:Nat)(s:ByteArray)(g at_:Nat)(w:World)(hE:Env B w)(hB:B<=g)(hL:av w g 118 (tq s at_))(ha:at_ < s.size)(hs:s.size<=4294967280):
  Calls Tryz.prog 66 #[.pointer (some ⟨g,0,none⟩)] w (KQ s g at_ w (dG (s.data.toList.drop at_))):=by
 have hd:=drop_at (byte_at s at_ ha);obtain⟨c0,c1⟩:=dh hL;have hlt:=hL.lt;have hne:w.heap.size≠g:=by omega
 rw[hd];have HD:=hid hd;clear hd;generalize s.data.toList.drop (at_+1)=r at*;generalize hR:dG (s[at_]::r)=R at*;have HR:=hid hR;clear hR;go_enter Tryz.func66,Tryz.ntmps66;go_wp2_with fail;have hN:Ln s g at_ w ((w.alloc (.cells #[.int .u8 0,.string ⟨#[]⟩,.int .i64 0,.int .i64 0] 81)).alloc (.cells wU 152)):=by refine⟨(At.refl hL).later (((Below.refl _ _).alloc (Nat.le_refl _) _).alloc Tad _),(av.new w _ _).alloc _,?_⟩;have:=av.new (w.alloc (.cells #[.int .u8 0,.string ⟨#[]⟩,.int .i64 0,.int .i64 0] 81)) 152 wU;simpa using this
 unfold wU at hN;generalize (w.alloc (.cells #[.int .u8 0,.string ⟨#[]⟩,.int .i64 0,.int .i64 0] 81)).alloc (.cells _ 152)=W at*;have HE:=hid hE;have HN0:=hid hN;clear hN hE c0 c1;go_loopw [11] (λ u wr=>∃i:Nat,i<=3/\u=.int .i64 i/\Ln s g at_ w wr/\∀j,j < i->wV j s[at_]=false) (λ u _=>3 - (intOf u).toNat);case atStart=>exact⟨0,by omega,rfl,HN0.out,λ j h=>by omega⟩
 case round=>
  obtain⟨i,hi,rfl,hn,Re⟩:=hrel;have HB:=hid Re;obtain⟨c0,c1⟩:=dh hn.at_.1;have Ob:=hn.at_.1.lt;have HN:=hid hn;clear Re hn;by_cases h3:i < 3
  ·rcases(show i=0\/i=1\/i=2 by omega)with rfl | rfl | rfl
   · -- reading 0
     have d0:=HN.out.V5.cell 0;have d1:=HN.out.V5.cell 1;simp[wU] at d0 d1;cases hc:wV 0 s[at_]
     ·have HC:=hid hc;clear hc;go_wp2_with fail;go_quiet ((go_at_call 103;exact Calls.quiet_of_same (vv ly HC.out _)));go_wp2_with fail;go_roundw;case rel=>
       refine⟨1,by omega,by go_num,HN.out.later (((Below.refl _ _).alloc (Nat.le_refl _) _).trans ((cN _ nq).mono Tad)),?_⟩;intro j hj;by_cases hjk:j=0
       ·rw[hjk];exact HC.out
       ·exact HB.out j Taa
      case measure=>simp[intOf]
     ·have HC:=hid hc;clear hc;go_wp2_with fail;go_quiet ((go_at_call 103;exact Calls.quiet_of_same (vv ly HC.out _)));have BD:=hid (HN.out.later (((Below.refl _ _).alloc (Nat.le_refl _) (.cells #[.func (.func 103) #[] #[],.func (.func 104) #[] #[]] 152)).trans ((cN _ nq).mono Tad)));go_wp2_with fail;refine(XG s g at_ _ BD.out.at_.1 s[at_] r HD.out HC.out hs).mono ?_;intro e w1 hp;rw[HR.out] at hp;rcases hres:R with x |⟨d,rest⟩
      ·rw[hres] at hp;obtain⟨rfl,hat⟩:=hp;obtain⟨z0,z1,z2,z3,y0,y1,y2,y3⟩:=aO (hat.other BD.out.res hne);have jx:=hid hat;have eH:=hid hres;clear hres hat;go_wp2_with fail;refine bodyPost_ret (v:=.tuple #[.agg #[.int .u8 0,.string ⟨#[]⟩,.int .i64 0,.int .i64 0],.int .i64 x]) ?_ rfl ?_
       ·simp[results,Tryz.results66,go_sem,z0,z1,z2,z3]
       ·rw[eH.out];exact⟨rfl,(((BD.out.at_.trans jx.out).far (Nat.le_refl _) hne 0 _).far (Nat.le_refl _) hne 1 _ |>.far (Nat.le_refl _) hne 2 _ |>.far (Nat.le_refl _) hne 3 _)⟩
      ·rw[hres] at hp;obtain⟨rfl,hat⟩:=hp;obtain⟨z0,z1,z2,z3,y0,y1,y2,y3⟩:=aO (hat.other BD.out.res hne);have jx:=hid hat;have eH:=hid hres;clear hres hat;go_wp2_with fail;refine bodyPost_ret (v:=.tuple #[.agg #[.int .u8 d.k,.string ⟨d.s.toArray⟩,.int .i64 d.n,.int .i64 at_],.int .i64 0]) ?_ rfl ?_
       ·simp[results,Tryz.results66,go_sem,z0,z1,z2,z3]
       ·rw[eH.out];exact⟨rfl,(((BD.out.at_.trans jx.out).far (Nat.le_refl _) hne 0 _).far (Nat.le_refl _) hne 1 _ |>.far (Nat.le_refl _) hne 2 _ |>.far (Nat.le_refl _) hne 3 _)⟩
   · -- reading 1
     have d0:=HN.out.V5.cell 2;have d1:=HN.out.V5.cell 3;simp[wU] at d0 d1;cases hc:wV 1 s[at_]
     ·have HC:=hid hc;clear hc;go_wp2_with fail;go_quiet ((go_at_call 105;exact Calls.quiet_of_same (vv wH HC.out _)));go_wp2_with fail;go_roundw;case rel=>
       refine⟨2,by omega,by go_num,HN.out.later (((Below.refl _ _).alloc (Nat.le_refl _) _).trans ((cN _ nq).mono Tad)),?_⟩;intro j hj;by_cases hjk:j=1
       ·rw[hjk];exact HC.out
       ·exact HB.out j Taa
      case measure=>simp[intOf]
     ·have HC:=hid hc;clear hc;go_wp2_with fail;go_quiet ((go_at_call 105;exact Calls.quiet_of_same (vv wH HC.out _)));have BD:=hid (HN.out.later (((Below.refl _ _).alloc (Nat.le_refl _) (.cells #[.func (.func 105) #[] #[],.func (.func 106) #[] #[]] 152)).trans ((cN _ nq).mono Tad)));go_wp2_with fail;refine(NV B s g at_ _ (HE.out.at_ BD.out.at_ hB) hB BD.out.at_.1 s[at_] r HD.out HC.out (HB.out 0 Taa) hs).mono ?_;intro e w1 hp;rw[HR.out] at hp;rcases hres:R with x |⟨d,rest⟩
      ·rw[hres] at hp;obtain⟨rfl,hat⟩:=hp;obtain⟨z0,z1,z2,z3,y0,y1,y2,y3⟩:=aO (hat.other BD.out.res hne);have jx:=hid hat;have eH:=hid hres;clear hres hat;go_wp2_with fail;refine bodyPost_ret (v:=.tuple #[.agg #[.int .u8 0,.string ⟨#[]⟩,.int .i64 0,.int .i64 0],.int .i64 x]) ?_ rfl ?_
       ·simp[results,Tryz.results66,go_sem,z0,z1,z2,z3]
       ·rw[eH.out];exact⟨rfl,(((BD.out.at_.trans jx.out).far (Nat.le_refl _) hne 0 _).far (Nat.le_refl _) hne 1 _ |>.far (Nat.le_refl _) hne 2 _ |>.far (Nat.le_refl _) hne 3 _)⟩
      ·rw[hres] at hp;obtain⟨rfl,hat⟩:=hp;obtain⟨z0,z1,z2,z3,y0,y1,y2,y3⟩:=aO (hat.other BD.out.res hne);have jx:=hid hat;have eH:=hid hres;clear hres hat;go_wp2_with fail;refine bodyPost_ret (v:=.tuple #[.agg #[.int .u8 d.k,.string ⟨d.s.toArray⟩,.int .i64 d.n,.int .i64 at_],.int .i64 0]) ?_ rfl ?_
       ·simp[results,Tryz.results66,go_sem,z0,z1,z2,z3]
       ·rw[eH.out];exact⟨rfl,(((BD.out.at_.trans jx.out).far (Nat.le_refl _) hne 0 _).far (Nat.le_refl _) hne 1 _ |>.far (Nat.le_refl _) hne 2 _ |>.far (Nat.le_refl _) hne 3 _)⟩
   · -- reading 2
     have d0:=HN.out.V5.cell 4;have d1:=HN.out.V5.cell 5;simp[wU] at d0 d1;cases hc:wV 2 s[at_]
     ·have HC:=hid hc;clear hc;go_wp2_with fail;go_quiet ((go_at_call 107;exact Calls.quiet_of_same (vv CC HC.out _)));go_wp2_with fail;go_roundw;case rel=>
       refine⟨3,by omega,by go_num,HN.out.later (((Below.refl _ _).alloc (Nat.le_refl _) _).trans ((cN _ nq).mono Tad)),?_⟩;intro j hj;by_cases hjk:j=2
       ·rw[hjk];exact HC.out
       ·exact HB.out j Taa
      case measure=>simp[intOf]
     ·have HC:=hid hc;clear hc;go_wp2_with fail;go_quiet ((go_at_call 107;exact Calls.quiet_of_same (vv CC HC.out _)));have BD:=hid (HN.out.later (((Below.refl _ _).alloc (Nat.le_refl _) (.cells #[.func (.func 107) #[] #[],.func (.func 108) #[] #[]] 152)).trans ((cN _ nq).mono Tad)));go_wp2_with fail;refine(XF s g at_ _ BD.out.at_.1 r (by rw[HD.out];exact congrArg (· ::r) (by simpa [wV] using HC.out)) hs).mono ?_;intro e w1 hp;rw[<-(show s[at_]=39 by simpa [wV] using HC.out),HR.out] at hp;rcases hres:R with x |⟨d,rest⟩
      ·rw[hres] at hp;obtain⟨rfl,hat⟩:=hp;obtain⟨z0,z1,z2,z3,y0,y1,y2,y3⟩:=aO (hat.other BD.out.res hne);have jx:=hid hat;have eH:=hid hres;clear hres hat;go_wp2_with fail;refine bodyPost_ret (v:=.tuple #[.agg #[.int .u8 0,.string ⟨#[]⟩,.int .i64 0,.int .i64 0],.int .i64 x]) ?_ rfl ?_
       ·simp[results,Tryz.results66,go_sem,z0,z1,z2,z3]
       ·rw[eH.out];exact⟨rfl,(((BD.out.at_.trans jx.out).far (Nat.le_refl _) hne 0 _).far (Nat.le_refl _) hne 1 _ |>.far (Nat.le_refl _) hne 2 _ |>.far (Nat.le_refl _) hne 3 _)⟩
      ·rw[hres] at hp;obtain⟨rfl,hat⟩:=hp;obtain⟨z0,z1,z2,z3,y0,y1,y2,y3⟩:=aO (hat.other BD.out.res hne);have jx:=hid hat;have eH:=hid hres;clear hres hat;go_wp2_with fail;refine bodyPost_ret (v:=.tuple #[.agg #[.int .u8 d.k,.string ⟨d.s.toArray⟩,.int .i64 d.n,.int .i64 at_],.int .i64 0]) ?_ rfl ?_
       ·simp[results,Tryz.results66,go_sem,z0,z1,z2,z3]
       ·rw[eH.out];exact⟨rfl,(((BD.out.at_.trans jx.out).far (Nat.le_refl _) hne 0 _).far (Nat.le_refl _) hne 1 _ |>.far (Nat.le_refl _) hne 2 _ |>.far (Nat.le_refl _) hne 3 _)⟩
  ·obtain rfl:i=3:=by omega
   go_wp2_with fail;refine(XI B s g at_ _ (HE.out.at_ HN.out.at_ hB) hB HN.out.at_.1 s[at_] r HD.out (HB.out 0 Taa) (HB.out 1 Taa) (by simpa [wV] using HB.out 2 Taa) hs).mono ?_;intro e w1 hp;rw[HR.out] at hp;have BD:=HN;rcases hres:R with x |⟨d,rest⟩
   ·open zh0 in exact ZgA
   ·open zh1 in exact ZgA
def LX (n:Nat)(r:List UInt8):Except (Nat×Nat) (List na):=oZ n (n+1) r
def pre (acc:List na):Except (Nat×Nat) (List na)->Except (Nat×Nat) (List na)
 | .error e=> .error e
 | .ok l=> .ok (acc++l)
def Jm (n:Nat):na:=⟨⟨0,[],0⟩,n⟩
theorem rj (b:Bool)(r:List UInt8):bU false (bU b r)=bU b r:=by
 induction r generalizing b with
 | nil=>cases b <;> rfl
 | cons d r ih=>
   cases b with
   | true=>
     simp only[bU];split
     ·exact ih false
     ·exact ih true
   | false=>
     by_cases h1:cZ d=true
     ·simp only[bU,if_pos h1];exact ih false
     ·by_cases h2:d=45/\r.head?=some 45
      ·simp only[bU,if_neg h1,if_pos h2];exact ih true
      ·have:bU false (d::r)=d::r:=by simp only[bU,if_neg h1,if_neg h2]
       rw[this,this]
theorem yl (n:Nat)(r:List UInt8):LX n (bU false r)=LX n r:=by unfold LX;simp only[oZ];have:=rj false r;rw[this]
variable{n:Nat}{r:List UInt8}
theorem Yz(h:bU false r=[]):LX n r=.ok [Jm n]:=by unfold LX;simp only[oZ,h];rfl
variable{r':List UInt8}{e:Nat}
theorem YA(h:bU false r=c::r')(ho:dG (c::r')=.error e):LX n r=.error (n - (c::r').length,e):=by unfold LX;simp only[oZ,h,ho]
variable{rest:List UInt8}
theorem adp{w:Wd}(hr:r.length<=n)(h:bU false r=c::r')(ho:dG (c::r')=.ok (w,rest)):LX n r=pre [⟨w,n - (c::r').length⟩] (LX n rest):=by
 have h1:=rR ho;have h2:=jC false r;rw[h] at h2;unfold LX;conv=>lhs;unfold oZ
 simp only[h,ho];rw[FV n n (n+1) rest Taa Taa];cases oZ n (n+1) rest <;> rfl
theorem Rf (a b:List na)(x:Except (Nat×Nat) (List na)):pre a (pre b x)=pre (a++b) x:=by cases x <;> simp[pre]
theorem Rh (x:Except (Nat×Nat) (List na)):pre [] x=x:=by cases x <;> rfl
variable{x:Nat}
theorem Lp(h:dG r=.error x):x=2\/x=30:=by
 cases r with
 | nil=>simp[dG] at h;exact .inr h.symm
 | cons c r=>
   simp only[dG] at h;split at h
   ·split at h
    ·cases h
    ·injection h with h;exact .inl h.symm
   ·split at h
    ·exact Zcv
    ·split at h
     ·exact Zcv
     ·exact Zcv
theorem Bc{w:Wd}(h:dG r=.ok (w,rest)):rest <:+ r:=by obtain⟨b,hb,_⟩:=Cz h;exact⟨b,hb.symm⟩
def kC (t:na):List Value:=[.int .u8 t.w.k,.string ⟨t.w.s.toArray⟩,.int .i64 t.w.n,.int .i64 t.p]
theorem ym:(Tryz.prog.info? 81).map (λ i=>(i.zero,i.size,i.bytes))=some (some (.agg #[.int .u8 0,.string ⟨#[]⟩,.int .i64 0,.int .i64 0]),4,40):=by kernel_rfl
def Dg (w:World)(base:Nat)(v:Value)(l:List na):Prop:=cT kC 81 4 w base v l
def mi (s:ByteArray)(w:World)(e:Ending)(w':World):Prop:=
 match kO s.data.toList with
 | .error (p,x)=>e=.returned (.tuple #[.slice none 0 0,.int .i64 p,.int .i64 x])/\Below w.heap.size w w'
 | .ok l=>∃v,e=.returned (.tuple #[v,.int .i64 0,.int .i64 0])/\Dg w' w.heap.size v l/\Below w.heap.size w w'
theorem Lq(h:4096 < s.size):kO s.data.toList=.error (0,2):=by unfold kO;rw[if_pos Tam]
theorem Ri(h:¬4096 < s.size):kO s.data.toList=LX s.size s.data.toList:=by
 unfold kO LX;have:s.data.toList.length=s.size:=by simp
 rw[this,if_neg h]
structure adq (s:ByteArray) (g:Nat) (w:World) (a:Nat) (v:Value) (acc:List na) (wr:World):Prop where
 at_:av wr g 118 (tq s a)
 Xc:Below w.heap.size w wr
 own:Dg wr w.heap.size v acc
 le:a<=s.size
 len:acc.length<=a
 skip:bU false (s.data.toList.drop a)=s.data.toList.drop a
 more:LX s.size s.data.toList=pre acc (LX s.size (s.data.toList.drop a))
theorem zfN.KbH(h:p:=by exact⟨rfl,ia.out.Xc.trans ((aQ jx.out.2 (Nat.le_of_lt OS) (Nat.le_refl _)).trans ((((Below.refl _ _).alloc (Nat.le_refl _) _).trans ((cN _ _).mono Tad)).mono (Nat.le_of_lt YB)))⟩):p:=h
theorem zgg.KbT(h:p:=by
 clear hq Rk;refine(KP s w.heap.size (s.size - rest.length) _ S2.out (Nat.sub_le _ _) hs).mono ?_;rintro e w4 ⟨rfl,alc⟩;have aqg:s.size - rest.length<=dY s (s.size - rest.length):=by unfold dY;rw[HQ.out];have:=jC false rest;omega
 have Ls:=hid alc;clear alc;go_wp2_with fail;go_roundw
 case rel=>
  refine⟨dY s (s.size - rest.length),acc++ [na.mk d a],v2,rfl,Ls.out.1,B2.out.trans (aQ Ls.out.2 B2.out.size (Nat.le_refl _)),O2.out.grown Ls.out.2 (O2.out.other S2.out Tab),oJ _ _,?_,?_,Zcn⟩
  ·rw[length_append,length_singleton];omega
  ·rw[iL];exact rj _ _
 case measure=>rw[xF ia.out.at_,xF Ls.out.1];have:=oJ s (s.size - rest.length);omega):p:=h
theorem zgx.KbZ(h:p:=by
 have HG:=hid hG;have hgL:=jx.out.1.later bW;have YC:Below w.heap.size w ((w2.alloc (.cells (kC ⟨d,a⟩).toArray 81)).alloc (.cells (kC ⟨d,a⟩).toArray 81)):=ia.out.Xc.trans ((aQ jx.out.2 (Nat.le_of_lt OS) (Nat.le_refl _)).trans (bW.mono (Nat.le_of_lt YB)));have HGL:=hid hgL;have pw:=hid YC;clear hown hG hgL YC bW;unfold kC at HG HO HGL pw;go_wp2_with (first
  |(at_builtin
    refine jt rfl (.tmp 38) (.tmp 40) 71 rfl _ 40 Tryz.underlying71 ym rfl Taa ⟨d,a⟩ rfl TaM rfl HO.out (w2.heap.size+1) rfl HG.out Taa Taa pw.out.size ?_
    intro v2 w3 o2 g2
    have b2:=oG HO.out g2 pw.out.size
    have s2:=av.KA HGL.out HO.out Tab g2
    have O2:=hid o2
    have S2:=hid s2
    have B2:=hid (pw.out.trans b2)
    clear o2 g2 HO HG s2 b2 pw))
 open zgg in exact Zd4):p:=h
theorem zhe.Kcj(h:p:=by have jx:=hid hat;clear hres hat;obtain⟨d0,d1⟩:=dh jx.out.1;have YB:=jx.out.1.lt;go_wp2_with fail;go_quiet (fail);open zfN in exact Zdq):p:=h
theorem Rj (s:ByteArray)(w:World)(hE:lU w)(hs:s.size<=4294967280):Calls Tryz.prog 25 #[.string s] w (mi s w):=by
 by_cases Lr:4096 < s.size
 ·unfold mi;rw[Lq Lr];go_enter Tryz.func25,Tryz.ntmps25;go_wp2_with fail;go_ret3;exact⟨rfl,Below.refl _ _⟩
 ·have tX:=hid (Ri Lr);have HLEN:=hid (show s.data.toList.length=s.size by simp);go_enter Tryz.func25,Tryz.ntmps25;go_wp2_with fail;have hE1:=(Env.mk0 hE).later (aa w (.cells (tq s 0) 118));have hb0:=aa w (.cells (tq s 0) 118);have hL:=av.new w 118 (tq s 0);unfold tq at hE1 hb0 hL;refine(KP s w.heap.size 0 _ hL (Nat.zero_le _) hs).mono ?_;rintro e w1 ⟨rfl,hat⟩
  have hA:adq s w.heap.size w (dY s 0) (.slice none 0 0) [] w1:=by
   refine⟨hat.1,hb0.trans (aQ hat.2 Tad (Nat.le_refl _)),cT.nil,oJ _ _,Nat.zero_le _,?_,?_⟩
   ·rw[iL];have:=yl;exact rj _ _
   ·rw[iL,yl,Rh];rfl
  generalize dY s 0=a0 at*;have wX:=hid hE1;have HA:=hid hA;clear hE1 hb0 hL hat hA;go_wp2_with fail;go_loopw [6] (λ x wr=>∃(a:Nat) (acc:List na) (u:Value),x=u/\adq s w.heap.size w a u acc wr) (λ _ wr=>s.size - Z5 w.heap.size wr);case atStart=>exact⟨a0,[],_,rfl,HA.out⟩
  case round=>
   obtain⟨a,acc,u,hu,hA⟩:=hrel;have hu2:=hu.symm;clear hu;subst hu2;obtain⟨c0,c1⟩:=dh hA.at_;have OS:=hA.at_.lt;have pP:=hA.len;have hae:=hA.le;have ia:=hid hA;have hEr:Env w.heap.size wr:=(Env.mk0 hE).below hA.Xc;have HER:=hid hEr;clear hA hEr;by_cases ha:a < s.size
   ·go_wp2_with fail;refine(Yy w.heap.size s w.heap.size a _ HER.out (Nat.le_refl _) ia.out.at_ ha hs).mono ?_;intro e w2 hp;have HB:=hid (byte_at s a ha);rcases hres:dG (s.data.toList.drop a)with x |⟨d,rest⟩
    ·rw[hres] at hp;obtain⟨rfl,hat⟩:=hp;open zhe in exact Zfe
    ·rw[hres] at hp;obtain⟨rfl,hat⟩:=hp;have eH:=hid hres;have jx:=hid hat;clear hres hat;obtain⟨d0,d1⟩:=dh jx.out.1;have YB:=jx.out.1.lt;have bW:=((Below.refl w2.heap.size w2).alloc (Nat.le_refl _) (.cells (kC ⟨d,a⟩).toArray 81)).alloc Tad (.cells (kC ⟨d,a⟩).toArray 81);have hown:Dg w2 w.heap.size u acc:=ia.out.own.grown jx.out.2 (ia.out.own.other ia.out.at_ Tab);open zgx in exact Zei
   ·have hnil:s.data.toList.drop a=[]:=drop_eq_nil_of_le Tao;have Od:=hid hnil;clear hnil;have bW:=(Below.refl wr.heap.size wr).alloc (Nat.le_refl _) (.cells (kC (Jm s.size)).toArray 81);have HO:=hid (ia.out.own.later bW);have HG:=hid (av.new wr 81 (kC (Jm s.size)).toArray);have pw:=hid (ia.out.Xc.trans (bW.mono (Nat.le_of_lt OS)));clear bW;unfold kC Jm at HG HO pw;go_wp2_with (first
     |(at_builtin
       refine jt rfl (.tmp 42) (.tmp 46) 71 rfl _ 40 Tryz.underlying71 ym rfl Taa (Jm s.size) rfl TaM rfl HO.out wr.heap.size rfl HG.out Taa Taa pw.out.size ?_
       intro v2 w3 o2 g2
       have b2:=oG HO.out g2 pw.out.size
       have O2:=hid o2
       have B2:=hid (pw.out.trans b2)
       clear o2 g2 HO HG b2 pw))
    exact Zf7
theorem Rl (t:na):(kC t).length=4:=rfl
variable{base:Nat}{v:Value}{l:List na}{k:Nat}{t:na}
theorem Dg.at_(h:Dg w base v l)  (hk:l[k]?=some t):
  ∃g c,v=.slice (some ⟨g,0,none⟩) l.length c/\g < w.heap.size/\w.cell? ⟨g,k*4,none⟩=some (.int .u8 t.w.k)/\w.cell? ⟨g,k*4+1,none⟩=some (.string ⟨t.w.s.toArray⟩)/\w.cell? ⟨g,k*4+2,none⟩=some (.int .i64 t.w.n)/\w.cell? ⟨g,k*4+3,none⟩=some (.int .i64 t.p):=by obtain⟨g,c,hv,_,hlt,hc⟩:=cT.cell Rl h hk;exact⟨g,c,hv,hlt,hc 0 _ rfl,hc 1 _ rfl,hc 2 _ rfl,hc 3 _ rfl⟩
variable{A:Option Addr}
theorem Dg.cells{c:Nat} (h:Dg w base (.slice A n c) l)(hne:l≠ []):
  ∃g,A=some ⟨g,0,none⟩/\base<=g/\g < w.heap.size/\∀k t,l[k]?=some t->w.cell? ⟨g,k*4,none⟩=some (.int .u8 t.w.k)/\w.cell? ⟨g,k*4+1,none⟩=some (.string ⟨t.w.s.toArray⟩)/\w.cell? ⟨g,k*4+2,none⟩=some (.int .i64 t.w.n)/\w.cell? ⟨g,k*4+3,none⟩=some (.int .i64 t.p):=by
 match l,hne with
 | t0::l,_=>obtain⟨g,c0,hv,hb,hlt,_⟩:=cT.cell Rl h (k:=0) (x:=t0) rfl;injection hv with hA _ _;refine⟨g,hA,hb,hlt,λ k t hk=>?_⟩;obtain⟨g',c',hv',_,a⟩:=h.at_ hk;injection hv' with hA' _ _;rw[hA] at hA';injection hA' with hA';injection hA' with hg _ _;subst hg;exact a
theorem Jl (w:World)(g:Nat)(c:UInt8)(h:av w g 5 #[.int .u8 (c.toNat:Int)]):(convert 59 9 (.slice (some ⟨g,0,none⟩) 1 1)).run Tryz.prog w=.ok (.string ⟨#[c]⟩) w:=by
 have:=run_convert_bytes_back (P:=Tryz.prog) w 59 9 5 ⟨g,0,none⟩ 1 [c] Tryz.underlying59 Tryz.underlying5 Tryz.underlying9 (λ j hj=>by
  have:j=0:=by simpa using hj
  subst this
  have h0:=h.cell 0
  simpa [Addr.add] using h0)
 exact Zdt
theorem aao(h:wF c=true):(kN c).toNat=c.toNat+32:=by unfold kN;rw[if_pos h];simp[wF,UInt8.le_iff_toNat_le] at h;rw[UInt8.toNat_add];simp;omega
theorem Rb(h:wF c=false):kN c=c:=by unfold kN;rw[h];rfl
theorem po (l:List UInt8)(c:UInt8):(⟨l.toArray⟩:ByteArray)++⟨#[c]⟩=⟨(l++ [c]).toArray⟩:=by apply ByteArray.ext;simp
theorem Gt (s:ByteArray)(w:World)(hs:s.size<=4294967280):Calls Tryz.prog 156 #[.string s] w λ e w'=>e=.returned (.string ⟨(s.data.toList.map kN).toArray⟩)/\Below w.heap.size w w':=by
 have HLEN:=hid (show s.data.toList.length=s.size by simp);go_enter Tryz.func156,Tryz.ntmps156;go_wp2_with fail;go_loopw [3,4] (λ x u wr=>∃(i:Nat) (l:List UInt8),i<=s.size/\u=.int .i64 i/\x=.string ⟨l.toArray⟩/\l.length=i/\s.data.toList.map kN=l++(s.data.toList.drop i).map kN/\Below w.heap.size w wr) (λ _ u _=>s.size - (intOf u).toNat);case atStart=>exact⟨0,[],by omega,rfl,rfl,rfl,rfl,Below.refl _ _⟩
 case round=>
  obtain⟨i,l,hi,rfl,rfl,hl,hm,hb⟩:=hrel;have HM:=hid hm;have hl2:l.length<=s.size:=by omega
  have HL:=hid hl;have HLL:=hid (show l.length<=s.size by omega);clear hm hl;by_cases hlt:i < s.size
  ·have HD:=hid (drop_at (byte_at s i hlt));rcases Gc s[i] with ⟨hc,t1,t2⟩|⟨hc,t1,t2⟩|⟨hc,t1⟩
   ·have Yq:=aao hc;have hn:s[i].toNat<=90:=by have:=of_decide_eq_true t2;omega
    have hr:=Jl _ _ (kN s[i]) (av.new wr 5 #[.int .u8 ((kN s[i]).toNat:Int)]);rw[Yq] at hr;rw[show((s[i].toNat+32:Nat):Int)=(s[i].toNat:Int)+32 from rfl] at hr;have aap:=hid Yq;clear Yq hc;go_wp2_with fail;go_roundw;case rel=>refine⟨i+1,l++ [kN s[i]],by omega,by go_num,by rw[po],by rw[length_append,HL.out];rfl,?_,hb.trans ((aa wr _).mono hb.size)⟩;rw[HM.out,HD.out];simp
    case measure=>exact Zcs
   ·exact ZbW
   ·exact ZbW
  ·go_wp2_with fail;go_ret;refine⟨?_,hb⟩;rw[HM.out,drop_eq_nil_of_le Tao];simp
variable{a:Nat}
theorem Df{b:Nat}(h:bU false (s.data.toList.drop a)=bU false (s.data.toList.drop b)):dY s a=dY s b:=FY s h
theorem vu(ha:a<=s.size)(h:bU false (s.data.toList.drop a)=s.data.toList.drop a):dY s a=a:=by unfold dY;rw[h,length_drop];simp;omega
theorem zia.KcK(h:p:=by rintro⟨_,h⟩;rw[gb.out] at h;exact H46.out Tam):p:=h
theorem zib.KcK(h:p:=by rintro⟨_,h⟩;rw[drop_eq_nil_of_le Tao] at h;simp at h):p:=h
theorem zic.KcK(h:p:=by rintro⟨h,_⟩;exact H45.out h):p:=h
theorem Gu (s:ByteArray)(at_:Nat)(w:World)(ha:at_<=s.size)(hs:s.size<=4294967280):Calls Tryz.prog 124 #[.string s,.int .i64 at_] w λ e w'=>e=.returned (.int .i64 (dY s at_))/\w=w':=by
 have HLEN:=hid (show s.data.toList.length=s.size by simp);go_enter Tryz.func124,Tryz.ntmps124;go_wp2_with fail;go_loop [1] (λ u=>∃a:Nat,a<=s.size/\u=.int .i64 a/\dY s at_=dY s a) (λ u=>s.size - (intOf u).toNat);case atStart=>exact⟨at_,ha,rfl,rfl⟩
 case round=>
  obtain⟨a,hle,rfl,hsk⟩:=hrel;have HS:=hid hsk;clear hsk;by_cases hlt:a < s.size
  ·have HD:=hid (drop_at (byte_at s a hlt));cases hb:cZ s[a]
   ·have OO:s[a]=45\/s[a]≠45:=by by_cases h:s[a]=45 <;> simp[h]
    rw[uY] at hb;simp only[Bool.or_eq_false_iff] at hb;obtain⟨⟨⟨b1,b2⟩,b3⟩,b4⟩:=hb;have HB:=hid (show cZ s[a]=false by rw[uY,b1,b2,b3,b4];rfl);rcases OO with OO | OO
    ·have t1:(((s[a].toNat:Nat):Int)==45)=true:=by rw[OO];rfl
     have t2:(((s[a].toNat:Nat):Int) != 45)=false:=by rw[OO];rfl
     have H45:=hid OO;clear OO;by_cases aqa:a+1 < s.size
     ·have gb:=hid (drop_at (byte_at s (a+1) aqa));have n1:=decide_eq_false (show¬((s.size:Int)<=(a:Int)+1) by omega);by_cases h46:s[a+1]=45
      ·have u1:(((s[a+1].toNat:Nat):Int)==45)=true:=by rw[h46];rfl
       have u2:(((s[a+1].toNat:Nat):Int) != 45)=false:=by rw[h46];rfl
       have HC:=hid (show bU false (s.data.toList.drop a)=bU true (s.data.toList.drop a) by
        rw[HD.out,gb.out,h46,H45.out]
        simp[bU,cZ])
       clear h46;go_wp2_with fail;go_loop [1] (λ u=>∃k:Nat,a<=k/\k<=s.size/\u=.int .i64 k/\bU false (s.data.toList.drop a)=bU true (s.data.toList.drop k)) (λ u=>s.size - (intOf u).toNat);case atStart=>exact⟨a,Nat.le_refl _,hle,rfl,HC.out⟩
       case round=>
        obtain⟨k,BR,hk2,rfl,hsk⟩:=hrel;have HK:=hid hsk;clear hsk;by_cases Z2:k < s.size
        ·have HDK:=hid (drop_at (byte_at s k Z2));by_cases h10:s[k]=10
         ·have v1:(((s[k].toNat:Nat):Int)==10)=true:=by rw[h10];rfl
          have v2:(((s[k].toNat:Nat):Int) != 10)=false:=by rw[h10];rfl
          have tz:=hid h10;have hne:a≠k:=by intro e;subst e;have:=H45.out.symm.trans h10;exact absurd this Tab
          clear h10;go_wp2_with fail;go_round;case rel=>refine⟨k,hk2,rfl,?_⟩;rw[HS.out];refine Df ?_;rw[HK.out,HDK.out,tz.out];simp[bU,cZ]
          case measure=>exact Zcs
         ·have v1:(((s[k].toNat:Nat):Int)==10)=false:=by rw[beq_eq_false_iff_ne];intro h;exact h10 (UInt8.toNat_inj.1 (by simpa using(by omega:s[k].toNat=10)))
          have v2:(((s[k].toNat:Nat):Int) != 10)=true:=by simpa [bne] using v1
          have tz:=hid h10;clear h10;go_wp2_with fail;go_round;case rel=>refine⟨k+1,by omega,Z2,by go_num,?_⟩;rw[HK.out,HDK.out,bU,if_neg tz.out]
          case measure=>exact Zcs
        ·go_wp2_with fail;go_round;case rel=>refine⟨k,hk2,rfl,?_⟩;rw[HS.out];refine Df ?_;rw[HK.out,drop_eq_nil_of_le Tao];simp[bU]
         case measure=>exact Zcs
      ·have u1:(((s[a+1].toNat:Nat):Int)==45)=false:=by rw[beq_eq_false_iff_ne];intro h;exact h46 (UInt8.toNat_inj.1 (by simpa using(by omega:s[a+1].toNat=45)))
       have u2:(((s[a+1].toNat:Nat):Int) != 45)=true:=by simpa [bne] using u1
       have H46:=hid h46;clear h46;open zia in exact ZgL
     ·have n1:=decide_eq_true (show((s.size:Int)<=(a:Int)+1) by omega);open zib in exact ZgL
    ·have t1:(((s[a].toNat:Nat):Int)==45)=false:=by rw[beq_eq_false_iff_ne];intro h;exact OO (UInt8.toNat_inj.1 (by simpa using(by omega:s[a].toNat=45)))
     have t2:(((s[a].toNat:Nat):Int) != 45)=true:=by simpa [bne] using t1
     have H45:=hid OO;clear OO;open zic in exact ZgL
   ·have HB:=hid hb;rw[uY] at hb;cases b1:(((s[a].toNat:Nat):Int)==32)<;> cases b2:(((s[a].toNat:Nat):Int)==9)<;> cases b3:(((s[a].toNat:Nat):Int)==10)<;> cases b4:(((s[a].toNat:Nat):Int)==13);all_goals try (exfalso;rw[b1,b2,b3,b4] at hb;exact absurd hb Tab)
    all_goals
     clear hb;go_wp2_with fail;go_round;case rel=>refine⟨a+1,hlt,by go_num,?_⟩;rw[HS.out];refine Df ?_;rw[HD.out,bU,if_pos HB.out]
     case measure=>simp[intOf];omega
  ·go_wp2_with fail;go_ret;refine⟨kJ ?_,rfl⟩;rw[HS.out,vu hle];rw[drop_eq_nil_of_le Tao];rfl
theorem fF:Iu 92 bH:=by intro c W;rw[CB];have h1:=c.toNat_lt;generalize c.toNat=n at*;go_enter Tryz.func92,Tryz.ntmps92;exact ZaW
theorem gU:Iu 93 aL:=by intro c W;rw[FW];have h1:=c.toNat_lt;generalize c.toNat=n at*;go_enter Tryz.func93,Tryz.ntmps93;exact ZaW
theorem Fp (w:World):Calls Tryz.prog 141 #[] w λ e w'=>e=.returned (.slice (some ⟨w.heap.size,0,none⟩) 27 27)/\w'=w.alloc (.cells (kj.map λ l=>Value.string ⟨l.toArray⟩).toArray 9):=by go_enter Tryz.func141,Tryz.ntmps141;go_wp2_with fail;go_ret;exact⟨rfl,rfl⟩
variable{i:Nat}
theorem Yp{x:List UInt8}(hx:kj[i]?=some x):kj.drop i=x::kj.drop (i+1):=by
 have hlt:i < kj.length:=by
  rcases Nat.lt_or_ge i kj.length with h | h
  ·exact h
  ·rw[getElem?_eq_none h] at hx;cases hx
 rw[drop_eq_getElem_cons hlt];rw[getElem?_eq_getElem hlt] at hx;injection hx with hx;rw[hx]
theorem Uf (l:List UInt8):(⟨l.toArray⟩:ByteArray).toList=l:=by rw[ByteArray.toList_eq]
theorem Fq (s:ByteArray)(w:World):Calls Tryz.prog 91 #[.string s] w (KW (kP s.data.toList) w):=by
 go_enter Tryz.func91,Tryz.ntmps91;go_wp2_with fail;refine(Fp w).mono ?_;rintro e w1 ⟨rfl,rfl⟩;have HB:=hid (av.new w 9 (kj.map λ l=>Value.string ⟨l.toArray⟩).toArray);have b1:=aa w (.cells (kj.map λ l=>Value.string ⟨l.toArray⟩).toArray 9);generalize w.alloc (.cells (kj.map λ l=>Value.string ⟨l.toArray⟩).toArray 9)=W at*;go_wp2_with fail;go_loop [4] (λ u=>∃i:Nat,i<=27/\u=.int .i64 i/\kP s.data.toList=(kj.drop i).contains s.data.toList) (λ u=>27 - (intOf u).toNat);case atStart=>exact⟨0,by omega,rfl,rfl⟩
 case round=>
  obtain⟨i,hi,rfl,V0⟩:=hrel;have tu:=hid V0;clear V0;by_cases hlt:i < 27
  ·obtain⟨x,hx,_,_⟩:=XK hlt;have hcell:=HB.out.cell i;have hx2:(kj.map λ l=>Value.string ⟨l.toArray⟩).toArray[i]?=some (.string ⟨x.toArray⟩):=by simp[hx]
   rw[hx2] at hcell;have Tq:=hid (Yp hx);have e0:=Uf x;have HE0:=hid e0;clear hx hx2 e0;by_cases he:s.data.toList=x
   ·have HE:=hid he;have t2:(x==s.toList)=true:=by rw[ByteArray.toList_eq,he];simp
    clear he;go_wp2_with fail;go_ret;refine⟨dv ?_,b1⟩;rw[tu.out,Tq.out,HE.out];simp
   ·have HE:=hid he;have t2:(x==s.toList)=false:=by rw[ByteArray.toList_eq,beq_eq_false_iff_ne];exact λ e=>he e.symm
    clear he;go_wp2_with fail;go_round
    case rel=>
     refine⟨i+1,by omega,by go_num,?_⟩;rw[tu.out,Tq.out,contains_cons];have:(s.data.toList==x)=false:=by simpa using HE.out
     rw[this];rfl
    case measure=>exact Zcs
  ·obtain rfl:i=27:=by omega
   go_wp2_with fail;go_ret;refine⟨dv ?_,b1⟩;rw[tu.out,drop_eq_nil_of_le (Nat.le_of_eq BS)];rfl
def BB (s:ByteArray)(at_:Nat)(w:World)(r:Except Nat (Wd×List UInt8))(e:Ending)(w':World):Prop:=
 match r with
 | .ok (d,rest)=>e=.returned (.tuple #[.agg #[.int .u8 d.k,.string ⟨d.s.toArray⟩,.int .i64 d.n,.int .i64 at_],.int .i64 (s.size - rest.length:Nat),.int .i64 0])/\Below w.heap.size w w'
 | .error x=>e=.returned (.tuple #[.agg #[.int .u8 0,.string ⟨#[]⟩,.int .i64 0,.int .i64 0],.int .i64 0,.int .i64 x])/\Below w.heap.size w w'
variable{B q:Nat}
theorem yj(h:Below B w w') (hq:B<=q)(a b c d:Value):Below B w ((((w'.setCell ⟨q,0,none⟩ a).setCell ⟨q,1,none⟩ b).setCell ⟨q,2,none⟩ c).setCell ⟨q,3,none⟩ d):=
 (((h.setCell (p:=⟨q,0,none⟩) hq a).setCell (p:=⟨q,1,none⟩) hq b).setCell (p:=⟨q,2,none⟩) hq c).setCell (p:=⟨q,3,none⟩) hq d
theorem zgz.Kb0(h:p:=by
 have hsz:(w.alloc (.cells #[.int .u8 0,.string ⟨#[]⟩,.int .i64 0,.int .i64 0] 81)).heap.size=w.heap.size+1:=by simp
 generalize w.alloc (.cells #[.int .u8 0,.string ⟨#[]⟩,.int .i64 0,.int .i64 0] 81)=W at*;have dS:=hid hsz;clear hsz;go_loop [8] (λ u=>∃k:Nat,at_<=k/\k<=s.size/\u=.int .i64 k/\eA cq s.data.toList at_=eA cq s.data.toList k) (λ u=>s.size - (intOf u).toNat);case atStart=>exact⟨at_,Nat.le_refl _,by omega,rfl,rfl⟩
 case round=>
  obtain⟨k,BR,hk2,rfl,hf⟩:=hrel;have HF:=hid hf;clear hf;by_cases hlt:k < s.size
  ·have HB:=hid (byte_at s k hlt);cases hl:bH s[k]
   ·have HL:=hid hl;cases hd:aL s[k]
    ·have HD:=hid hd;have AG:=hid (show eA cq s.data.toList at_=k by rw[HF.out];exact BP HB.out (by simp[cq,hl,hd]));clear hl hd;by_cases h32:k - at_<=32
     ·have n1:=decide_eq_false (show¬(32:Int)<(k:Int) - at_ by omega);go_wp2_with (first
       |(go_at_call 92;refine(fF s[k] _).mono ?_;rintro e w' ⟨rfl,rfl⟩;rw[HL.out])
       |(go_at_call 93;refine(gU s[k] _).mono ?_;rintro e w' ⟨rfl,rfl⟩;rw[HD.out]))
      exact Za3
     ·have n1:=decide_eq_true (show(32:Int)<(k:Int) - at_ by omega);obtain⟨z0,z1,z2,z3,y0,y1,y2,y3⟩:=aO HZ.out;go_wp2_with (first
       |(go_at_call 92;refine(fF s[k] _).mono ?_;rintro e w' ⟨rfl,rfl⟩;rw[HL.out])
       |(go_at_call 93;refine(gU s[k] _).mono ?_;rintro e w' ⟨rfl,rfl⟩;rw[HD.out]))
      exact ZcQ
    ·have HD:=hid hd;have AG:=hid (show eA cq s.data.toList at_=eA cq s.data.toList (k+1) by rw[HF.out];exact qR HB.out (by simp[cq,hl,hd]));clear hl hd;go_wp2_with (first
      |(go_at_call 92;refine(fF s[k] _).mono ?_;rintro e w' ⟨rfl,rfl⟩;rw[HL.out])
      |(go_at_call 93;refine(gU s[k] _).mono ?_;rintro e w' ⟨rfl,rfl⟩;rw[HD.out]))
     exact Zd9
   ·have HL:=hid hl;have AG:=hid (show eA cq s.data.toList at_=eA cq s.data.toList (k+1) by rw[HF.out];exact qR HB.out (by simp[cq,hl]));clear hl;go_wp2_with (go_at_call 92;refine(fF s[k] _).mono ?_;rintro e w' ⟨rfl,rfl⟩;rw[HL.out]);exact Zd9
  ·have AG:=hid (show eA cq s.data.toList at_=k by rw[HF.out];exact xD Tao);by_cases h32:k - at_<=32
   ·have n1:=decide_eq_false (show¬(32:Int)<(k:Int) - at_ by omega);go_wp2_with fail;exact Za3
   ·have n1:=decide_eq_true (show(32:Int)<(k:Int) - at_ by omega);obtain⟨z0,z1,z2,z3,y0,y1,y2,y3⟩:=aO HZ.out;go_wp2_with fail;exact ZcQ):p:=h
theorem Yv (s:ByteArray)(at_:Nat)(w:World)(ha:at_ < s.size)(hc:bH s[at_]=true)(hs:s.size<=4294967280):
  Calls Tryz.prog 125 #[.string s,.int .i64 at_] w (BB s at_ w (dG (s.data.toList.drop at_))):=by
 have hd:=drop_at (byte_at s at_ ha);have dR:dG (s.data.toList.drop at_)=if eA cq s.data.toList at_ - at_<=32 then .ok (⟨1,((s.data.toList.drop at_).takeWhile cq).map kN,0⟩,(s.data.toList.drop at_).dropWhile cq)else .error 2:=by rw[QP,hd];simp only[dG,if_pos hc]
 generalize dG (s.data.toList.drop at_)=R at*;have lV:=hid dR;have HC:=hid hc;have HLEN:=hid (show s.data.toList.length=s.size by simp);clear dR hd hc;go_enter Tryz.func125,Tryz.ntmps125;go_wp2_with (go_at_call 92;refine(fF s[at_] _).mono ?_;rintro e w' ⟨rfl,rfl⟩;rw[HC.out]);open zgz in exact Zej
theorem Bb (s:ByteArray)(k:Nat)(hk:k < s.size):s.extract k (k+1)=⟨#[s[k]]⟩:=by
 have h:=om s k (k+1)
 have h2:(s.data.toList.take (k+1)).drop k=[s[k]]:=by
  rw[drop_take,drop_at (byte_at s k hk)];have:k+1 - k=1:=by omega
  rw[this];rfl
 rw[h2] at h;apply Go.WideShapes.bytes_inj;rw[h]
theorem ox (s:ByteArray)(a b:Nat)(x y:Int)(hx:x=a)(hy:y=b)(hab:a<=b)(hb:b<=s.size)(w:World):
  (Instr.slice 9 (.string s) (some (.int .i64 x)) (some (.int .i64 y)) none).run Tryz.prog w=.ok (.string (s.extract a b)) w:=by subst hx hy;have:=run_slice_string (P:=Tryz.prog) (w:=w) 9 s .i64 .i64 a b Tryz.underlying9 Taa Taa Taa;exact Zdt
theorem zfh.Kbs(h:p:=by clear CJ;exact ZbI):p:=h
theorem zie.KcL(h:p:=by
 have ki:=ox s k (k+1) (k:Int) ((k:Int)+1) rfl Taa Taa Taa W;rw[Bb s k hks] at ki;clear hq;go_wp2_with fail;go_round;case rel=>refine⟨k+1,acc++ [s[k]],by omega,by simp;omega,by go_num,by rw[po],?_⟩;rw[HM.out,drop_at HB.out,wJ HQ.out]
 case measure=>exact Zcs):p:=h
theorem zgB.Kb0(h:p:=by
 generalize w.alloc (.cells #[.int .u8 0,.string ⟨#[]⟩,.int .i64 0,.int .i64 0] 81)=W at*;obtain⟨z0,z1,z2,z3,y0,y1,y2,y3⟩:=aO HZ.out;clear t0;go_loop [8,11] (λ u x=>∃(k:Nat) (acc:List UInt8),k<=s.size/\acc.length<=k/\u=.int .i64 k/\x=.string ⟨acc.toArray⟩/\more [] (fw (s.data.toList.drop (at_+1)))=more acc (fw (s.data.toList.drop k))) (λ u _=>s.size - (intOf u).toNat);case atStart=>exact⟨at_+1,[],ha,by simp,by go_num,rfl,rfl⟩
 case round=>
  obtain⟨k,acc,hk,pP,rfl,rfl,hm⟩:=hrel;have HM:=hid hm;clear hm;by_cases hks:k < s.size
  ·have HB:=hid (byte_at s k hks);by_cases hq:s[k]=39
   ·have HQ:=hid hq;have t1:(((s[k].toNat:Nat):Int)==39)=true:=by rw[hq];rfl
    clear hq;by_cases BR:k+1 < s.size
    ·have pQ:=hid (byte_at s (k+1) BR);have n2:=decide_eq_false (show¬((s.size:Int)<=(k:Int)+1) by omega);by_cases CJ:s[k+1]=39
     ·have qF:=hid CJ;have t2:(((s[k+1].toNat:Nat):Int)==39)=true:=by rw[CJ];rfl
      have t3:(((s[k+1].toNat:Nat):Int) != 39)=false:=by rw[CJ];rfl
      have hx:=Bb s (k+1) BR;have ki:=ox s (k+1) (k+1+1) ((k:Int)+1) ((k:Int)+1+1) Taa Taa Taa Taa W;rw[hx,CJ] at ki;clear CJ hx;go_wp2_with fail;go_round;case rel=>refine⟨k+2,acc++ [39],by omega,by simp;omega,by go_num,by rw[po],?_⟩;rw[HM.out,drop_at HB.out,drop_at pQ.out,HQ.out,qF.out,CI]
      case measure=>exact Zcs
     ·open zfh in exact ZcK
    ·have n2:=decide_eq_true (show((s.size:Int)<=(k:Int)+1) by omega);have Oc:=hid (show(s.data.toList.drop (k+1)).head?≠some 39 by rw[drop_eq_nil_of_le Tao];simp);exact ZbI
   ·open zie in exact ZgQ
  ·have Od:=hid (show s.data.toList.drop k=[] by rw[drop_eq_nil_of_le Tao]);go_wp2_with fail;refine bodyPost_ret (v:=.tuple #[.agg #[.int .u8 0,.string ⟨#[]⟩,.int .i64 0,.int .i64 0],.int .i64 0,.int .i64 30]) Zb5 rfl ?_
   ·rw[lV.out,HM.out,Od.out];exact⟨rfl,yj bb (Nat.le_refl _) _ _ _ _⟩):p:=h
theorem zf9.KbQ(h:p:=by open zgB in exact Zej):p:=h
theorem Yw (s:ByteArray)(at_:Nat)(w:World)(ha:at_ < s.size)(hl:bH s[at_]=false)(hdg:aL s[at_]=false)(hq:s[at_]=39)(hs:s.size<=4294967280):
  Calls Tryz.prog 125 #[.string s,.int .i64 at_] w (BB s at_ w (dG (s.data.toList.drop at_))):=by
 have hd:=drop_at (byte_at s at_ ha)
 have dR:dG (s.data.toList.drop at_)=match more [] (fw (s.data.toList.drop (at_+1)))with
   | some (t,rest)=> .ok (⟨3,t,0⟩,rest)
   | none=> .error 30:=by
  rw[KU,hd];simp only[dG,hl,hdg,if_pos hq];rfl
 generalize dG (s.data.toList.drop at_)=R at*;have t0:(((s[at_].toNat:Nat):Int)==39)=true:=by rw[hq];rfl
 open zf9 in exact Zd0
end Go.Proofs.YtehhdlgjfdnafaaGreatDoor
