/- Parts of the proof. -/
import Derived.Test.YtfmbcoeallmnnaaGreatDoorC23
namespace Go.Proofs.YtfmbcoeallmnnaaGreatDoor.R
open Go.Lib (hid)
open Go.ChangeShapes Go.WideShapes Go.ChangeAt Go.RowKit
set_option linter.unusedVariables false
set_option linter.unusedSimpArgs false
theorem Kh:∀(l:List UInt8) (v:Nat),v*10 ^ l.length≤l.foldl (fun v c=>v*10+(c.toNat - 48)) v
 | [],v=>by simp
 | c::l,v=>by
   have:=Kh l (v*10+(c.toNat - 48));simp only[List.foldl_cons,List.length_cons,Nat.pow_succ];have h:v*10*10 ^ l.length≤(v*10+(c.toNat - 48))*10 ^ l.length:=Nat.mul_le_mul_right _ (by omega);have e:v*(10 ^ l.length*10)=v*10*10 ^ l.length:=by rw[Nat.mul_comm (10 ^ l.length),Nat.mul_assoc]
   rw[e];omega
theorem Ki {l:List UInt8}(hd:∀c∈l,bz c=true)(hl:19 < l.length)(h0:l.head?≠some 48):9223372036854775807 < kh l:=by
 match l with
 | []=>simp at hl
 | c::r=>
   have hc:=hd c List.mem_cons_self;simp[bz,UInt8.le_iff_toNat_le] at hc;have U0:c.toNat≠48:=fun e=>h0 (by rw[show c=48 from UInt8.toNat_inj.1 e];rfl)
   have h1:=Kh r (0*10+(c.toNat - 48));have h2:10 ^ 19≤10 ^ r.length:=Nat.pow_le_pow_right (by decide) (by simp at hl;omega);have h3:1*10 ^ r.length≤(0*10+(c.toNat - 48))*10 ^ r.length:=Nat.mul_le_mul_right _ (by omega);show _ < List.foldl _ _ _;rw[List.foldl_cons];have h4:(10:Nat)^ 19=10000000000000000000:=by decide
   omega
theorem Kj {l:List UInt8} {i:Nat} {c:UInt8}(h:l[i]?=some c):kh (l.take (i+1))=kh (l.take i)*10+(c.toNat - 48):=by rw[List.take_add_one,h];exact Kb _ _
theorem Dq (l:List UInt8)(i:Nat):kh (l.take i)≤kh l:=by
 conv=>rhs;rw[← List.take_append_drop i l]
 unfold kh;rw[List.foldl_append];exact Kc _ _
theorem Kk {c:UInt8}(h:bz c=true):48≤c.toNat∧c.toNat≤57:=by simpa [bz,UInt8.le_iff_toNat_le] using h
def jt (q:List UInt8)(w:World)(e:Ending)(w':World):Prop:=(if rb q=true then e=.returned (.tuple #[.int .i64 (kh q),.bool true])else e=.returned (.tuple #[.int .i64 0,.bool false]))∧w=w'
theorem Dr {q:List UInt8} {w:World} {e:Ending}(h:rb q=false)(he:e=.returned (.tuple #[.int .i64 0,.bool false])):jt q w e w:=by unfold jt;rw[h,if_neg (by decide)];exact⟨he,rfl⟩
theorem Nn {q:List UInt8} {w:World} {e:Ending}(h:rb q=true)(he:e=.returned (.tuple #[.int .i64 (kh q),.bool true])):jt q w e w:=by unfold jt;rw[if_pos h];exact⟨he,rfl⟩
set_option maxHeartbeats 4000000
set_option maxRecDepth 100000
theorem tI (s:ByteArray)(w:World)(hd:∀c∈s.data.toList,bz c=true)(h0:0 < s.size)(hs:s.size≤4294967280):Calls Tryz.prog 126 #[.string s] w (jt s.data.toList w):=by
 have HLEN:=hid (show s.data.toList.length=s.size by simp);have Zx:=hid hd;have Pa:s.data.toList.head?=some s[0]:=by rw[List.head?_eq_getElem?];exact eM s 0 h0
 have HH:=hid Pa;clear hd Pa;by_cases hz:1 < s.size∧s[0]=48
 ·have t1:(((s[0].toNat:Nat):Int)==48)=true:=by rw[hz.2];rfl
  have HB:=hid (show rb s.data.toList=false by
   have:¬s.data.toList.length≤1:=by rw[HLEN.out];omega
   simp only[rb,HH.out,hz.2,this]
   rfl)
  have hz1:=hz.1;clear hz;go_enter Tryz.func126,Tryz.ntmps126;go_wp2_with fail;go_ret2;exact Dr HB.out rfl
 ·by_cases Un:19 < s.size
  ·have t1:(((s[0].toNat:Nat):Int)==48)=false:=by rw[beq_eq_false_iff_ne];intro h;exact hz ⟨by omega,UInt8.toNat_inj.1 (by simpa using(by omega:s[0].toNat=48))⟩
   have HB:=hid (show rb s.data.toList=false by
    have h1:=Ki Zx.out (by rw[HLEN.out];exact Un) (by rw[HH.out];intro e;injection e with e;exact hz ⟨by omega,e⟩)
    have h2:¬kh s.data.toList≤9223372036854775807:=by omega
    simp only[rb,h2]
    simp)
   clear hz;go_enter Tryz.func126,Tryz.ntmps126;go_wp2_with fail;go_ret2;exact Dr HB.out rfl
  ·have HF:=hid (show(decide (s.data.toList.length≤1)|| !(s.data.toList.head?==some 48))=true by
    rw[HLEN.out,HH.out]
    by_cases h1:s.size≤1
    ·simp[h1]
    ·have:s[0]≠48:=fun e=>hz ⟨by omega,e⟩
     simp[h1,this])
   have hz2:¬(1 < s.size)∨(1 < s.size∧(((s[0].toNat:Nat):Int)==48)=false):=by
    by_cases h1:1 < s.size
    ·refine .inr ⟨h1,?_⟩;rw[beq_eq_false_iff_ne];intro h;exact hz ⟨h1,UInt8.toNat_inj.1 (by simpa using(by omega:s[0].toNat=48))⟩
    ·exact .inl h1
   clear hz;rcases hz2 with hz2 |⟨hz1,hz2⟩;all_goals
    go_enter Tryz.func126,Tryz.ntmps126;go_wp2_with fail;go_loop [4,5] (fun v u=>∃i:Nat,i≤s.size∧u=.int .i64 i∧v=.int .i64 (kh (s.data.toList.take i):Nat)∧kh (s.data.toList.take i)≤9223372036854775807) (fun _ u=>s.size - (intOf u).toNat);case atStart=>exact⟨0,by omega,rfl,rfl,by simp[kh]⟩
    case round=>
     obtain⟨i,hi,rfl,rfl,hv⟩:=hrel;by_cases hlt:i < s.size
     ·have HB:=hid (eM s i hlt);obtain⟨d1,d2⟩:=Kk (Zx.out s[i] (List.mem_of_getElem? HB.out));have HV:=hid (Kj HB.out);have CW:=hid (Dq s.data.toList (i+1));generalize lL:kh (s.data.toList.take i)=v at*;have U1:=hid lL;clear lL;by_cases tJ:v*10+(s[i].toNat - 48)≤9223372036854775807
      ·have n1:=decide_eq_false (show¬((9223372036854775807 - ((s[i].toNat:Int) - 48))/ 10 <(v:Int)) by omega);go_wp2_with fail;go_round;case rel=>
        refine⟨i+1,hlt,by go_num,?_,by rw[HV.out];exact tJ⟩;rw[HV.out];have:((v*10+(s[i].toNat - 48):Nat):Int)=(v:Int)*10+((s[i].toNat:Int) - 48):=by omega
        rw[this]
       case measure=>simp[intOf];omega
      ·have n1:=decide_eq_true (show((9223372036854775807 - ((s[i].toNat:Int) - 48))/ 10 <(v:Int)) by omega);go_wp2_with fail;go_ret2;refine Dr ?_ rfl;have h1:=CW.out;rw[HV.out] at h1;have h2:¬kh s.data.toList≤9223372036854775807:=by omega
       simp only[rb,h2];simp
     ·go_wp2_with fail;go_ret2;have e1:s.data.toList.take i=s.data.toList:=List.take_of_length_le (by rw[HLEN.out];omega);rw[e1] at hv ⊢;exact Nn (by rw[rb,HF.out];simpa using hv) rfl
def tV (s:ByteArray)(at_:Nat)(w:World)(r:Except Nat (Wd×List UInt8))(e:Ending)(w':World):Prop:=
 match r with
 | .ok (d,rest)=>e=.returned (.tuple #[.agg #[.int .u8 d.k,.string ⟨d.s.toArray⟩,.int .i64 d.n,.int .i64 at_],.int .i64 (s.size - rest.length:Nat),.int .i64 0])∧Below w.heap.size w w'
 | .error x=>e=.returned (.tuple #[.agg #[.int .u8 0,.string ⟨#[]⟩,.int .i64 0,.int .i64 0],.int .i64 0,.int .i64 x])∧Below w.heap.size w w'
theorem rv {B:Nat} {w w':World}(h:Below B w w') {q:Nat}(hq:B≤q)(a b c d:Value):Below B w ((((w'.setCell ⟨q,0,none⟩ a).setCell ⟨q,1,none⟩ b).setCell ⟨q,2,none⟩ c).setCell ⟨q,3,none⟩ d):=
 (((h.setCell (p:=⟨q,0,none⟩) hq a).setCell (p:=⟨q,1,none⟩) hq b).setCell (p:=⟨q,2,none⟩) hq c).setCell (p:=⟨q,3,none⟩) hq d
theorem Kl (s:ByteArray)(at_:Nat)(w:World)(ha:at_ < s.size)(hc:fx s[at_]=true)(hs:s.size≤4294967280):
  Calls Tryz.prog 103 #[.string s,.int .i64 at_] w (tV s at_ w (gT (s.data.toList.drop at_))):=by
 have hd:=cB (eM s at_ ha);have kA:gT (s.data.toList.drop at_)=if gV eL s.data.toList at_ - at_≤32 then .ok (⟨1,((s.data.toList.drop at_).takeWhile eL).map ra,0⟩,(s.data.toList.drop at_).dropWhile eL)else .error 2:=by rw[Nh,hd];simp only[gT,if_pos hc]
 generalize gT (s.data.toList.drop at_)=R at*;have ou:=hid kA;have HC:=hid hc;have HLEN:=hid (show s.data.toList.length=s.size by simp);clear kA hd hc;go_enter Tryz.func103,Tryz.ntmps103;go_wp2_with (go_at_call 123;refine(dU s[at_] _).mono ?_;rintro e w' ⟨rfl,rfl⟩;rw[HC.out]);have HZ:=hid (ah.new w 116 #[.int .u8 0,.string ⟨#[]⟩,.int .i64 0,.int .i64 0]);have bb:=aa w (.cells #[.int .u8 0,.string ⟨#[]⟩,.int .i64 0,.int .i64 0] 116);have hsz:(w.alloc (.cells #[.int .u8 0,.string ⟨#[]⟩,.int .i64 0,.int .i64 0] 116)).heap.size=w.heap.size+1:=by simp
 generalize w.alloc (.cells #[.int .u8 0,.string ⟨#[]⟩,.int .i64 0,.int .i64 0] 116)=W at*;have Xs:=hid hsz;clear hsz;go_loop [8] (fun u=>∃k:Nat,at_≤k∧k≤s.size∧u=.int .i64 k∧gV eL s.data.toList at_=gV eL s.data.toList k) (fun u=>s.size - (intOf u).toNat);case atStart=>exact⟨at_,Nat.le_refl _,by omega,rfl,rfl⟩
 case round=>
  obtain⟨k,Mu,hk2,rfl,hf⟩:=hrel;have HF:=hid hf;clear hf;by_cases hlt:k < s.size
  ·have HB:=hid (eM s k hlt);cases hl:fx s[k]
   ·have HL:=hid hl;cases hd:bz s[k]
    ·have HD:=hid hd;have pY:=hid (show gV eL s.data.toList at_=k by rw[HF.out];exact EU HB.out (by simp[eL,hl,hd]));clear hl hd;by_cases Uo:k - at_≤32
     ·have n1:=decide_eq_false (show¬(32:Int)<(k:Int) - at_ by omega);go_wp2_with (first
       |(go_at_call 123;refine(dU s[k] _).mono ?_;rintro e w' ⟨rfl,rfl⟩;rw[HL.out])
       |(go_at_call 124;refine(eI s[k] _).mono ?_;rintro e w' ⟨rfl,rfl⟩;rw[HD.out]))
      refine(xN (s.extract at_ k) _ (by rw[ByteArray.size_extract];omega)).mono ?_;rintro e w1 ⟨rfl,b1⟩;have HE:=hid (show(s.extract at_ k).data.toList=(s.data.toList.drop at_).takeWhile eL by rw[← pY.out];exact lF eL s at_);obtain⟨z0,z1,z2,z3,y0,y1,y2,y3⟩:=aZ (HZ.out.later b1);rw[HE.out];go_wp2_with fail;refine bodyPost_ret (v:=.tuple #[.agg #[.int .u8 1,.string ⟨(((s.data.toList.drop at_).takeWhile eL).map ra).toArray⟩,.int .i64 0,.int .i64 at_],.int .i64 k,.int .i64 0]) ?_ rfl ?_
      ·simp[results,Tryz.results103,go_sem,z0,z1,z2,z3]
      ·rw[ou.out,pY.out,if_pos Uo];unfold tV;simp only;rw[ru eL s (by omega),pY.out];exact⟨rfl,rv (bb.trans (b1.mono bb.size)) (Nat.le_refl _) _ _ _ _⟩
     ·have n1:=decide_eq_true (show(32:Int)<(k:Int) - at_ by omega);obtain⟨z0,z1,z2,z3,y0,y1,y2,y3⟩:=aZ HZ.out;go_wp2_with (first
       |(go_at_call 123;refine(dU s[k] _).mono ?_;rintro e w' ⟨rfl,rfl⟩;rw[HL.out])
       |(go_at_call 124;refine(eI s[k] _).mono ?_;rintro e w' ⟨rfl,rfl⟩;rw[HD.out]))
      refine bodyPost_ret (v:=.tuple #[.agg #[.int .u8 0,.string ⟨#[]⟩,.int .i64 0,.int .i64 0],.int .i64 0,.int .i64 2]) ?_ rfl ?_
      ·simp[results,Tryz.results103,go_sem,z0,z1,z2,z3]
      ·rw[ou.out,pY.out,if_neg Uo];exact⟨rfl,rv bb (Nat.le_refl _) _ _ _ _⟩
    ·have HD:=hid hd;have pY:=hid (show gV eL s.data.toList at_=gV eL s.data.toList (k+1) by rw[HF.out];exact vJ HB.out (by simp[eL,hl,hd]));clear hl hd;go_wp2_with (first
      |(go_at_call 123;refine(dU s[k] _).mono ?_;rintro e w' ⟨rfl,rfl⟩;rw[HL.out])
      |(go_at_call 124;refine(eI s[k] _).mono ?_;rintro e w' ⟨rfl,rfl⟩;rw[HD.out]))
     go_round;case rel=>exact⟨k+1,by omega,hlt,by go_num,pY.out⟩
     case measure=>simp[intOf];omega
   ·have HL:=hid hl;have pY:=hid (show gV eL s.data.toList at_=gV eL s.data.toList (k+1) by rw[HF.out];exact vJ HB.out (by simp[eL,hl]));clear hl;go_wp2_with (go_at_call 123;refine(dU s[k] _).mono ?_;rintro e w' ⟨rfl,rfl⟩;rw[HL.out]);go_round;case rel=>exact⟨k+1,by omega,hlt,by go_num,pY.out⟩
    case measure=>simp[intOf];omega
  ·have pY:=hid (show gV eL s.data.toList at_=k by rw[HF.out];exact Bd (by rw[HLEN.out];omega));by_cases Uo:k - at_≤32
   ·have n1:=decide_eq_false (show¬(32:Int)<(k:Int) - at_ by omega);go_wp2_with fail;refine(xN (s.extract at_ k) _ (by rw[ByteArray.size_extract];omega)).mono ?_;rintro e w1 ⟨rfl,b1⟩;have HE:=hid (show(s.extract at_ k).data.toList=(s.data.toList.drop at_).takeWhile eL by rw[← pY.out];exact lF eL s at_);obtain⟨z0,z1,z2,z3,y0,y1,y2,y3⟩:=aZ (HZ.out.later b1);rw[HE.out];go_wp2_with fail;refine bodyPost_ret (v:=.tuple #[.agg #[.int .u8 1,.string ⟨(((s.data.toList.drop at_).takeWhile eL).map ra).toArray⟩,.int .i64 0,.int .i64 at_],.int .i64 k,.int .i64 0]) ?_ rfl ?_
    ·simp[results,Tryz.results103,go_sem,z0,z1,z2,z3]
    ·rw[ou.out,pY.out,if_pos Uo];unfold tV;simp only;rw[ru eL s (by omega),pY.out];exact⟨rfl,rv (bb.trans (b1.mono bb.size)) (Nat.le_refl _) _ _ _ _⟩
   ·have n1:=decide_eq_true (show(32:Int)<(k:Int) - at_ by omega);obtain⟨z0,z1,z2,z3,y0,y1,y2,y3⟩:=aZ HZ.out;go_wp2_with fail;refine bodyPost_ret (v:=.tuple #[.agg #[.int .u8 0,.string ⟨#[]⟩,.int .i64 0,.int .i64 0],.int .i64 0,.int .i64 2]) ?_ rfl ?_
    ·simp[results,Tryz.results103,go_sem,z0,z1,z2,z3]
    ·rw[ou.out,pY.out,if_neg Uo];exact⟨rfl,rv bb (Nat.le_refl _) _ _ _ _⟩
theorem one_num (s:ByteArray)(at_:Nat)(w:World)(ha:at_ < s.size)(hl:fx s[at_]=false)(hc:bz s[at_]=true)(hs:s.size≤4294967280):
  Calls Tryz.prog 103 #[.string s,.int .i64 at_] w (tV s at_ w (gT (s.data.toList.drop at_))):=by
 have hd:=cB (eM s at_ ha);have kA:gT (s.data.toList.drop at_)=if rb ((s.data.toList.drop at_).takeWhile bz)&& !(((s.data.toList.drop at_).dropWhile bz).head?.any fx)then .ok (⟨2,[],kh ((s.data.toList.drop at_).takeWhile bz)⟩,(s.data.toList.drop at_).dropWhile bz)else .error 30:=by rw[hd];simp only[gT,hl,if_pos hc];rfl
 have FK:0 <((s.data.toList.drop at_).takeWhile bz).length:=by rw[hd,List.takeWhile_cons,if_pos hc];simp
 generalize gT (s.data.toList.drop at_)=R at*;have ou:=hid kA;have Up:=hid FK;have HC:=hid hc;have Uq:=hid hl;have HLEN:=hid (show s.data.toList.length=s.size by simp);clear kA hd hc hl FK;go_enter Tryz.func103,Tryz.ntmps103;go_wp2_with (first
  |(go_at_call 123;refine(dU s[at_] _).mono ?_;rintro e w' ⟨rfl,rfl⟩;rw[Uq.out])
  |(go_at_call 124;refine(eI s[at_] _).mono ?_;rintro e w' ⟨rfl,rfl⟩;rw[HC.out]))
 have HZ:=hid (ah.new w 116 #[.int .u8 0,.string ⟨#[]⟩,.int .i64 0,.int .i64 0]);have bb:=aa w (.cells #[.int .u8 0,.string ⟨#[]⟩,.int .i64 0,.int .i64 0] 116);generalize w.alloc (.cells #[.int .u8 0,.string ⟨#[]⟩,.int .i64 0,.int .i64 0] 116)=W at*;go_loop [8] (fun u=>∃k:Nat,at_≤k∧k≤s.size∧u=.int .i64 k∧gV bz s.data.toList at_=gV bz s.data.toList k) (fun u=>s.size - (intOf u).toNat);case atStart=>exact⟨at_,Nat.le_refl _,by omega,rfl,rfl⟩
 case round=>
  obtain⟨k,Mu,hk2,rfl,hf⟩:=hrel;have HF:=hid hf;clear hf;by_cases hlt:k < s.size
  ·have HB:=hid (eM s k hlt);cases hd:bz s[k]
   ·have HD:=hid hd;have pY:=hid (show gV bz s.data.toList at_=k by rw[HF.out];exact EU HB.out hd);clear hd;have HE:=hid (show(s.extract at_ k).data.toList=(s.data.toList.drop at_).takeWhile bz by rw[← pY.out];exact lF bz s at_);have hx1:0 <(s.extract at_ k).size:=by have h1:=Up.out;rw[← HE.out] at h1;simpa only[ByteArray.size_data,Array.length_toList] using h1
    have hx2:(s.extract at_ k).size≤4294967280:=by rw[ByteArray.size_extract];omega
    have HN:=hid (tI (s.extract at_ k) W (by rw[HE.out];exact EX _) hx1 hx2);have Fa:=hid (show(s.data.toList.drop at_).dropWhile bz=s.data.toList.drop k by rw[← vK,pY.out]);clear hx1 hx2;obtain⟨z0,z1,z2,z3,y0,y1,y2,y3⟩:=aZ HZ.out;cases zO:rb ((s.data.toList.drop at_).takeWhile bz)
    ·have wZ:=hid zO;clear zO;go_wp2_with (go_at_call 124;refine(eI s[k] _).mono ?_;rintro e w' ⟨rfl,rfl⟩;rw[HD.out]);refine HN.out.mono ?_;unfold jt;rw[HE.out,wZ.out];rintro e w1 ⟨he,rfl⟩;rw[if_neg (by decide)] at he;subst he;go_wp2_with fail;refine bodyPost_ret (v:=.tuple #[.agg #[.int .u8 0,.string ⟨#[]⟩,.int .i64 0,.int .i64 0],.int .i64 0,.int .i64 30]) ?_ rfl ?_
     ·simp[results,Tryz.results103,go_sem,z0,z1,z2,z3]
     ·rw[ou.out,wZ.out];exact⟨rfl,rv bb (Nat.le_refl _) _ _ _ _⟩
    ·have wZ:=hid zO;clear zO;cases Sx:fx s[k]
     ·have Xt:=hid Sx;have HR:=hid (show R=.ok (⟨2,[],kh ((s.data.toList.drop at_).takeWhile bz)⟩,(s.data.toList.drop at_).dropWhile bz) by
       rw[ou.out,wZ.out,Fa.out,cB HB.out]
       simp[Sx])
      clear Sx;go_wp2_with (go_at_call 124;refine(eI s[k] _).mono ?_;rintro e w' ⟨rfl,rfl⟩;rw[HD.out]);refine HN.out.mono ?_;unfold jt;rw[HE.out,wZ.out];rintro e w1 ⟨he,rfl⟩;rw[if_pos rfl] at he;subst he;go_wp2_with (go_at_call 123;refine(dU s[k] _).mono ?_;rintro e w' ⟨rfl,rfl⟩;rw[Xt.out]);refine bodyPost_ret (v:=.tuple #[.agg #[.int .u8 2,.string ⟨#[]⟩,.int .i64 (kh ((s.data.toList.drop at_).takeWhile bz)),.int .i64 at_],.int .i64 k,.int .i64 0]) ?_ rfl ?_
      ·simp[results,Tryz.results103,go_sem,z0,z1,z2,z3]
      ·rw[HR.out];unfold tV;simp only;rw[ru bz s (by omega),pY.out];exact⟨rfl,rv bb (Nat.le_refl _) _ _ _ _⟩
     ·have Xt:=hid Sx;have HR:=hid (show R=.error 30 by
       rw[ou.out,wZ.out,Fa.out,cB HB.out]
       simp[Sx])
      clear Sx;go_wp2_with (go_at_call 124;refine(eI s[k] _).mono ?_;rintro e w' ⟨rfl,rfl⟩;rw[HD.out]);refine HN.out.mono ?_;unfold jt;rw[HE.out,wZ.out];rintro e w1 ⟨he,rfl⟩;rw[if_pos rfl] at he;subst he;go_wp2_with (go_at_call 123;refine(dU s[k] _).mono ?_;rintro e w' ⟨rfl,rfl⟩;rw[Xt.out]);refine bodyPost_ret (v:=.tuple #[.agg #[.int .u8 0,.string ⟨#[]⟩,.int .i64 0,.int .i64 0],.int .i64 0,.int .i64 30]) ?_ rfl ?_
      ·simp[results,Tryz.results103,go_sem,z0,z1,z2,z3]
      ·rw[HR.out];exact⟨rfl,rv bb (Nat.le_refl _) _ _ _ _⟩
   ·have HD:=hid hd;have pY:=hid (show gV bz s.data.toList at_=gV bz s.data.toList (k+1) by rw[HF.out];exact vJ HB.out hd);clear hd;go_wp2_with (go_at_call 124;refine(eI s[k] _).mono ?_;rintro e w' ⟨rfl,rfl⟩;rw[HD.out]);go_round;case rel=>exact⟨k+1,by omega,hlt,by go_num,pY.out⟩
    case measure=>simp[intOf];omega
  ·have pY:=hid (show gV bz s.data.toList at_=k by rw[HF.out];exact Bd (by rw[HLEN.out];omega));have HE:=hid (show(s.extract at_ k).data.toList=(s.data.toList.drop at_).takeWhile bz by rw[← pY.out];exact lF bz s at_);have hx1:0 <(s.extract at_ k).size:=by have h1:=Up.out;rw[← HE.out] at h1;simpa only[ByteArray.size_data,Array.length_toList] using h1
   have hx2:(s.extract at_ k).size≤4294967280:=by rw[ByteArray.size_extract];omega
   have HN:=hid (tI (s.extract at_ k) W (by rw[HE.out];exact EX _) hx1 hx2);have Fa:=hid (show(s.data.toList.drop at_).dropWhile bz=s.data.toList.drop k by rw[← vK,pY.out]);clear hx1 hx2;obtain⟨z0,z1,z2,z3,y0,y1,y2,y3⟩:=aZ HZ.out;cases zO:rb ((s.data.toList.drop at_).takeWhile bz)
   ·have wZ:=hid zO;clear zO;go_wp2_with fail;refine HN.out.mono ?_;unfold jt;rw[HE.out,wZ.out];rintro e w1 ⟨he,rfl⟩;rw[if_neg (by decide)] at he;subst he;go_wp2_with fail;refine bodyPost_ret (v:=.tuple #[.agg #[.int .u8 0,.string ⟨#[]⟩,.int .i64 0,.int .i64 0],.int .i64 0,.int .i64 30]) ?_ rfl ?_
    ·simp[results,Tryz.results103,go_sem,z0,z1,z2,z3]
    ·rw[ou.out,wZ.out];exact⟨rfl,rv bb (Nat.le_refl _) _ _ _ _⟩
   ·have wZ:=hid zO;clear zO;have HR:=hid (show R=.ok (⟨2,[],kh ((s.data.toList.drop at_).takeWhile bz)⟩,(s.data.toList.drop at_).dropWhile bz) by
     rw[ou.out,wZ.out,Fa.out,List.drop_eq_nil_of_le (by rw[HLEN.out];omega)]
     rfl)
    go_wp2_with fail;refine HN.out.mono ?_;unfold jt;rw[HE.out,wZ.out];rintro e w1 ⟨he,rfl⟩;rw[if_pos rfl] at he;subst he;go_wp2_with fail;refine bodyPost_ret (v:=.tuple #[.agg #[.int .u8 2,.string ⟨#[]⟩,.int .i64 (kh ((s.data.toList.drop at_).takeWhile bz)),.int .i64 at_],.int .i64 k,.int .i64 0]) ?_ rfl ?_
    ·simp[results,Tryz.results103,go_sem,z0,z1,z2,z3]
    ·rw[HR.out];unfold tV;simp only;rw[ru bz s (by omega),pY.out];exact⟨rfl,rv bb (Nat.le_refl _) _ _ _ _⟩
theorem tK (s:ByteArray)(k:Nat)(hk:k < s.size):s.extract k (k+1)=⟨#[s[k]]⟩:=by
 have h:=mX s k (k+1);have h2:(s.data.toList.take (k+1)).drop k=[s[k]]:=by
  rw[List.drop_take,cB (eM s k hk)];have:k+1 - k=1:=by omega
  rw[this];rfl
 rw[h2] at h;apply Go.WideShapes.bytes_inj;rw[h]
theorem km (s:ByteArray)(a b:Nat)(x y:Int)(hx:x=a)(hy:y=b)(hab:a≤b)(hb:b≤s.size)(w:World):
  (Instr.slice 9 (.string s) (some (.int .i64 x)) (some (.int .i64 y)) none).run Tryz.prog w=.ok (.string (s.extract a b)) w:=by
 subst hx hy;have:=run_slice_string (P:=Tryz.prog) (w:=w) 9 s .i64 .i64 a b Tryz.underlying9 (by omega) (by omega) (by omega);simpa using this
theorem Km (s:ByteArray)(at_:Nat)(w:World)(ha:at_ < s.size)(hl:fx s[at_]=false)(QV:bz s[at_]=false)(hq:s[at_]=39)(hs:s.size≤4294967280):
  Calls Tryz.prog 103 #[.string s,.int .i64 at_] w (tV s at_ w (gT (s.data.toList.drop at_))):=by
 have hd:=cB (eM s at_ ha);have kA:gT (s.data.toList.drop at_)=match more [] (fy (s.data.toList.drop (at_+1)))with
   | some (t,rest)=> .ok (⟨3,t,0⟩,rest)
   | none=> .error 30:=by
  rw[Kd,hd];simp only[gT,hl,QV,if_pos hq];rfl
 generalize gT (s.data.toList.drop at_)=R at*;have t0:(((s[at_].toNat:Nat):Int)==39)=true:=by rw[hq];rfl
 have ou:=hid kA;have Uq:=hid hl;have Ur:=hid QV;have HLEN:=hid (show s.data.toList.length=s.size by simp);clear kA hd hl QV hq;go_enter Tryz.func103,Tryz.ntmps103;go_wp2_with (first
  |(go_at_call 123;refine(dU s[at_] _).mono ?_;rintro e w' ⟨rfl,rfl⟩;rw[Uq.out])
  |(go_at_call 124;refine(eI s[at_] _).mono ?_;rintro e w' ⟨rfl,rfl⟩;rw[Ur.out]))
 have HZ:=hid (ah.new w 116 #[.int .u8 0,.string ⟨#[]⟩,.int .i64 0,.int .i64 0]);have bb:=aa w (.cells #[.int .u8 0,.string ⟨#[]⟩,.int .i64 0,.int .i64 0] 116);generalize w.alloc (.cells #[.int .u8 0,.string ⟨#[]⟩,.int .i64 0,.int .i64 0] 116)=W at*;obtain⟨z0,z1,z2,z3,y0,y1,y2,y3⟩:=aZ HZ.out;clear t0;go_loop [8,11] (fun u x=>∃(k:Nat) (acc:List UInt8),k≤s.size∧acc.length≤k∧u=.int .i64 k∧x=.string ⟨acc.toArray⟩∧more [] (fy (s.data.toList.drop (at_+1)))=more acc (fy (s.data.toList.drop k))) (fun u _=>s.size - (intOf u).toNat);case atStart=>exact⟨at_+1,[],ha,by simp,by go_num,rfl,rfl⟩
 case round=>
  obtain⟨k,acc,hk,sB,rfl,rfl,hm⟩:=hrel;have HM:=hid hm;clear hm;by_cases Ot:k < s.size
  ·have HB:=hid (eM s k Ot);by_cases hq:s[k]=39
   ·have HQ:=hid hq;have t1:(((s[k].toNat:Nat):Int)==39)=true:=by rw[hq];rfl
    clear hq;by_cases Mu:k+1 < s.size
    ·have Us:=hid (eM s (k+1) Mu);have n2:=decide_eq_false (show¬((s.size:Int)≤(k:Int)+1) by omega);by_cases Np:s[k+1]=39
     ·have Co:=hid Np;have t2:(((s[k+1].toNat:Nat):Int)==39)=true:=by rw[Np];rfl
      have t3:(((s[k+1].toNat:Nat):Int) != 39)=false:=by rw[Np];rfl
      have hx:=tK s (k+1) Mu;have jV:=km s (k+1) (k+1+1) ((k:Int)+1) ((k:Int)+1+1) (by omega) (by omega) (by omega) (by omega) W;rw[hx,Np] at jV;clear Np hx;go_wp2_with fail;go_round;case rel=>refine⟨k+2,acc++ [39],by omega,by simp;omega,by go_num,by rw[kQ],?_⟩;rw[HM.out,cB HB.out,cB Us.out,HQ.out,Co.out,Ke]
      case measure=>simp[intOf];omega
     ·have t2:(((s[k+1].toNat:Nat):Int)==39)=false:=by rw[beq_eq_false_iff_ne];intro h;exact Np (UInt8.toNat_inj.1 (by simpa using(by omega:s[k+1].toNat=39)))
      have t3:(((s[k+1].toNat:Nat):Int) != 39)=true:=by simpa [bne] using t2
      have QW:=hid (show(s.data.toList.drop (k+1)).head?≠some 39 by rw[cB Us.out];simpa using Np);clear Np;go_wp2_with fail;refine bodyPost_ret (v:=.tuple #[.agg #[.int .u8 3,.string ⟨acc.toArray⟩,.int .i64 0,.int .i64 at_],.int .i64 ((k:Int)+1),.int .i64 0]) ?_ rfl ?_
      ·simp[results,Tryz.results103,go_sem,z0,z1,z2,z3]
      ·rw[ou.out,HM.out,cB HB.out,HQ.out,Bf QW.out];unfold tV;simp only;have e:s.size - (s.data.toList.drop (k+1)).length=k+1:=by rw[List.length_drop,HLEN.out];omega
       rw[e];exact⟨rfl,rv bb (Nat.le_refl _) _ _ _ _⟩
    ·have n2:=decide_eq_true (show((s.size:Int)≤(k:Int)+1) by omega);have QW:=hid (show(s.data.toList.drop (k+1)).head?≠some 39 by rw[List.drop_eq_nil_of_le (by rw[HLEN.out];omega)];simp);go_wp2_with fail;refine bodyPost_ret (v:=.tuple #[.agg #[.int .u8 3,.string ⟨acc.toArray⟩,.int .i64 0,.int .i64 at_],.int .i64 ((k:Int)+1),.int .i64 0]) ?_ rfl ?_
     ·simp[results,Tryz.results103,go_sem,z0,z1,z2,z3]
     ·rw[ou.out,HM.out,cB HB.out,HQ.out,Bf QW.out];unfold tV;simp only;have e:s.size - (s.data.toList.drop (k+1)).length=k+1:=by rw[List.length_drop,HLEN.out];omega
      rw[e];exact⟨rfl,rv bb (Nat.le_refl _) _ _ _ _⟩
   ·have HQ:=hid hq;have t1:(((s[k].toNat:Nat):Int)==39)=false:=by rw[beq_eq_false_iff_ne];intro h;exact hq (UInt8.toNat_inj.1 (by simpa using(by omega:s[k].toNat=39)))
    have jV:=km s k (k+1) (k:Int) ((k:Int)+1) rfl (by omega) (by omega) (by omega) W;rw[tK s k Ot] at jV;clear hq;go_wp2_with fail;go_round;case rel=>refine⟨k+1,acc++ [s[k]],by omega,by simp;omega,by go_num,by rw[kQ],?_⟩;rw[HM.out,cB HB.out,Dp HQ.out]
    case measure=>simp[intOf];omega
  ·have QX:=hid (show s.data.toList.drop k=[] by rw[List.drop_eq_nil_of_le (by rw[HLEN.out];omega)]);go_wp2_with fail;refine bodyPost_ret (v:=.tuple #[.agg #[.int .u8 0,.string ⟨#[]⟩,.int .i64 0,.int .i64 0],.int .i64 0,.int .i64 30]) ?_ rfl ?_
   ·simp[results,Tryz.results103,go_sem,z0,z1,z2,z3]
   ·rw[ou.out,HM.out,QX.out];exact⟨rfl,rv bb (Nat.le_refl _) _ _ _ _⟩
end Go.Proofs.YtfmbcoeallmnnaaGreatDoor.R
