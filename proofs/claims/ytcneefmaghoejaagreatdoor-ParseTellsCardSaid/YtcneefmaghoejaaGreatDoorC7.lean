/- Parts of the proof. -/
import Derived.Test.YtcneefmaghoejaaGreatDoorC6
namespace Go.Proofs.YtcneefmaghoejaaGreatDoor
open Go.Lib (hid)
open Go.ChangeShapes Go.WideShapes Go.ChangeAt Go.RowKit Go.Shelf
set_option linter.unusedVariables false
set_option linter.unusedSimpArgs false
theorem Rz:∀(l:List UInt8) (v:Nat),v*10 ^ l.length≤l.foldl (fun v c=>v*10+(c.toNat - 48)) v
 | [],v=>by simp
 | c::l,v=>by
   have:=Rz l (v*10+(c.toNat - 48));simp only[List.foldl_cons,List.length_cons,Nat.pow_succ];have h:v*10*10 ^ l.length≤(v*10+(c.toNat - 48))*10 ^ l.length:=Nat.mul_le_mul_right _ (by omega);have e:v*(10 ^ l.length*10)=v*10*10 ^ l.length:=by rw[Nat.mul_comm (10 ^ l.length),Nat.mul_assoc]
   rw[e];omega
theorem RA {l:List UInt8}(hd:∀c∈l,bp c=true)(hl:19 < l.length)(h0:l.head?≠some 48):9223372036854775807 < jg l:=by
 match l with
 | []=>simp at hl
 | c::r=>
   have hc:=hd c List.mem_cons_self;simp[bp,UInt8.le_iff_toNat_le] at hc;have QH:c.toNat≠48:=fun e=>h0 (by rw[show c=48 from UInt8.toNat_inj.1 e];rfl)
   have h1:=Rz r (0*10+(c.toNat - 48));have h2:10 ^ 19≤10 ^ r.length:=Nat.pow_le_pow_right (by decide) (by simp at hl;omega);have h3:1*10 ^ r.length≤(0*10+(c.toNat - 48))*10 ^ r.length:=Nat.mul_le_mul_right _ (by omega);show _ < List.foldl _ _ _;rw[List.foldl_cons];have h4:(10:Nat)^ 19=10000000000000000000:=by decide
   omega
theorem RB {l:List UInt8} {i:Nat} {c:UInt8}(h:l[i]?=some c):jg (l.take (i+1))=jg (l.take i)*10+(c.toNat - 48):=by rw[List.take_add_one,h];exact Re _ _
theorem Kf (l:List UInt8)(i:Nat):jg (l.take i)≤jg l:=by
 conv=>rhs;rw[← List.take_append_drop i l]
 unfold jg;rw[List.foldl_append];exact Gn _ _
theorem RD {c:UInt8}(h:bp c=true):48≤c.toNat∧c.toNat≤57:=by simpa [bp,UInt8.le_iff_toNat_le] using h
def mz (q:List UInt8)(w:World)(e:Ending)(w':World):Prop:=(if rf q=true then e=.returned (.tuple #[.int .i64 (jg q),.bool true])else e=.returned (.tuple #[.int .i64 0,.bool false]))∧w=w'
theorem Kg {q:List UInt8} {w:World} {e:Ending}(h:rf q=false)(he:e=.returned (.tuple #[.int .i64 0,.bool false])):mz q w e w:=by unfold mz;rw[h,if_neg (by decide)];exact⟨he,rfl⟩
theorem Wv {q:List UInt8} {w:World} {e:Ending}(h:rf q=true)(he:e=.returned (.tuple #[.int .i64 (jg q),.bool true])):mz q w e w:=by unfold mz;rw[if_pos h];exact⟨he,rfl⟩
set_option maxHeartbeats 4000000
set_option maxRecDepth 100000
theorem ye (s:ByteArray)(w:World)(hd:∀c∈s.data.toList,bp c=true)(h0:0 < s.size)(hs:s.size≤4294967280):Calls Tryz.prog 84 #[.string s] w (mz s.data.toList w):=by
 have HLEN:=hid (show s.data.toList.length=s.size by simp);have HDG:=hid hd;have YR:s.data.toList.head?=some s[0]:=by rw[List.head?_eq_getElem?];exact ft s 0 h0
 have HH:=hid YR;clear hd YR;by_cases hz:1 < s.size∧s[0]=48
 ·have t1:(((s[0].toNat:Nat):Int)==48)=true:=by rw[hz.2];rfl
  have HB:=hid (show rf s.data.toList=false by
   have:¬s.data.toList.length≤1:=by rw[HLEN.out];omega
   simp only[rf,HH.out,hz.2,this]
   rfl)
  have hz1:=hz.1;clear hz;go_enter Tryz.func84,Tryz.ntmps84;go_wp2_with fail;go_ret2;exact Kg HB.out rfl
 ·by_cases RF:19 < s.size
  ·have t1:(((s[0].toNat:Nat):Int)==48)=false:=by rw[beq_eq_false_iff_ne];intro h;exact hz ⟨by omega,UInt8.toNat_inj.1 (by simpa using(by omega:s[0].toNat=48))⟩
   have HB:=hid (show rf s.data.toList=false by
    have h1:=RA HDG.out (by rw[HLEN.out];exact RF) (by rw[HH.out];intro e;injection e with e;exact hz ⟨by omega,e⟩)
    have h2:¬jg s.data.toList≤9223372036854775807:=by omega
    simp only[rf,h2]
    simp)
   clear hz;go_enter Tryz.func84,Tryz.ntmps84;go_wp2_with fail;go_ret2;exact Kg HB.out rfl
  ·have HF:=hid (show(decide (s.data.toList.length≤1)|| !(s.data.toList.head?==some 48))=true by
    rw[HLEN.out,HH.out]
    by_cases h1:s.size≤1
    ·simp[h1]
    ·have:s[0]≠48:=fun e=>hz ⟨by omega,e⟩
     simp[h1,this])
   have hz2:¬(1 < s.size)∨(1 < s.size∧(((s[0].toNat:Nat):Int)==48)=false):=by
    by_cases h1:1 < s.size
    ·refine .inr ⟨h1,?_⟩;rw[beq_eq_false_iff_ne];intro h;exact hz ⟨h1,UInt8.toNat_inj.1 (by simpa using(by omega:s[0].toNat=48))⟩
    ·exact .inl h1
   clear hz;rcases hz2 with hz2 |⟨hz1,hz2⟩;all_goals
    go_enter Tryz.func84,Tryz.ntmps84;go_wp2_with fail;go_loop [4,5] (fun v u=>∃i:Nat,i≤s.size∧u=.int .i64 i∧v=.int .i64 (jg (s.data.toList.take i):Nat)∧jg (s.data.toList.take i)≤9223372036854775807) (fun _ u=>s.size - (intOf u).toNat);case atStart=>exact⟨0,by omega,rfl,rfl,by simp[jg]⟩
    case round=>
     obtain⟨i,hi,rfl,rfl,hv⟩:=hrel;by_cases hlt:i < s.size
     ·have HB:=hid (ft s i hlt);obtain⟨d1,d2⟩:=RD (HDG.out s[i] (List.mem_of_getElem? HB.out));have HV:=hid (RB HB.out);have JY:=hid (Kf s.data.toList (i+1));generalize lz:jg (s.data.toList.take i)=v at*;have HVV:=hid lz;clear lz;by_cases iz:v*10+(s[i].toNat - 48)≤9223372036854775807
      ·have n1:=decide_eq_false (show¬((9223372036854775807 - ((s[i].toNat:Int) - 48))/ 10 <(v:Int)) by omega);go_wp2_with fail;go_round;case rel=>
        refine⟨i+1,hlt,by go_num,?_,by rw[HV.out];exact iz⟩;rw[HV.out];have:((v*10+(s[i].toNat - 48):Nat):Int)=(v:Int)*10+((s[i].toNat:Int) - 48):=by omega
        rw[this]
       case measure=>simp[intOf];omega
      ·have n1:=decide_eq_true (show((9223372036854775807 - ((s[i].toNat:Int) - 48))/ 10 <(v:Int)) by omega);go_wp2_with fail;go_ret2;refine Kg ?_ rfl;have h1:=JY.out;rw[HV.out] at h1;have h2:¬jg s.data.toList≤9223372036854775807:=by omega
       simp only[rf,h2];simp
     ·go_wp2_with fail;go_ret2;have e1:s.data.toList.take i=s.data.toList:=List.take_of_length_le (by rw[HLEN.out];omega);rw[e1] at hv ⊢;exact Wv (by rw[rf,HF.out];simpa using hv) rfl
def yH (s:ByteArray)(at_:Nat)(w:World)(r:Except Nat (Wd×List UInt8))(e:Ending)(w':World):Prop:=
 match r with
 | .ok (d,rest)=>e=.returned (.tuple #[.agg #[.int .u8 d.k,.string ⟨d.s.toArray⟩,.int .i64 d.n,.int .i64 at_],.int .i64 (s.size - rest.length:Nat),.int .i64 0])∧Below w.heap.size w w'
 | .error x=>e=.returned (.tuple #[.agg #[.int .u8 0,.string ⟨#[]⟩,.int .i64 0,.int .i64 0],.int .i64 0,.int .i64 x])∧Below w.heap.size w w'
theorem vQ {B:Nat} {w w':World}(h:Below B w w') {q:Nat}(hq:B≤q)(a b c d:Value):Below B w ((((w'.setCell ⟨q,0,none⟩ a).setCell ⟨q,1,none⟩ b).setCell ⟨q,2,none⟩ c).setCell ⟨q,3,none⟩ d):=
 (((h.setCell (p:=⟨q,0,none⟩) hq a).setCell (p:=⟨q,1,none⟩) hq b).setCell (p:=⟨q,2,none⟩) hq c).setCell (p:=⟨q,3,none⟩) hq d
theorem RG (s:ByteArray)(at_:Nat)(w:World)(ha:at_ < s.size)(hc:dr s[at_]=true)(hs:s.size≤4294967280):
  Calls Tryz.prog 45 #[.string s,.int .i64 at_] w (yH s at_ w (eR (s.data.toList.drop at_))):=by
 have hd:=drop_at (ft s at_ ha);have kQ:eR (s.data.toList.drop at_)=if fp dD s.data.toList at_ - at_≤32 then .ok (⟨1,((s.data.toList.drop at_).takeWhile dD).map rJ,0⟩,(s.data.toList.drop at_).dropWhile dD)else .error 2:=by rw[LS,hd];simp only[eR,if_pos hc]
 generalize eR (s.data.toList.drop at_)=R at*;have lR:=hid kQ;have HC:=hid hc;have HLEN:=hid (show s.data.toList.length=s.size by simp);clear kQ hd hc;go_enter Tryz.func45,Tryz.ntmps45;go_wp2_with (go_at_call 81;refine(gD s[at_] _).mono ?_;rintro e w' ⟨rfl,rfl⟩;rw[HC.out]);have HZ:=hid (au.new w 46 #[.int .u8 0,.string ⟨#[]⟩,.int .i64 0,.int .i64 0]);have bb:=aa w (.cells #[.int .u8 0,.string ⟨#[]⟩,.int .i64 0,.int .i64 0] 46);have hsz:(w.alloc (.cells #[.int .u8 0,.string ⟨#[]⟩,.int .i64 0,.int .i64 0] 46)).heap.size=w.heap.size+1:=by simp
 generalize w.alloc (.cells #[.int .u8 0,.string ⟨#[]⟩,.int .i64 0,.int .i64 0] 46)=W at*;have il:=hid hsz;clear hsz;go_loop [8] (fun u=>∃k:Nat,at_≤k∧k≤s.size∧u=.int .i64 k∧fp dD s.data.toList at_=fp dD s.data.toList k) (fun u=>s.size - (intOf u).toNat);case atStart=>exact⟨at_,Nat.le_refl _,by omega,rfl,rfl⟩
 case round=>
  obtain⟨k,Af,hk2,rfl,hf⟩:=hrel;have HF:=hid hf;clear hf;by_cases hlt:k < s.size
  ·have HB:=hid (ft s k hlt);cases hl:dr s[k]
   ·have HL:=hid hl;cases hd:bp s[k]
    ·have HD:=hid hd;have xZ:=hid (show fp dD s.data.toList at_=k by rw[HF.out];exact yY HB.out (by simp[dD,hl,hd]));clear hl hd;by_cases h32:k - at_≤32
     ·have n1:=decide_eq_false (show¬(32:Int)<(k:Int) - at_ by omega);go_wp2_with (first
       |(go_at_call 81;refine(gD s[k] _).mono ?_;rintro e w' ⟨rfl,rfl⟩;rw[HL.out])
       |(go_at_call 82;refine(iH s[k] _).mono ?_;rintro e w' ⟨rfl,rfl⟩;rw[HD.out]))
      refine(CY (s.extract at_ k) _ (by rw[ByteArray.size_extract];omega)).mono ?_;rintro e w1 ⟨rfl,b1⟩;have HE:=hid (show(s.extract at_ k).data.toList=(s.data.toList.drop at_).takeWhile dD by rw[← xZ.out];exact lj dD s at_);obtain⟨z0,z1,z2,z3,y0,y1,y2,y3⟩:=aT (HZ.out.later b1);rw[HE.out];go_wp2_with fail;refine bodyPost_ret (v:=.tuple #[.agg #[.int .u8 1,.string ⟨(((s.data.toList.drop at_).takeWhile dD).map rJ).toArray⟩,.int .i64 0,.int .i64 at_],.int .i64 k,.int .i64 0]) ?_ rfl ?_
      ·simp[results,Tryz.results45,go_sem,z0,z1,z2,z3]
      ·rw[lR.out,xZ.out,if_pos h32];unfold yH;simp only;rw[pI dD s (by omega),xZ.out];exact⟨rfl,vQ (bb.trans (b1.mono bb.size)) (Nat.le_refl _) _ _ _ _⟩
     ·have n1:=decide_eq_true (show(32:Int)<(k:Int) - at_ by omega);obtain⟨z0,z1,z2,z3,y0,y1,y2,y3⟩:=aT HZ.out;go_wp2_with (first
       |(go_at_call 81;refine(gD s[k] _).mono ?_;rintro e w' ⟨rfl,rfl⟩;rw[HL.out])
       |(go_at_call 82;refine(iH s[k] _).mono ?_;rintro e w' ⟨rfl,rfl⟩;rw[HD.out]))
      refine bodyPost_ret (v:=.tuple #[.agg #[.int .u8 0,.string ⟨#[]⟩,.int .i64 0,.int .i64 0],.int .i64 0,.int .i64 2]) ?_ rfl ?_
      ·simp[results,Tryz.results45,go_sem,z0,z1,z2,z3]
      ·rw[lR.out,xZ.out,if_neg h32];exact⟨rfl,vQ bb (Nat.le_refl _) _ _ _ _⟩
    ·have HD:=hid hd;have xZ:=hid (show fp dD s.data.toList at_=fp dD s.data.toList (k+1) by rw[HF.out];exact pH HB.out (by simp[dD,hl,hd]));clear hl hd;go_wp2_with (first
      |(go_at_call 81;refine(gD s[k] _).mono ?_;rintro e w' ⟨rfl,rfl⟩;rw[HL.out])
      |(go_at_call 82;refine(iH s[k] _).mono ?_;rintro e w' ⟨rfl,rfl⟩;rw[HD.out]))
     go_round;case rel=>exact⟨k+1,by omega,hlt,by go_num,xZ.out⟩
     case measure=>simp[intOf];omega
   ·have HL:=hid hl;have xZ:=hid (show fp dD s.data.toList at_=fp dD s.data.toList (k+1) by rw[HF.out];exact pH HB.out (by simp[dD,hl]));clear hl;go_wp2_with (go_at_call 81;refine(gD s[k] _).mono ?_;rintro e w' ⟨rfl,rfl⟩;rw[HL.out]);go_round;case rel=>exact⟨k+1,by omega,hlt,by go_num,xZ.out⟩
    case measure=>simp[intOf];omega
  ·have xZ:=hid (show fp dD s.data.toList at_=k by rw[HF.out];exact vD (by rw[HLEN.out];omega));by_cases h32:k - at_≤32
   ·have n1:=decide_eq_false (show¬(32:Int)<(k:Int) - at_ by omega);go_wp2_with fail;refine(CY (s.extract at_ k) _ (by rw[ByteArray.size_extract];omega)).mono ?_;rintro e w1 ⟨rfl,b1⟩;have HE:=hid (show(s.extract at_ k).data.toList=(s.data.toList.drop at_).takeWhile dD by rw[← xZ.out];exact lj dD s at_);obtain⟨z0,z1,z2,z3,y0,y1,y2,y3⟩:=aT (HZ.out.later b1);rw[HE.out];go_wp2_with fail;refine bodyPost_ret (v:=.tuple #[.agg #[.int .u8 1,.string ⟨(((s.data.toList.drop at_).takeWhile dD).map rJ).toArray⟩,.int .i64 0,.int .i64 at_],.int .i64 k,.int .i64 0]) ?_ rfl ?_
    ·simp[results,Tryz.results45,go_sem,z0,z1,z2,z3]
    ·rw[lR.out,xZ.out,if_pos h32];unfold yH;simp only;rw[pI dD s (by omega),xZ.out];exact⟨rfl,vQ (bb.trans (b1.mono bb.size)) (Nat.le_refl _) _ _ _ _⟩
   ·have n1:=decide_eq_true (show(32:Int)<(k:Int) - at_ by omega);obtain⟨z0,z1,z2,z3,y0,y1,y2,y3⟩:=aT HZ.out;go_wp2_with fail;refine bodyPost_ret (v:=.tuple #[.agg #[.int .u8 0,.string ⟨#[]⟩,.int .i64 0,.int .i64 0],.int .i64 0,.int .i64 2]) ?_ rfl ?_
    ·simp[results,Tryz.results45,go_sem,z0,z1,z2,z3]
    ·rw[lR.out,xZ.out,if_neg h32];exact⟨rfl,vQ bb (Nat.le_refl _) _ _ _ _⟩
theorem one_num (s:ByteArray)(at_:Nat)(w:World)(ha:at_ < s.size)(hl:dr s[at_]=false)(hc:bp s[at_]=true)(hs:s.size≤4294967280):
  Calls Tryz.prog 45 #[.string s,.int .i64 at_] w (yH s at_ w (eR (s.data.toList.drop at_))):=by
 have hd:=drop_at (ft s at_ ha);have kQ:eR (s.data.toList.drop at_)=if rf ((s.data.toList.drop at_).takeWhile bp)&& !(((s.data.toList.drop at_).dropWhile bp).head?.any dr)then .ok (⟨2,[],jg ((s.data.toList.drop at_).takeWhile bp)⟩,(s.data.toList.drop at_).dropWhile bp)else .error 30:=by rw[hd];simp only[eR,hl,if_pos hc];rfl
 have EH:0 <((s.data.toList.drop at_).takeWhile bp).length:=by rw[hd,List.takeWhile_cons,if_pos hc];simp
 generalize eR (s.data.toList.drop at_)=R at*;have lR:=hid kQ;have aaw:=hid EH;have HC:=hid hc;have HL0:=hid hl;have HLEN:=hid (show s.data.toList.length=s.size by simp);clear kQ hd hc hl EH;go_enter Tryz.func45,Tryz.ntmps45;go_wp2_with (first
  |(go_at_call 81;refine(gD s[at_] _).mono ?_;rintro e w' ⟨rfl,rfl⟩;rw[HL0.out])
  |(go_at_call 82;refine(iH s[at_] _).mono ?_;rintro e w' ⟨rfl,rfl⟩;rw[HC.out]))
 have HZ:=hid (au.new w 46 #[.int .u8 0,.string ⟨#[]⟩,.int .i64 0,.int .i64 0]);have bb:=aa w (.cells #[.int .u8 0,.string ⟨#[]⟩,.int .i64 0,.int .i64 0] 46);generalize w.alloc (.cells #[.int .u8 0,.string ⟨#[]⟩,.int .i64 0,.int .i64 0] 46)=W at*;go_loop [8] (fun u=>∃k:Nat,at_≤k∧k≤s.size∧u=.int .i64 k∧fp bp s.data.toList at_=fp bp s.data.toList k) (fun u=>s.size - (intOf u).toNat);case atStart=>exact⟨at_,Nat.le_refl _,by omega,rfl,rfl⟩
 case round=>
  obtain⟨k,Af,hk2,rfl,hf⟩:=hrel;have HF:=hid hf;clear hf;by_cases hlt:k < s.size
  ·have HB:=hid (ft s k hlt);cases hd:bp s[k]
   ·have HD:=hid hd;have xZ:=hid (show fp bp s.data.toList at_=k by rw[HF.out];exact yY HB.out hd);clear hd;have HE:=hid (show(s.extract at_ k).data.toList=(s.data.toList.drop at_).takeWhile bp by rw[← xZ.out];exact lj bp s at_);have hx1:0 <(s.extract at_ k).size:=by have h1:=aaw.out;rw[← HE.out] at h1;simpa only[ByteArray.size_data,Array.length_toList] using h1
    have hx2:(s.extract at_ k).size≤4294967280:=by rw[ByteArray.size_extract];omega
    have HN:=hid (ye (s.extract at_ k) W (by rw[HE.out];exact yZ _) hx1 hx2);have Mn:=hid (show(s.data.toList.drop at_).dropWhile bp=s.data.toList.drop k by rw[← mH,xZ.out]);clear hx1 hx2;obtain⟨z0,z1,z2,z3,y0,y1,y2,y3⟩:=aT HZ.out;cases yI:rf ((s.data.toList.drop at_).takeWhile bp)
    ·have Cm:=hid yI;clear yI;go_wp2_with (go_at_call 82;refine(iH s[k] _).mono ?_;rintro e w' ⟨rfl,rfl⟩;rw[HD.out]);refine HN.out.mono ?_;unfold mz;rw[HE.out,Cm.out];rintro e w1 ⟨he,rfl⟩;rw[if_neg (by decide)] at he;subst he;go_wp2_with fail;refine bodyPost_ret (v:=.tuple #[.agg #[.int .u8 0,.string ⟨#[]⟩,.int .i64 0,.int .i64 0],.int .i64 0,.int .i64 30]) ?_ rfl ?_
     ·simp[results,Tryz.results45,go_sem,z0,z1,z2,z3]
     ·rw[lR.out,Cm.out];exact⟨rfl,vQ bb (Nat.le_refl _) _ _ _ _⟩
    ·have Cm:=hid yI;clear yI;cases F6:dr s[k]
     ·have HLB:=hid F6;have HR:=hid (show R=.ok (⟨2,[],jg ((s.data.toList.drop at_).takeWhile bp)⟩,(s.data.toList.drop at_).dropWhile bp) by
       rw[lR.out,Cm.out,Mn.out,drop_at HB.out]
       simp[F6])
      clear F6;go_wp2_with (go_at_call 82;refine(iH s[k] _).mono ?_;rintro e w' ⟨rfl,rfl⟩;rw[HD.out]);refine HN.out.mono ?_;unfold mz;rw[HE.out,Cm.out];rintro e w1 ⟨he,rfl⟩;rw[if_pos rfl] at he;subst he;go_wp2_with (go_at_call 81;refine(gD s[k] _).mono ?_;rintro e w' ⟨rfl,rfl⟩;rw[HLB.out]);refine bodyPost_ret (v:=.tuple #[.agg #[.int .u8 2,.string ⟨#[]⟩,.int .i64 (jg ((s.data.toList.drop at_).takeWhile bp)),.int .i64 at_],.int .i64 k,.int .i64 0]) ?_ rfl ?_
      ·simp[results,Tryz.results45,go_sem,z0,z1,z2,z3]
      ·rw[HR.out];unfold yH;simp only;rw[pI bp s (by omega),xZ.out];exact⟨rfl,vQ bb (Nat.le_refl _) _ _ _ _⟩
     ·have HLB:=hid F6;have HR:=hid (show R=.error 30 by
       rw[lR.out,Cm.out,Mn.out,drop_at HB.out]
       simp[F6])
      clear F6;go_wp2_with (go_at_call 82;refine(iH s[k] _).mono ?_;rintro e w' ⟨rfl,rfl⟩;rw[HD.out]);refine HN.out.mono ?_;unfold mz;rw[HE.out,Cm.out];rintro e w1 ⟨he,rfl⟩;rw[if_pos rfl] at he;subst he;go_wp2_with (go_at_call 81;refine(gD s[k] _).mono ?_;rintro e w' ⟨rfl,rfl⟩;rw[HLB.out]);refine bodyPost_ret (v:=.tuple #[.agg #[.int .u8 0,.string ⟨#[]⟩,.int .i64 0,.int .i64 0],.int .i64 0,.int .i64 30]) ?_ rfl ?_
      ·simp[results,Tryz.results45,go_sem,z0,z1,z2,z3]
      ·rw[HR.out];exact⟨rfl,vQ bb (Nat.le_refl _) _ _ _ _⟩
   ·have HD:=hid hd;have xZ:=hid (show fp bp s.data.toList at_=fp bp s.data.toList (k+1) by rw[HF.out];exact pH HB.out hd);clear hd;go_wp2_with (go_at_call 82;refine(iH s[k] _).mono ?_;rintro e w' ⟨rfl,rfl⟩;rw[HD.out]);go_round;case rel=>exact⟨k+1,by omega,hlt,by go_num,xZ.out⟩
    case measure=>simp[intOf];omega
  ·have xZ:=hid (show fp bp s.data.toList at_=k by rw[HF.out];exact vD (by rw[HLEN.out];omega));have HE:=hid (show(s.extract at_ k).data.toList=(s.data.toList.drop at_).takeWhile bp by rw[← xZ.out];exact lj bp s at_);have hx1:0 <(s.extract at_ k).size:=by have h1:=aaw.out;rw[← HE.out] at h1;simpa only[ByteArray.size_data,Array.length_toList] using h1
   have hx2:(s.extract at_ k).size≤4294967280:=by rw[ByteArray.size_extract];omega
   have HN:=hid (ye (s.extract at_ k) W (by rw[HE.out];exact yZ _) hx1 hx2);have Mn:=hid (show(s.data.toList.drop at_).dropWhile bp=s.data.toList.drop k by rw[← mH,xZ.out]);clear hx1 hx2;obtain⟨z0,z1,z2,z3,y0,y1,y2,y3⟩:=aT HZ.out;cases yI:rf ((s.data.toList.drop at_).takeWhile bp)
   ·have Cm:=hid yI;clear yI;go_wp2_with fail;refine HN.out.mono ?_;unfold mz;rw[HE.out,Cm.out];rintro e w1 ⟨he,rfl⟩;rw[if_neg (by decide)] at he;subst he;go_wp2_with fail;refine bodyPost_ret (v:=.tuple #[.agg #[.int .u8 0,.string ⟨#[]⟩,.int .i64 0,.int .i64 0],.int .i64 0,.int .i64 30]) ?_ rfl ?_
    ·simp[results,Tryz.results45,go_sem,z0,z1,z2,z3]
    ·rw[lR.out,Cm.out];exact⟨rfl,vQ bb (Nat.le_refl _) _ _ _ _⟩
   ·have Cm:=hid yI;clear yI;have HR:=hid (show R=.ok (⟨2,[],jg ((s.data.toList.drop at_).takeWhile bp)⟩,(s.data.toList.drop at_).dropWhile bp) by
     rw[lR.out,Cm.out,Mn.out,List.drop_eq_nil_of_le (by rw[HLEN.out];omega)]
     rfl)
    go_wp2_with fail;refine HN.out.mono ?_;unfold mz;rw[HE.out,Cm.out];rintro e w1 ⟨he,rfl⟩;rw[if_pos rfl] at he;subst he;go_wp2_with fail;refine bodyPost_ret (v:=.tuple #[.agg #[.int .u8 2,.string ⟨#[]⟩,.int .i64 (jg ((s.data.toList.drop at_).takeWhile bp)),.int .i64 at_],.int .i64 k,.int .i64 0]) ?_ rfl ?_
    ·simp[results,Tryz.results45,go_sem,z0,z1,z2,z3]
    ·rw[HR.out];unfold yH;simp only;rw[pI bp s (by omega),xZ.out];exact⟨rfl,vQ bb (Nat.le_refl _) _ _ _ _⟩
theorem yf (s:ByteArray)(k:Nat)(hk:k < s.size):s.extract k (k+1)=⟨#[s[k]]⟩:=by
 have h:=nw s k (k+1);have h2:(s.data.toList.take (k+1)).drop k=[s[k]]:=by
  rw[List.drop_take,drop_at (ft s k hk)];have:k+1 - k=1:=by omega
  rw[this];rfl
 rw[h2] at h;apply Go.WideShapes.bytes_inj;rw[h]
theorem nC (s:ByteArray)(a b:Nat)(x y:Int)(hx:x=a)(hy:y=b)(hab:a≤b)(hb:b≤s.size)(w:World):
  (Instr.slice 9 (.string s) (some (.int .i64 x)) (some (.int .i64 y)) none).run Tryz.prog w=.ok (.string (s.extract a b)) w:=by
 subst hx hy;have:=run_slice_string (P:=Tryz.prog) (w:=w) 9 s .i64 .i64 a b Tryz.underlying9 (by omega) (by omega) (by omega);simpa using this
theorem RH (s:ByteArray)(at_:Nat)(w:World)(ha:at_ < s.size)(hl:dr s[at_]=false)(F7:bp s[at_]=false)(hq:s[at_]=39)(hs:s.size≤4294967280):
  Calls Tryz.prog 45 #[.string s,.int .i64 at_] w (yH s at_ w (eR (s.data.toList.drop at_))):=by
 have hd:=drop_at (ft s at_ ha);have kQ:eR (s.data.toList.drop at_)=match more [] (eW (s.data.toList.drop (at_+1)))with
   | some (t,rest)=> .ok (⟨3,t,0⟩,rest)
   | none=> .error 30:=by
  rw[GH,hd];simp only[eR,hl,F7,if_pos hq];rfl
 generalize eR (s.data.toList.drop at_)=R at*;have t0:(((s[at_].toNat:Nat):Int)==39)=true:=by rw[hq];rfl
 have lR:=hid kQ;have HL0:=hid hl;have HD0:=hid F7;have HLEN:=hid (show s.data.toList.length=s.size by simp);clear kQ hd hl F7 hq;go_enter Tryz.func45,Tryz.ntmps45;go_wp2_with (first
  |(go_at_call 81;refine(gD s[at_] _).mono ?_;rintro e w' ⟨rfl,rfl⟩;rw[HL0.out])
  |(go_at_call 82;refine(iH s[at_] _).mono ?_;rintro e w' ⟨rfl,rfl⟩;rw[HD0.out]))
 have HZ:=hid (au.new w 46 #[.int .u8 0,.string ⟨#[]⟩,.int .i64 0,.int .i64 0]);have bb:=aa w (.cells #[.int .u8 0,.string ⟨#[]⟩,.int .i64 0,.int .i64 0] 46);generalize w.alloc (.cells #[.int .u8 0,.string ⟨#[]⟩,.int .i64 0,.int .i64 0] 46)=W at*;obtain⟨z0,z1,z2,z3,y0,y1,y2,y3⟩:=aT HZ.out;clear t0;go_loop [8,11] (fun u x=>∃(k:Nat) (acc:List UInt8),k≤s.size∧acc.length≤k∧u=.int .i64 k∧x=.string ⟨acc.toArray⟩∧more [] (eW (s.data.toList.drop (at_+1)))=more acc (eW (s.data.toList.drop k))) (fun u _=>s.size - (intOf u).toNat);case atStart=>exact⟨at_+1,[],ha,by simp,by go_num,rfl,rfl⟩
 case round=>
  obtain⟨k,acc,hk,oL,rfl,rfl,hm⟩:=hrel;have HM:=hid hm;clear hm;by_cases hks:k < s.size
  ·have HB:=hid (ft s k hks);by_cases hq:s[k]=39
   ·have HQ:=hid hq;have t1:(((s[k].toNat:Nat):Int)==39)=true:=by rw[hq];rfl
    clear hq;by_cases Af:k+1 < s.size
    ·have ry:=hid (ft s (k+1) Af);have n2:=decide_eq_false (show¬((s.size:Int)≤(k:Int)+1) by omega);by_cases vO:s[k+1]=39
     ·have jd:=hid vO;have t2:(((s[k+1].toNat:Nat):Int)==39)=true:=by rw[vO];rfl
      have t3:(((s[k+1].toNat:Nat):Int) != 39)=false:=by rw[vO];rfl
      have hx:=yf s (k+1) Af;have fE:=nC s (k+1) (k+1+1) ((k:Int)+1) ((k:Int)+1+1) (by omega) (by omega) (by omega) (by omega) W;rw[hx,vO] at fE;clear vO hx;go_wp2_with fail;go_round;case rel=>refine⟨k+2,acc++ [39],by omega,by simp;omega,by go_num,by rw[oc],?_⟩;rw[HM.out,drop_at HB.out,drop_at ry.out,HQ.out,jd.out,GI]
      case measure=>simp[intOf];omega
     ·have t2:(((s[k+1].toNat:Nat):Int)==39)=false:=by rw[beq_eq_false_iff_ne];intro h;exact vO (UInt8.toNat_inj.1 (by simpa using(by omega:s[k+1].toNat=39)))
      have t3:(((s[k+1].toNat:Nat):Int) != 39)=true:=by simpa [bne] using t2
      have Kb:=hid (show(s.data.toList.drop (k+1)).head?≠some 39 by rw[drop_at ry.out];simpa using vO);clear vO;go_wp2_with fail;refine bodyPost_ret (v:=.tuple #[.agg #[.int .u8 3,.string ⟨acc.toArray⟩,.int .i64 0,.int .i64 at_],.int .i64 ((k:Int)+1),.int .i64 0]) ?_ rfl ?_
      ·simp[results,Tryz.results45,go_sem,z0,z1,z2,z3]
      ·rw[lR.out,HM.out,drop_at HB.out,HQ.out,vM Kb.out];unfold yH;simp only;have e:s.size - (s.data.toList.drop (k+1)).length=k+1:=by rw[List.length_drop,HLEN.out];omega
       rw[e];exact⟨rfl,vQ bb (Nat.le_refl _) _ _ _ _⟩
    ·have n2:=decide_eq_true (show((s.size:Int)≤(k:Int)+1) by omega);have Kb:=hid (show(s.data.toList.drop (k+1)).head?≠some 39 by rw[List.drop_eq_nil_of_le (by rw[HLEN.out];omega)];simp);go_wp2_with fail;refine bodyPost_ret (v:=.tuple #[.agg #[.int .u8 3,.string ⟨acc.toArray⟩,.int .i64 0,.int .i64 at_],.int .i64 ((k:Int)+1),.int .i64 0]) ?_ rfl ?_
     ·simp[results,Tryz.results45,go_sem,z0,z1,z2,z3]
     ·rw[lR.out,HM.out,drop_at HB.out,HQ.out,vM Kb.out];unfold yH;simp only;have e:s.size - (s.data.toList.drop (k+1)).length=k+1:=by rw[List.length_drop,HLEN.out];omega
      rw[e];exact⟨rfl,vQ bb (Nat.le_refl _) _ _ _ _⟩
   ·have HQ:=hid hq;have t1:(((s[k].toNat:Nat):Int)==39)=false:=by rw[beq_eq_false_iff_ne];intro h;exact hq (UInt8.toNat_inj.1 (by simpa using(by omega:s[k].toNat=39)))
    have fE:=nC s k (k+1) (k:Int) ((k:Int)+1) rfl (by omega) (by omega) (by omega) W;rw[yf s k hks] at fE;clear hq;go_wp2_with fail;go_round;case rel=>refine⟨k+1,acc++ [s[k]],by omega,by simp;omega,by go_num,by rw[oc],?_⟩;rw[HM.out,drop_at HB.out,Ae HQ.out]
    case measure=>simp[intOf];omega
  ·have Kc:=hid (show s.data.toList.drop k=[] by rw[List.drop_eq_nil_of_le (by rw[HLEN.out];omega)]);go_wp2_with fail;refine bodyPost_ret (v:=.tuple #[.agg #[.int .u8 0,.string ⟨#[]⟩,.int .i64 0,.int .i64 0],.int .i64 0,.int .i64 30]) ?_ rfl ?_
   ·simp[results,Tryz.results45,go_sem,z0,z1,z2,z3]
   ·rw[lR.out,HM.out,Kc.out];exact⟨rfl,vQ bb (Nat.le_refl _) _ _ _ _⟩
theorem Oo {s:ByteArray} {a:Nat} {x:List UInt8}(hb:a+x.length≤s.size):((s.extract a (a+x.length)).toList==x)=x.isPrefixOf (s.data.toList.drop a):=by
 rw[ByteArray.toList_eq,nw,List.drop_take,Nat.add_sub_cancel_left];rw[Bool.eq_iff_iff,beq_iff_eq,List.isPrefixOf_iff_prefix];constructor
 ·intro h;refine⟨(s.data.toList.drop a).drop x.length,?_⟩;have:=List.take_append_drop x.length (s.data.toList.drop a);rwa [h] at this
 ·rintro⟨r,h⟩;rw[← h];simp
theorem Oq {s:ByteArray} {a:Nat} {x:List UInt8}(hb:¬a+x.length≤s.size)(ha:a≤s.size):x.isPrefixOf (s.data.toList.drop a)=false:=by rw[Bool.eq_false_iff];intro h;rw[List.isPrefixOf_iff_prefix] at h;have:=h.length_le;rw[List.length_drop] at this;simp at this;omega
theorem RI (s:ByteArray)(at_:Nat)(w:World)(ha:at_ < s.size)(hl:dr s[at_]=false)(F7:bp s[at_]=false)(hq:s[at_]≠39)(hs:s.size≤4294967280):
  Calls Tryz.prog 45 #[.string s,.int .i64 at_] w (yH s at_ w (eR (s.data.toList.drop at_))):=by
 have hd:=drop_at (ft s at_ ha);have kQ:eR (s.data.toList.drop at_)=match gj signs (s.data.toList.drop at_)with
   | some x=> .ok (⟨4,x,0⟩,(s.data.toList.drop at_).drop x.length)
   | none=> .error 30:=by
  rw[hd];simp only[eR,hl,F7,if_neg hq];rfl
 generalize eR (s.data.toList.drop at_)=R at*;have t0:(((s[at_].toNat:Nat):Int)==39)=false:=by rw[beq_eq_false_iff_ne];intro h;exact hq (UInt8.toNat_inj.1 (by simpa using(by omega:s[at_].toNat=39)))
 have lR:=hid kQ;have HL0:=hid hl;have HD0:=hid F7;have HLEN:=hid (show s.data.toList.length=s.size by simp);clear kQ hd hl F7 hq;go_enter Tryz.func45,Tryz.ntmps45;go_wp2_with (first
  |(go_at_call 81;refine(gD s[at_] _).mono ?_;rintro e w' ⟨rfl,rfl⟩;rw[HL0.out])
  |(go_at_call 82;refine(iH s[at_] _).mono ?_;rintro e w' ⟨rfl,rfl⟩;rw[HD0.out]))
 have HZ:=hid ((au.new w 46 #[.int .u8 0,.string ⟨#[]⟩,.int .i64 0,.int .i64 0]).alloc (.cells (signs.map fun l=>Value.string ⟨l.toArray⟩).toArray 9));have hG:au ((w.alloc (.cells #[.int .u8 0,.string ⟨#[]⟩,.int .i64 0,.int .i64 0] 46)).alloc (.cells (signs.map fun l=>Value.string ⟨l.toArray⟩).toArray 9)) (w.heap.size+1) 9 (signs.map fun l=>Value.string ⟨l.toArray⟩).toArray:=by have:=au.new (w.alloc (.cells #[.int .u8 0,.string ⟨#[]⟩,.int .i64 0,.int .i64 0] 46)) 9 (signs.map fun l=>Value.string ⟨l.toArray⟩).toArray;simpa using this
 have bb:Below w.heap.size w ((w.alloc (.cells #[.int .u8 0,.string ⟨#[]⟩,.int .i64 0,.int .i64 0] 46)).alloc (.cells (signs.map fun l=>Value.string ⟨l.toArray⟩).toArray 9)):=((Below.refl _ _).alloc (Nat.le_refl _) _).alloc (by simp) _;have HG:=hid hG;clear hG t0;simp only[signs,List.map_cons,List.map_nil] at HZ HG bb;generalize (w.alloc (.cells #[.int .u8 0,.string ⟨#[]⟩,.int .i64 0,.int .i64 0] 46)).alloc _=W at*;go_loopw [13] (fun u wr=>∃i n:Nat,i≤15∧u=.int .i64 i∧wr=W.drewN n∧gj signs (s.data.toList.drop at_)=gj (signs.drop i) (s.data.toList.drop at_)) (fun u _=>15 - (intOf u).toNat);case atStart=>exact⟨0,0,by omega,rfl,rfl,rfl⟩
 case round=>
  obtain⟨i,n,hi,rfl,rfl,Ml⟩:=hrel;have QI:=hid Ml;clear Ml;have U7:=hid (HZ.out.drewN n);have bbn:=bb.trans ((dO W n).mono bb.size);by_cases Rv:i < 15
  ·obtain⟨x,hx,hdx,hx1,hx2⟩:=Mk Rv;have hcell:(W.drewN n).cell? ⟨w.heap.size+1,i,none⟩=some (.string ⟨x.toArray⟩):=by
    rw[(HG.out.drewN n).cell i];have:(signs.map fun l=>Value.string ⟨l.toArray⟩).toArray[i]?=some (.string ⟨x.toArray⟩):=by simp[hx]
    exact this
   generalize hWn:W.drewN n=Wn at*;have HWN:=hid hWn;have Rw:=hid hdx;clear hWn hx hdx;by_cases U3:at_+x.length≤s.size
   ·have n1:=decide_eq_true (show((at_:Int)+(x.length:Int))≤(s.size:Int) by omega);have HT:=hid (Oo U3);cases hp:x.isPrefixOf (s.data.toList.drop at_)
    ·have HP:=hid hp;have t1:((s.extract at_ (at_+x.length)).toList==x)=false:=HT.out.trans hp;have fE:=fun W':World=>nC s at_ (at_+x.length) (at_:Int) ((at_:Int)+(x.length:Int)) rfl (by omega) (by omega) U3 W'
     clear hp;go_wp2_with fail;go_quiet (fail);go_wp2_with fail;go_roundw;case rel=>
      refine⟨i+1,n+nq,by omega,by go_num,?_,?_⟩
      ·rw[← HWN.out];exact uM W n nq
      ·rw[QI.out,Rw.out,gj,HP.out];rfl
     case measure=>simp[intOf];omega
    ·have HP:=hid hp;have t1:((s.extract at_ (at_+x.length)).toList==x)=true:=HT.out.trans hp;have fE:=fun W':World=>nC s at_ (at_+x.length) (at_:Int) ((at_:Int)+(x.length:Int)) rfl (by omega) (by omega) U3 W'
     clear hp;go_wp2_with fail;go_quiet (fail);obtain⟨z0,z1,z2,z3,y0,y1,y2,y3⟩:=aT (U7.out.drewN nq);have bq:=bbn.trans ((dO Wn nq).mono bbn.size);have cS:(Wn.drewN nq).cell? ⟨w.heap.size+1,i,none⟩=some (.string ⟨x.toArray⟩):=hcell;generalize Wn.drewN nq=Wq at*;clear hcell;go_wp2_with fail;refine bodyPost_ret (v:=.tuple #[.agg #[.int .u8 4,.string ⟨x.toArray⟩,.int .i64 0,.int .i64 at_],.int .i64 ((at_:Int)+(x.length:Int)),.int .i64 0]) ?_ rfl ?_
     ·simp[results,Tryz.results45,go_sem,z0,z1,z2,z3]
     ·have e1:gj signs (s.data.toList.drop at_)=some x:=by rw[QI.out,Rw.out,gj,if_pos HP.out]
      rw[lR.out,e1];unfold yH;simp only;have e2:s.size - ((s.data.toList.drop at_).drop x.length).length=at_+x.length:=by rw[List.drop_drop,List.length_drop,HLEN.out];omega
      rw[e2];exact⟨rfl,vQ bq (Nat.le_refl _) _ _ _ _⟩
   ·have n1:=decide_eq_false (show¬((at_:Int)+(x.length:Int))≤(s.size:Int) by omega);have HP:=hid (Oq U3 (by omega));go_wp2_with fail;go_quiet (fail);go_wp2_with fail;go_roundw;case rel=>
     refine⟨i+1,n+nq,by omega,by go_num,?_,?_⟩
     ·rw[← HWN.out];exact uM W n nq
     ·rw[QI.out,Rw.out,gj,HP.out];rfl
    case measure=>simp[intOf];omega
  ·obtain rfl:i=15:=by omega
   obtain⟨z0,z1,z2,z3,y0,y1,y2,y3⟩:=aT U7.out;generalize W.drewN n=Wn at*;go_wp2_with fail;refine bodyPost_ret (v:=.tuple #[.agg #[.int .u8 0,.string ⟨#[]⟩,.int .i64 0,.int .i64 0],.int .i64 0,.int .i64 30]) ?_ rfl ?_
   ·simp[results,Tryz.results45,go_sem,z0,z1,z2,z3]
   ·rw[lR.out,QI.out];exact⟨rfl,vQ bbn (Nat.le_refl _) _ _ _ _⟩
theorem Ww (s:ByteArray)(at_:Nat)(w:World)(ha:at_ < s.size)(hs:s.size≤4294967280):
  Calls Tryz.prog 45 #[.string s,.int .i64 at_] w (yH s at_ w (eR (s.data.toList.drop at_))):=by
 cases hl:dr s[at_]
 ·cases hd:bp s[at_]
  ·by_cases hq:s[at_]=39
   ·exact RH s at_ w ha hl hd hq hs
   ·exact RI s at_ w ha hl hd hq hs
  ·exact one_num s at_ w ha hl hd hs
 ·exact RG s at_ w ha hl hs
theorem tG {f:FuncId} {p:UInt8→Bool}(hf:Gp f p) {c:UInt8} {b:Bool}(h:p c=b)(W:World):Calls Tryz.prog f #[.int .u8 (c.toNat:Int)] W fun e w'=>e=.returned (.bool b)∧w'=W:=
 (hf.says c W).mono fun e w' ⟨he,hw⟩=>⟨by rw[he,h],hw.symm⟩
def uP:Array Value:= #[.func (.func 35) #[] #[],.func (.func 61) #[] #[],.func (.func 34) #[] #[],.func (.func 62) #[] #[],.func (.func 63) #[] #[],.func (.func 64) #[] #[]]
structure GK (s:ByteArray) (g at_:Nat) (w wr:World):Prop where
 at_:At s g w at_ wr
 res:au wr w.heap.size 46 #[.int .u8 0,.string ⟨#[]⟩,.int .i64 0,.int .i64 0]
 VD:au wr (w.heap.size+1) 101 uP
theorem GK.later {s:ByteArray} {g at_:Nat} {w wr w':World}(h:GK s g at_ w wr)(hb:Below wr.heap.size wr w'):GK s g at_ w w':=⟨h.at_.later hb,h.res.later hb,h.VD.later hb⟩
def uQ:Nat→UInt8→Bool
 | 0=>dr
 | 1=>bp
 | _=>fun c=>c==39
theorem RJ (B:Nat)(s:ByteArray)(g at_:Nat)(w:World)(hE:Env B w)(hB:B≤g)(hL:au w g 77 (rh s at_))(ha:at_ < s.size)(hs:s.size≤4294967280):
  Calls Tryz.prog 31 #[.pointer (some ⟨g,0,none⟩)] w (Gu s g at_ w (eR (s.data.toList.drop at_))):=by
 have hd:=drop_at (ft s at_ ha);obtain⟨c0,c1⟩:=dT hL;have hlt:=hL.lt;have hne:w.heap.size≠g:=by omega
 rw[hd];have HD:=hid hd;clear hd;generalize s.data.toList.drop (at_+1)=r at*;generalize hR:eR (s[at_]::r)=R at*;have HR:=hid hR;clear hR;go_enter Tryz.func31,Tryz.ntmps31;go_wp2_with fail;have hN:GK s g at_ w ((w.alloc (.cells #[.int .u8 0,.string ⟨#[]⟩,.int .i64 0,.int .i64 0] 46)).alloc (.cells uP 101)):=by refine⟨(At.refl hL).later (((Below.refl _ _).alloc (Nat.le_refl _) _).alloc (by simp) _),(au.new w _ _).alloc _,?_⟩;have:=au.new (w.alloc (.cells #[.int .u8 0,.string ⟨#[]⟩,.int .i64 0,.int .i64 0] 46)) 101 uP;simpa using this
 unfold uP at hN;generalize (w.alloc (.cells #[.int .u8 0,.string ⟨#[]⟩,.int .i64 0,.int .i64 0] 46)).alloc (.cells _ 101)=W at*;have HE:=hid hE;have HN0:=hid hN;clear hN hE c0 c1;go_loopw [11] (fun u wr=>∃i:Nat,i≤3∧u=.int .i64 i∧GK s g at_ w wr∧∀j,j < i→uQ j s[at_]=false) (fun u _=>3 - (intOf u).toNat);case atStart=>exact⟨0,by omega,rfl,HN0.out,fun j h=>by omega⟩
 case round=>
  obtain⟨i,hi,rfl,hn,Mo⟩:=hrel;have HB:=hid Mo;obtain⟨c0,c1⟩:=dT hn.at_.1;have GD:=hn.at_.1.lt;have HN:=hid hn;clear Mo hn;by_cases h3:i < 3
  ·rcases(show i=0∨i=1∨i=2 by omega)with rfl | rfl | rfl
   · -- reading 0
     have d0:=HN.out.VD.cell 0;have d1:=HN.out.VD.cell 1;simp[uP] at d0 d1;cases hc:uQ 0 s[at_]
     ·have HC:=hid hc;clear hc;go_wp2_with fail;go_quiet ((go_at_call 35;exact Calls.quiet_of_same (tG lh HC.out _)));go_wp2_with fail;go_roundw;case rel=>
       refine⟨1,by omega,by go_num,HN.out.later (((Below.refl _ _).alloc (Nat.le_refl _) _).trans ((dO _ nq).mono (by simp))),?_⟩;intro j hj;by_cases hjk:j=0
       ·rw[hjk];exact HC.out
       ·exact HB.out j (by omega)
      case measure=>simp[intOf]
     ·have HC:=hid hc;clear hc;go_wp2_with fail;go_quiet ((go_at_call 35;exact Calls.quiet_of_same (tG lh HC.out _)));have yJ:=hid (HN.out.later (((Below.refl _ _).alloc (Nat.le_refl _) (.cells #[.func (.func 35) #[] #[],.func (.func 61) #[] #[]] 101)).trans ((dO _ nq).mono (by simp))));go_wp2_with fail;refine(Rs s g at_ _ yJ.out.at_.1 s[at_] r HD.out HC.out hs).mono ?_;intro e w1 hp;rw[HR.out] at hp;rcases hres:R with x |⟨d,rest⟩
      ·rw[hres] at hp;obtain⟨rfl,hat⟩:=hp;obtain⟨z0,z1,z2,z3,y0,y1,y2,y3⟩:=aT (hat.other yJ.out.res hne);have je:=hid hat;have fQ:=hid hres;clear hres hat;go_wp2_with fail;refine bodyPost_ret (v:=.tuple #[.agg #[.int .u8 0,.string ⟨#[]⟩,.int .i64 0,.int .i64 0],.int .i64 x]) ?_ rfl ?_
       ·simp[results,Tryz.results31,go_sem,z0,z1,z2,z3]
       ·rw[fQ.out];exact⟨rfl,(((yJ.out.at_.trans je.out).far (Nat.le_refl _) hne 0 _).far (Nat.le_refl _) hne 1 _ |>.far (Nat.le_refl _) hne 2 _ |>.far (Nat.le_refl _) hne 3 _)⟩
      ·rw[hres] at hp;obtain⟨rfl,hat⟩:=hp;obtain⟨z0,z1,z2,z3,y0,y1,y2,y3⟩:=aT (hat.other yJ.out.res hne);have je:=hid hat;have fQ:=hid hres;clear hres hat;go_wp2_with fail;refine bodyPost_ret (v:=.tuple #[.agg #[.int .u8 d.k,.string ⟨d.s.toArray⟩,.int .i64 d.n,.int .i64 at_],.int .i64 0]) ?_ rfl ?_
       ·simp[results,Tryz.results31,go_sem,z0,z1,z2,z3]
       ·rw[fQ.out];exact⟨rfl,(((yJ.out.at_.trans je.out).far (Nat.le_refl _) hne 0 _).far (Nat.le_refl _) hne 1 _ |>.far (Nat.le_refl _) hne 2 _ |>.far (Nat.le_refl _) hne 3 _)⟩
   · -- reading 1
     have d0:=HN.out.VD.cell 2;have d1:=HN.out.VD.cell 3;simp[uP] at d0 d1;cases hc:uQ 1 s[at_]
     ·have HC:=hid hc;clear hc;go_wp2_with fail;go_quiet ((go_at_call 34;exact Calls.quiet_of_same (tG uI HC.out _)));go_wp2_with fail;go_roundw;case rel=>
       refine⟨2,by omega,by go_num,HN.out.later (((Below.refl _ _).alloc (Nat.le_refl _) _).trans ((dO _ nq).mono (by simp))),?_⟩;intro j hj;by_cases hjk:j=1
       ·rw[hjk];exact HC.out
       ·exact HB.out j (by omega)
      case measure=>simp[intOf]
     ·have HC:=hid hc;clear hc;go_wp2_with fail;go_quiet ((go_at_call 34;exact Calls.quiet_of_same (tG uI HC.out _)));have yJ:=hid (HN.out.later (((Below.refl _ _).alloc (Nat.le_refl _) (.cells #[.func (.func 34) #[] #[],.func (.func 62) #[] #[]] 101)).trans ((dO _ nq).mono (by simp))));go_wp2_with fail;refine(JX B s g at_ _ (HE.out.at_ yJ.out.at_ hB) hB yJ.out.at_.1 s[at_] r HD.out HC.out (HB.out 0 (by omega)) hs).mono ?_;intro e w1 hp;rw[HR.out] at hp;rcases hres:R with x |⟨d,rest⟩
      ·rw[hres] at hp;obtain⟨rfl,hat⟩:=hp;obtain⟨z0,z1,z2,z3,y0,y1,y2,y3⟩:=aT (hat.other yJ.out.res hne);have je:=hid hat;have fQ:=hid hres;clear hres hat;go_wp2_with fail;refine bodyPost_ret (v:=.tuple #[.agg #[.int .u8 0,.string ⟨#[]⟩,.int .i64 0,.int .i64 0],.int .i64 x]) ?_ rfl ?_
       ·simp[results,Tryz.results31,go_sem,z0,z1,z2,z3]
       ·rw[fQ.out];exact⟨rfl,(((yJ.out.at_.trans je.out).far (Nat.le_refl _) hne 0 _).far (Nat.le_refl _) hne 1 _ |>.far (Nat.le_refl _) hne 2 _ |>.far (Nat.le_refl _) hne 3 _)⟩
      ·rw[hres] at hp;obtain⟨rfl,hat⟩:=hp;obtain⟨z0,z1,z2,z3,y0,y1,y2,y3⟩:=aT (hat.other yJ.out.res hne);have je:=hid hat;have fQ:=hid hres;clear hres hat;go_wp2_with fail;refine bodyPost_ret (v:=.tuple #[.agg #[.int .u8 d.k,.string ⟨d.s.toArray⟩,.int .i64 d.n,.int .i64 at_],.int .i64 0]) ?_ rfl ?_
       ·simp[results,Tryz.results31,go_sem,z0,z1,z2,z3]
       ·rw[fQ.out];exact⟨rfl,(((yJ.out.at_.trans je.out).far (Nat.le_refl _) hne 0 _).far (Nat.le_refl _) hne 1 _ |>.far (Nat.le_refl _) hne 2 _ |>.far (Nat.le_refl _) hne 3 _)⟩
   · -- reading 2
     have d0:=HN.out.VD.cell 4;have d1:=HN.out.VD.cell 5;simp[uP] at d0 d1;cases hc:uQ 2 s[at_]
     ·have HC:=hid hc;clear hc;go_wp2_with fail;go_quiet ((go_at_call 63;exact Calls.quiet_of_same (tG zS HC.out _)));go_wp2_with fail;go_roundw;case rel=>
       refine⟨3,by omega,by go_num,HN.out.later (((Below.refl _ _).alloc (Nat.le_refl _) _).trans ((dO _ nq).mono (by simp))),?_⟩;intro j hj;by_cases hjk:j=2
       ·rw[hjk];exact HC.out
       ·exact HB.out j (by omega)
      case measure=>simp[intOf]
     ·have HC:=hid hc;clear hc;go_wp2_with fail;go_quiet ((go_at_call 63;exact Calls.quiet_of_same (tG zS HC.out _)));have yJ:=hid (HN.out.later (((Below.refl _ _).alloc (Nat.le_refl _) (.cells #[.func (.func 63) #[] #[],.func (.func 64) #[] #[]] 101)).trans ((dO _ nq).mono (by simp))));go_wp2_with fail;refine(Rq s g at_ _ yJ.out.at_.1 r (by rw[HD.out];exact congrArg (· ::r) (by simpa [uQ] using HC.out)) hs).mono ?_;intro e w1 hp;rw[←(show s[at_]=39 by simpa [uQ] using HC.out),HR.out] at hp;rcases hres:R with x |⟨d,rest⟩
      ·rw[hres] at hp;obtain⟨rfl,hat⟩:=hp;obtain⟨z0,z1,z2,z3,y0,y1,y2,y3⟩:=aT (hat.other yJ.out.res hne);have je:=hid hat;have fQ:=hid hres;clear hres hat;go_wp2_with fail;refine bodyPost_ret (v:=.tuple #[.agg #[.int .u8 0,.string ⟨#[]⟩,.int .i64 0,.int .i64 0],.int .i64 x]) ?_ rfl ?_
       ·simp[results,Tryz.results31,go_sem,z0,z1,z2,z3]
       ·rw[fQ.out];exact⟨rfl,(((yJ.out.at_.trans je.out).far (Nat.le_refl _) hne 0 _).far (Nat.le_refl _) hne 1 _ |>.far (Nat.le_refl _) hne 2 _ |>.far (Nat.le_refl _) hne 3 _)⟩
      ·rw[hres] at hp;obtain⟨rfl,hat⟩:=hp;obtain⟨z0,z1,z2,z3,y0,y1,y2,y3⟩:=aT (hat.other yJ.out.res hne);have je:=hid hat;have fQ:=hid hres;clear hres hat;go_wp2_with fail;refine bodyPost_ret (v:=.tuple #[.agg #[.int .u8 d.k,.string ⟨d.s.toArray⟩,.int .i64 d.n,.int .i64 at_],.int .i64 0]) ?_ rfl ?_
       ·simp[results,Tryz.results31,go_sem,z0,z1,z2,z3]
       ·rw[fQ.out];exact⟨rfl,(((yJ.out.at_.trans je.out).far (Nat.le_refl _) hne 0 _).far (Nat.le_refl _) hne 1 _ |>.far (Nat.le_refl _) hne 2 _ |>.far (Nat.le_refl _) hne 3 _)⟩
  ·obtain rfl:i=3:=by omega
   go_wp2_with fail;refine(Ru B s g at_ _ (HE.out.at_ HN.out.at_ hB) hB HN.out.at_.1 s[at_] r HD.out (HB.out 0 (by omega)) (HB.out 1 (by omega)) (by simpa [uQ] using HB.out 2 (by omega)) hs).mono ?_;intro e w1 hp;rw[HR.out] at hp;have yJ:=HN;rcases hres:R with x |⟨d,rest⟩
   ·rw[hres] at hp;obtain⟨rfl,hat⟩:=hp;obtain⟨z0,z1,z2,z3,y0,y1,y2,y3⟩:=aT (hat.other yJ.out.res hne);have je:=hid hat;have fQ:=hid hres;clear hres hat;go_wp2_with fail;refine bodyPost_ret (v:=.tuple #[.agg #[.int .u8 0,.string ⟨#[]⟩,.int .i64 0,.int .i64 0],.int .i64 x]) ?_ rfl ?_
    ·simp[results,Tryz.results31,go_sem,z0,z1,z2,z3]
    ·rw[fQ.out];exact⟨rfl,(((yJ.out.at_.trans je.out).far (Nat.le_refl _) hne 0 _).far (Nat.le_refl _) hne 1 _ |>.far (Nat.le_refl _) hne 2 _ |>.far (Nat.le_refl _) hne 3 _)⟩
   ·rw[hres] at hp;obtain⟨rfl,hat⟩:=hp;obtain⟨z0,z1,z2,z3,y0,y1,y2,y3⟩:=aT (hat.other yJ.out.res hne);have je:=hid hat;have fQ:=hid hres;clear hres hat;go_wp2_with fail;refine bodyPost_ret (v:=.tuple #[.agg #[.int .u8 d.k,.string ⟨d.s.toArray⟩,.int .i64 d.n,.int .i64 at_],.int .i64 0]) ?_ rfl ?_
    ·simp[results,Tryz.results31,go_sem,z0,z1,z2,z3]
    ·rw[fQ.out];exact⟨rfl,(((yJ.out.at_.trans je.out).far (Nat.le_refl _) hne 0 _).far (Nat.le_refl _) hne 1 _ |>.far (Nat.le_refl _) hne 2 _ |>.far (Nat.le_refl _) hne 3 _)⟩
end Go.Proofs.YtcneefmaghoejaaGreatDoor
