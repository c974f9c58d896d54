/- Parts of the proof. -/
import Derived.Test.YtfmbcoeallmnnaaGreatDoorD24
namespace Go.Proofs.YtfmbcoeallmnnaaGreatDoor.R
open Go.Lib (hid)
open Go.ChangeShapes Go.WideShapes Go.ChangeAt Go.RowKit
set_option linter.unusedVariables false
set_option linter.unusedSimpArgs false
theorem NY:∀(l:List UInt8) (v:Nat),v*10 ^ l.length≤l.foldl (fun v c=>v*10+(c.toNat - 48)) v
 | [],v=>by simp
 | c::l,v=>by
   have:=NY l (v*10+(c.toNat - 48));simp only[List.foldl_cons,List.length_cons,Nat.pow_succ];have h:v*10*10 ^ l.length≤(v*10+(c.toNat - 48))*10 ^ l.length:=Nat.mul_le_mul_right _ (by omega);have e:v*(10 ^ l.length*10)=v*10*10 ^ l.length:=by rw[Nat.mul_comm (10 ^ l.length),Nat.mul_assoc]
   rw[e];omega
theorem NZ {l:List UInt8}(hd:∀c∈l,bH c=true)(hl:19 < l.length)(h0:l.head?≠some 48):9223372036854775807 < kM l:=by
 match l with
 | []=>simp at hl
 | c::r=>
   have hc:=hd c List.mem_cons_self;simp[bH,UInt8.le_iff_toNat_le] at hc;have h48:c.toNat≠48:=fun e=>h0 (by rw[show c=48 from UInt8.toNat_inj.1 e];rfl)
   have h1:=NY r (0*10+(c.toNat - 48));have h2:10 ^ 19≤10 ^ r.length:=Nat.pow_le_pow_right (by decide) (by simp at hl;omega);have h3:1*10 ^ r.length≤(0*10+(c.toNat - 48))*10 ^ r.length:=Nat.mul_le_mul_right _ (by omega);show _ < List.foldl _ _ _;rw[List.foldl_cons];have h4:(10:Nat)^ 19=10000000000000000000:=by decide
   omega
theorem Oa {l:List UInt8} {i:Nat} {c:UInt8}(h:l[i]?=some c):kM (l.take (i+1))=kM (l.take i)*10+(c.toNat - 48):=by rw[List.take_add_one,h];exact NR _ _
theorem Gu (l:List UInt8)(i:Nat):kM (l.take i)≤kM l:=by
 conv=>rhs;rw[← List.take_append_drop i l]
 unfold kM;rw[List.foldl_append];exact NS _ _
theorem Ob {c:UInt8}(h:bH c=true):48≤c.toNat∧c.toNat≤57:=by simpa [bH,UInt8.le_iff_toNat_le] using h
def jQ (q:List UInt8)(w:World)(e:Ending)(w':World):Prop:=(if sS q=true then e=.returned (.tuple #[.int .i64 (kM q),.bool true])else e=.returned (.tuple #[.int .i64 0,.bool false]))∧w=w'
theorem Gv {q:List UInt8} {w:World} {e:Ending}(h:sS q=false)(he:e=.returned (.tuple #[.int .i64 0,.bool false])):jQ q w e w:=by unfold jQ;rw[h,if_neg (by decide)];exact⟨he,rfl⟩
theorem Rz {q:List UInt8} {w:World} {e:Ending}(h:sS q=true)(he:e=.returned (.tuple #[.int .i64 (kM q),.bool true])):jQ q w e w:=by unfold jQ;rw[if_pos h];exact⟨he,rfl⟩
set_option maxHeartbeats 4000000
set_option maxRecDepth 100000
theorem uY (s:ByteArray)(w:World)(hd:∀c∈s.data.toList,bH c=true)(h0:0 < s.size)(hs:s.size≤4294967280):Calls Tryz.prog 126 #[.string s] w (jQ s.data.toList w):=by
 have HLEN:=hid (show s.data.toList.length=s.size by simp);have HDG:=hid hd;have TA:s.data.toList.head?=some s[0]:=by rw[List.head?_eq_getElem?];exact eQ s 0 h0
 have HH:=hid TA;clear hd TA;by_cases hz:1 < s.size∧s[0]=48
 ·have t1:(((s[0].toNat:Nat):Int)==48)=true:=by rw[hz.2];rfl
  have HB:=hid (show sS s.data.toList=false by
   have:¬s.data.toList.length≤1:=by rw[HLEN.out];omega
   simp only[sS,HH.out,hz.2,this]
   rfl)
  have hz1:=hz.1;clear hz;go_enter Tryz.func126,Tryz.ntmps126;go_wp2_with fail;go_ret2;exact Gv HB.out rfl
 ·by_cases Zg:19 < s.size
  ·have t1:(((s[0].toNat:Nat):Int)==48)=false:=by rw[beq_eq_false_iff_ne];intro h;exact hz ⟨by omega,UInt8.toNat_inj.1 (by simpa using(by omega:s[0].toNat=48))⟩
   have HB:=hid (show sS s.data.toList=false by
    have h1:=NZ HDG.out (by rw[HLEN.out];exact Zg) (by rw[HH.out];intro e;injection e with e;exact hz ⟨by omega,e⟩)
    have h2:¬kM s.data.toList≤9223372036854775807:=by omega
    simp only[sS,h2]
    simp)
   clear hz;go_enter Tryz.func126,Tryz.ntmps126;go_wp2_with fail;go_ret2;exact Gv HB.out rfl
  ·have HF:=hid (show(decide (s.data.toList.length≤1)|| !(s.data.toList.head?==some 48))=true by
    rw[HLEN.out,HH.out]
    by_cases h1:s.size≤1
    ·simp[h1]
    ·have:s[0]≠48:=fun e=>hz ⟨by omega,e⟩
     simp[h1,this])
   have hz2:¬(1 < s.size)∨(1 < s.size∧(((s[0].toNat:Nat):Int)==48)=false):=by
    by_cases h1:1 < s.size
    ·refine .inr ⟨h1,?_⟩;rw[beq_eq_false_iff_ne];intro h;exact hz ⟨h1,UInt8.toNat_inj.1 (by simpa using(by omega:s[0].toNat=48))⟩
    ·exact .inl h1
   clear hz;rcases hz2 with hz2 |⟨hz1,hz2⟩;all_goals
    go_enter Tryz.func126,Tryz.ntmps126;go_wp2_with fail;go_loop [4,5] (fun v u=>∃i:Nat,i≤s.size∧u=.int .i64 i∧v=.int .i64 (kM (s.data.toList.take i):Nat)∧kM (s.data.toList.take i)≤9223372036854775807) (fun _ u=>s.size - (intOf u).toNat);case atStart=>exact⟨0,by omega,rfl,rfl,by simp[kM]⟩
    case round=>
     obtain⟨i,hi,rfl,rfl,hv⟩:=hrel;by_cases hlt:i < s.size
     ·have HB:=hid (eQ s i hlt);obtain⟨d1,d2⟩:=Ob (HDG.out s[i] (List.mem_of_getElem? HB.out));have HV:=hid (Oa HB.out);have RB:=hid (Gu s.data.toList (i+1));generalize lU:kM (s.data.toList.take i)=v at*;have O1:=hid lU;clear lU;by_cases uZ:v*10+(s[i].toNat - 48)≤9223372036854775807
      ·have n1:=decide_eq_false (show¬((9223372036854775807 - ((s[i].toNat:Int) - 48))/ 10 <(v:Int)) by omega);go_wp2_with fail;go_round;case rel=>
        refine⟨i+1,hlt,by go_num,?_,by rw[HV.out];exact uZ⟩;rw[HV.out];have:((v*10+(s[i].toNat - 48):Nat):Int)=(v:Int)*10+((s[i].toNat:Int) - 48):=by omega
        rw[this]
       case measure=>simp[intOf];omega
      ·have n1:=decide_eq_true (show((9223372036854775807 - ((s[i].toNat:Int) - 48))/ 10 <(v:Int)) by omega);go_wp2_with fail;go_ret2;refine Gv ?_ rfl;have h1:=RB.out;rw[HV.out] at h1;have h2:¬kM s.data.toList≤9223372036854775807:=by omega
       simp only[sS,h2];simp
     ·go_wp2_with fail;go_ret2;have e1:s.data.toList.take i=s.data.toList:=List.take_of_length_le (by rw[HLEN.out];omega);rw[e1] at hv ⊢;exact Rz (by rw[sS,HF.out];simpa using hv) rfl
def vz (s:ByteArray)(at_:Nat)(w:World)(r:Except Nat (Wd×List UInt8))(e:Ending)(w':World):Prop:=
 match r with
 | .ok (d,rest)=>e=.returned (.tuple #[.agg #[.int .u8 d.k,.string ⟨d.s.toArray⟩,.int .i64 d.n,.int .i64 at_],.int .i64 (s.size - rest.length:Nat),.int .i64 0])∧Below w.heap.size w w'
 | .error x=>e=.returned (.tuple #[.agg #[.int .u8 0,.string ⟨#[]⟩,.int .i64 0,.int .i64 0],.int .i64 0,.int .i64 x])∧Below w.heap.size w w'
theorem tj {B:Nat} {w w':World}(h:Below B w w') {q:Nat}(hq:B≤q)(a b c d:Value):Below B w ((((w'.setCell ⟨q,0,none⟩ a).setCell ⟨q,1,none⟩ b).setCell ⟨q,2,none⟩ c).setCell ⟨q,3,none⟩ d):=
 (((h.setCell (p:=⟨q,0,none⟩) hq a).setCell (p:=⟨q,1,none⟩) hq b).setCell (p:=⟨q,2,none⟩) hq c).setCell (p:=⟨q,3,none⟩) hq d
theorem Oc (s:ByteArray)(at_:Nat)(w:World)(ha:at_ < s.size)(hc:fL s[at_]=true)(hs:s.size≤4294967280):
  Calls Tryz.prog 103 #[.string s,.int .i64 at_] w (vz s at_ w (iw (s.data.toList.drop at_))):=by
 have hd:=cJ (eQ s at_ ha);have jT:iw (s.data.toList.drop at_)=if iy eO s.data.toList at_ - at_≤32 then .ok (⟨1,((s.data.toList.drop at_).takeWhile eO).map sR,0⟩,(s.data.toList.drop at_).dropWhile eO)else .error 2:=by rw[Rv,hd];simp only[iw,if_pos hc]
 generalize iw (s.data.toList.drop at_)=R at*;have lS:=hid jT;have HC:=hid hc;have HLEN:=hid (show s.data.toList.length=s.size by simp);clear jT hd hc;go_enter Tryz.func103,Tryz.ntmps103;go_wp2_with (go_at_call 123;refine(dX s[at_] _).mono ?_;rintro e w' ⟨rfl,rfl⟩;rw[HC.out]);have HZ:=hid (ag.new w 116 #[.int .u8 0,.string ⟨#[]⟩,.int .i64 0,.int .i64 0]);have bb:=aa w (.cells #[.int .u8 0,.string ⟨#[]⟩,.int .i64 0,.int .i64 0] 116);have hsz:(w.alloc (.cells #[.int .u8 0,.string ⟨#[]⟩,.int .i64 0,.int .i64 0] 116)).heap.size=w.heap.size+1:=by simp
 generalize w.alloc (.cells #[.int .u8 0,.string ⟨#[]⟩,.int .i64 0,.int .i64 0] 116)=W at*;have TB:=hid hsz;clear hsz;go_loop [8] (fun u=>∃k:Nat,at_≤k∧k≤s.size∧u=.int .i64 k∧iy eO s.data.toList at_=iy eO s.data.toList k) (fun u=>s.size - (intOf u).toNat);case atStart=>exact⟨at_,Nat.le_refl _,by omega,rfl,rfl⟩
 case round=>
  obtain⟨k,QM,hk2,rfl,hf⟩:=hrel;have HF:=hid hf;clear hf;by_cases hlt:k < s.size
  ·have HB:=hid (eQ s k hlt);cases hl:fL s[k]
   ·have HL:=hid hl;cases hd:bH s[k]
    ·have HD:=hid hd;have nC:=hid (show iy eO s.data.toList at_=k by rw[HF.out];exact IU HB.out (by simp[eO,hl,hd]));clear hl hd;by_cases Zh:k - at_≤32
     ·have n1:=decide_eq_false (show¬(32:Int)<(k:Int) - at_ by omega);go_wp2_with (first
       |(go_at_call 123;refine(dX s[k] _).mono ?_;rintro e w' ⟨rfl,rfl⟩;rw[HL.out])
       |(go_at_call 124;refine(eM s[k] _).mono ?_;rintro e w' ⟨rfl,rfl⟩;rw[HD.out]))
      refine(Ak (s.extract at_ k) _ (by rw[ByteArray.size_extract];omega)).mono ?_;rintro e w1 ⟨rfl,b1⟩;have HE:=hid (show(s.extract at_ k).data.toList=(s.data.toList.drop at_).takeWhile eO by rw[← nC.out];exact mi eO s at_);obtain⟨z0,z1,z2,z3,y0,y1,y2,y3⟩:=bl (HZ.out.later b1);rw[HE.out];go_wp2_with fail;refine bodyPost_ret (v:=.tuple #[.agg #[.int .u8 1,.string ⟨(((s.data.toList.drop at_).takeWhile eO).map sR).toArray⟩,.int .i64 0,.int .i64 at_],.int .i64 k,.int .i64 0]) ?_ rfl ?_
      ·simp[results,Tryz.results103,go_sem,z0,z1,z2,z3]
      ·rw[lS.out,nC.out,if_pos Zh];unfold vz;simp only;rw[th eO s (by omega),nC.out];exact⟨rfl,tj (bb.trans (b1.mono bb.size)) (Nat.le_refl _) _ _ _ _⟩
     ·have n1:=decide_eq_true (show(32:Int)<(k:Int) - at_ by omega);obtain⟨z0,z1,z2,z3,y0,y1,y2,y3⟩:=bl HZ.out;go_wp2_with (first
       |(go_at_call 123;refine(dX s[k] _).mono ?_;rintro e w' ⟨rfl,rfl⟩;rw[HL.out])
       |(go_at_call 124;refine(eM s[k] _).mono ?_;rintro e w' ⟨rfl,rfl⟩;rw[HD.out]))
      refine bodyPost_ret (v:=.tuple #[.agg #[.int .u8 0,.string ⟨#[]⟩,.int .i64 0,.int .i64 0],.int .i64 0,.int .i64 2]) ?_ rfl ?_
      ·simp[results,Tryz.results103,go_sem,z0,z1,z2,z3]
      ·rw[lS.out,nC.out,if_neg Zh];exact⟨rfl,tj bb (Nat.le_refl _) _ _ _ _⟩
    ·have HD:=hid hd;have nC:=hid (show iy eO s.data.toList at_=iy eO s.data.toList (k+1) by rw[HF.out];exact xS HB.out (by simp[eO,hl,hd]));clear hl hd;go_wp2_with (first
      |(go_at_call 123;refine(dX s[k] _).mono ?_;rintro e w' ⟨rfl,rfl⟩;rw[HL.out])
      |(go_at_call 124;refine(eM s[k] _).mono ?_;rintro e w' ⟨rfl,rfl⟩;rw[HD.out]))
     go_round;case rel=>exact⟨k+1,by omega,hlt,by go_num,nC.out⟩
     case measure=>simp[intOf];omega
   ·have HL:=hid hl;have nC:=hid (show iy eO s.data.toList at_=iy eO s.data.toList (k+1) by rw[HF.out];exact xS HB.out (by simp[eO,hl]));clear hl;go_wp2_with (go_at_call 123;refine(dX s[k] _).mono ?_;rintro e w' ⟨rfl,rfl⟩;rw[HL.out]);go_round;case rel=>exact⟨k+1,by omega,hlt,by go_num,nC.out⟩
    case measure=>simp[intOf];omega
  ·have nC:=hid (show iy eO s.data.toList at_=k by rw[HF.out];exact DR (by rw[HLEN.out];omega));by_cases Zh:k - at_≤32
   ·have n1:=decide_eq_false (show¬(32:Int)<(k:Int) - at_ by omega);go_wp2_with fail;refine(Ak (s.extract at_ k) _ (by rw[ByteArray.size_extract];omega)).mono ?_;rintro e w1 ⟨rfl,b1⟩;have HE:=hid (show(s.extract at_ k).data.toList=(s.data.toList.drop at_).takeWhile eO by rw[← nC.out];exact mi eO s at_);obtain⟨z0,z1,z2,z3,y0,y1,y2,y3⟩:=bl (HZ.out.later b1);rw[HE.out];go_wp2_with fail;refine bodyPost_ret (v:=.tuple #[.agg #[.int .u8 1,.string ⟨(((s.data.toList.drop at_).takeWhile eO).map sR).toArray⟩,.int .i64 0,.int .i64 at_],.int .i64 k,.int .i64 0]) ?_ rfl ?_
    ·simp[results,Tryz.results103,go_sem,z0,z1,z2,z3]
    ·rw[lS.out,nC.out,if_pos Zh];unfold vz;simp only;rw[th eO s (by omega),nC.out];exact⟨rfl,tj (bb.trans (b1.mono bb.size)) (Nat.le_refl _) _ _ _ _⟩
   ·have n1:=decide_eq_true (show(32:Int)<(k:Int) - at_ by omega);obtain⟨z0,z1,z2,z3,y0,y1,y2,y3⟩:=bl HZ.out;go_wp2_with fail;refine bodyPost_ret (v:=.tuple #[.agg #[.int .u8 0,.string ⟨#[]⟩,.int .i64 0,.int .i64 0],.int .i64 0,.int .i64 2]) ?_ rfl ?_
    ·simp[results,Tryz.results103,go_sem,z0,z1,z2,z3]
    ·rw[lS.out,nC.out,if_neg Zh];exact⟨rfl,tj bb (Nat.le_refl _) _ _ _ _⟩
theorem one_num (s:ByteArray)(at_:Nat)(w:World)(ha:at_ < s.size)(hl:fL s[at_]=false)(hc:bH s[at_]=true)(hs:s.size≤4294967280):
  Calls Tryz.prog 103 #[.string s,.int .i64 at_] w (vz s at_ w (iw (s.data.toList.drop at_))):=by
 have hd:=cJ (eQ s at_ ha);have jT:iw (s.data.toList.drop at_)=if sS ((s.data.toList.drop at_).takeWhile bH)&& !(((s.data.toList.drop at_).dropWhile bH).head?.any fL)then .ok (⟨2,[],kM ((s.data.toList.drop at_).takeWhile bH)⟩,(s.data.toList.drop at_).dropWhile bH)else .error 30:=by rw[hd];simp only[iw,hl,if_pos hc];rfl
 have JK:0 <((s.data.toList.drop at_).takeWhile bH).length:=by rw[hd,List.takeWhile_cons,if_pos hc];simp
 generalize iw (s.data.toList.drop at_)=R at*;have lS:=hid jT;have Zi:=hid JK;have HC:=hid hc;have Zj:=hid hl;have HLEN:=hid (show s.data.toList.length=s.size by simp);clear jT hd hc hl JK;go_enter Tryz.func103,Tryz.ntmps103;go_wp2_with (first
  |(go_at_call 123;refine(dX s[at_] _).mono ?_;rintro e w' ⟨rfl,rfl⟩;rw[Zj.out])
  |(go_at_call 124;refine(eM s[at_] _).mono ?_;rintro e w' ⟨rfl,rfl⟩;rw[HC.out]))
 have HZ:=hid (ag.new w 116 #[.int .u8 0,.string ⟨#[]⟩,.int .i64 0,.int .i64 0]);have bb:=aa w (.cells #[.int .u8 0,.string ⟨#[]⟩,.int .i64 0,.int .i64 0] 116);generalize w.alloc (.cells #[.int .u8 0,.string ⟨#[]⟩,.int .i64 0,.int .i64 0] 116)=W at*;go_loop [8] (fun u=>∃k:Nat,at_≤k∧k≤s.size∧u=.int .i64 k∧iy bH s.data.toList at_=iy bH s.data.toList k) (fun u=>s.size - (intOf u).toNat);case atStart=>exact⟨at_,Nat.le_refl _,by omega,rfl,rfl⟩
 case round=>
  obtain⟨k,QM,hk2,rfl,hf⟩:=hrel;have HF:=hid hf;clear hf;by_cases hlt:k < s.size
  ·have HB:=hid (eQ s k hlt);cases hd:bH s[k]
   ·have HD:=hid hd;have nC:=hid (show iy bH s.data.toList at_=k by rw[HF.out];exact IU HB.out hd);clear hd;have HE:=hid (show(s.extract at_ k).data.toList=(s.data.toList.drop at_).takeWhile bH by rw[← nC.out];exact mi bH s at_);have hx1:0 <(s.extract at_ k).size:=by have h1:=Zi.out;rw[← HE.out] at h1;simpa only[ByteArray.size_data,Array.length_toList] using h1
    have hx2:(s.extract at_ k).size≤4294967280:=by rw[ByteArray.size_extract];omega
    have HN:=hid (uY (s.extract at_ k) W (by rw[HE.out];exact IW _) hx1 hx2);have IZ:=hid (show(s.data.toList.drop at_).dropWhile bH=s.data.toList.drop k by rw[← xT,nC.out]);clear hx1 hx2;obtain⟨z0,z1,z2,z3,y0,y1,y2,y3⟩:=bl HZ.out;cases RD:sS ((s.data.toList.drop at_).takeWhile bH)
    ·have zo:=hid RD;clear RD;go_wp2_with (go_at_call 124;refine(eM s[k] _).mono ?_;rintro e w' ⟨rfl,rfl⟩;rw[HD.out]);refine HN.out.mono ?_;unfold jQ;rw[HE.out,zo.out];rintro e w1 ⟨he,rfl⟩;rw[if_neg (by decide)] at he;subst he;go_wp2_with fail;refine bodyPost_ret (v:=.tuple #[.agg #[.int .u8 0,.string ⟨#[]⟩,.int .i64 0,.int .i64 0],.int .i64 0,.int .i64 30]) ?_ rfl ?_
     ·simp[results,Tryz.results103,go_sem,z0,z1,z2,z3]
     ·rw[lS.out,zo.out];exact⟨rfl,tj bb (Nat.le_refl _) _ _ _ _⟩
    ·have zo:=hid RD;clear RD;cases Xm:fL s[k]
     ·have O5:=hid Xm;have HR:=hid (show R=.ok (⟨2,[],kM ((s.data.toList.drop at_).takeWhile bH)⟩,(s.data.toList.drop at_).dropWhile bH) by
       rw[lS.out,zo.out,IZ.out,cJ HB.out]
       simp[Xm])
      clear Xm;go_wp2_with (go_at_call 124;refine(eM s[k] _).mono ?_;rintro e w' ⟨rfl,rfl⟩;rw[HD.out]);refine HN.out.mono ?_;unfold jQ;rw[HE.out,zo.out];rintro e w1 ⟨he,rfl⟩;rw[if_pos rfl] at he;subst he;go_wp2_with (go_at_call 123;refine(dX s[k] _).mono ?_;rintro e w' ⟨rfl,rfl⟩;rw[O5.out]);refine bodyPost_ret (v:=.tuple #[.agg #[.int .u8 2,.string ⟨#[]⟩,.int .i64 (kM ((s.data.toList.drop at_).takeWhile bH)),.int .i64 at_],.int .i64 k,.int .i64 0]) ?_ rfl ?_
      ·simp[results,Tryz.results103,go_sem,z0,z1,z2,z3]
      ·rw[HR.out];unfold vz;simp only;rw[th bH s (by omega),nC.out];exact⟨rfl,tj bb (Nat.le_refl _) _ _ _ _⟩
     ·have O5:=hid Xm;have HR:=hid (show R=.error 30 by
       rw[lS.out,zo.out,IZ.out,cJ HB.out]
       simp[Xm])
      clear Xm;go_wp2_with (go_at_call 124;refine(eM s[k] _).mono ?_;rintro e w' ⟨rfl,rfl⟩;rw[HD.out]);refine HN.out.mono ?_;unfold jQ;rw[HE.out,zo.out];rintro e w1 ⟨he,rfl⟩;rw[if_pos rfl] at he;subst he;go_wp2_with (go_at_call 123;refine(dX s[k] _).mono ?_;rintro e w' ⟨rfl,rfl⟩;rw[O5.out]);refine bodyPost_ret (v:=.tuple #[.agg #[.int .u8 0,.string ⟨#[]⟩,.int .i64 0,.int .i64 0],.int .i64 0,.int .i64 30]) ?_ rfl ?_
      ·simp[results,Tryz.results103,go_sem,z0,z1,z2,z3]
      ·rw[HR.out];exact⟨rfl,tj bb (Nat.le_refl _) _ _ _ _⟩
   ·have HD:=hid hd;have nC:=hid (show iy bH s.data.toList at_=iy bH s.data.toList (k+1) by rw[HF.out];exact xS HB.out hd);clear hd;go_wp2_with (go_at_call 124;refine(eM s[k] _).mono ?_;rintro e w' ⟨rfl,rfl⟩;rw[HD.out]);go_round;case rel=>exact⟨k+1,by omega,hlt,by go_num,nC.out⟩
    case measure=>simp[intOf];omega
  ·have nC:=hid (show iy bH s.data.toList at_=k by rw[HF.out];exact DR (by rw[HLEN.out];omega));have HE:=hid (show(s.extract at_ k).data.toList=(s.data.toList.drop at_).takeWhile bH by rw[← nC.out];exact mi bH s at_);have hx1:0 <(s.extract at_ k).size:=by have h1:=Zi.out;rw[← HE.out] at h1;simpa only[ByteArray.size_data,Array.length_toList] using h1
   have hx2:(s.extract at_ k).size≤4294967280:=by rw[ByteArray.size_extract];omega
   have HN:=hid (uY (s.extract at_ k) W (by rw[HE.out];exact IW _) hx1 hx2);have IZ:=hid (show(s.data.toList.drop at_).dropWhile bH=s.data.toList.drop k by rw[← xT,nC.out]);clear hx1 hx2;obtain⟨z0,z1,z2,z3,y0,y1,y2,y3⟩:=bl HZ.out;cases RD:sS ((s.data.toList.drop at_).takeWhile bH)
   ·have zo:=hid RD;clear RD;go_wp2_with fail;refine HN.out.mono ?_;unfold jQ;rw[HE.out,zo.out];rintro e w1 ⟨he,rfl⟩;rw[if_neg (by decide)] at he;subst he;go_wp2_with fail;refine bodyPost_ret (v:=.tuple #[.agg #[.int .u8 0,.string ⟨#[]⟩,.int .i64 0,.int .i64 0],.int .i64 0,.int .i64 30]) ?_ rfl ?_
    ·simp[results,Tryz.results103,go_sem,z0,z1,z2,z3]
    ·rw[lS.out,zo.out];exact⟨rfl,tj bb (Nat.le_refl _) _ _ _ _⟩
   ·have zo:=hid RD;clear RD;have HR:=hid (show R=.ok (⟨2,[],kM ((s.data.toList.drop at_).takeWhile bH)⟩,(s.data.toList.drop at_).dropWhile bH) by
     rw[lS.out,zo.out,IZ.out,List.drop_eq_nil_of_le (by rw[HLEN.out];omega)]
     rfl)
    go_wp2_with fail;refine HN.out.mono ?_;unfold jQ;rw[HE.out,zo.out];rintro e w1 ⟨he,rfl⟩;rw[if_pos rfl] at he;subst he;go_wp2_with fail;refine bodyPost_ret (v:=.tuple #[.agg #[.int .u8 2,.string ⟨#[]⟩,.int .i64 (kM ((s.data.toList.drop at_).takeWhile bH)),.int .i64 at_],.int .i64 k,.int .i64 0]) ?_ rfl ?_
    ·simp[results,Tryz.results103,go_sem,z0,z1,z2,z3]
    ·rw[HR.out];unfold vz;simp only;rw[th bH s (by omega),nC.out];exact⟨rfl,tj bb (Nat.le_refl _) _ _ _ _⟩
theorem vd (s:ByteArray)(k:Nat)(hk:k < s.size):s.extract k (k+1)=⟨#[s[k]]⟩:=by
 have h:=nP s k (k+1);have h2:(s.data.toList.take (k+1)).drop k=[s[k]]:=by
  rw[List.drop_take,cJ (eQ s k hk)];have:k+1 - k=1:=by omega
  rw[this];rfl
 rw[h2] at h;apply Go.WideShapes.bytes_inj;rw[h]
theorem kO (s:ByteArray)(a b:Nat)(x y:Int)(hx:x=a)(hy:y=b)(hab:a≤b)(hb:b≤s.size)(w:World):
  (Instr.slice 9 (.string s) (some (.int .i64 x)) (some (.int .i64 y)) none).run Tryz.prog w=.ok (.string (s.extract a b)) w:=by
 subst hx hy;have:=run_slice_string (P:=Tryz.prog) (w:=w) 9 s .i64 .i64 a b Tryz.underlying9 (by omega) (by omega) (by omega);simpa using this
theorem Od (s:ByteArray)(at_:Nat)(w:World)(ha:at_ < s.size)(hl:fL s[at_]=false)(Vz:bH s[at_]=false)(hq:s[at_]=39)(hs:s.size≤4294967280):
  Calls Tryz.prog 103 #[.string s,.int .i64 at_] w (vz s at_ w (iw (s.data.toList.drop at_))):=by
 have hd:=cJ (eQ s at_ ha);have jT:iw (s.data.toList.drop at_)=match more [] (fM (s.data.toList.drop (at_+1)))with
   | some (t,rest)=> .ok (⟨3,t,0⟩,rest)
   | none=> .error 30:=by
  rw[NT,hd];simp only[iw,hl,Vz,if_pos hq];rfl
 generalize iw (s.data.toList.drop at_)=R at*;have t0:(((s[at_].toNat:Nat):Int)==39)=true:=by rw[hq];rfl
 have lS:=hid jT;have Zj:=hid hl;have PY:=hid Vz;have HLEN:=hid (show s.data.toList.length=s.size by simp);clear jT hd hl Vz hq;go_enter Tryz.func103,Tryz.ntmps103;go_wp2_with (first
  |(go_at_call 123;refine(dX s[at_] _).mono ?_;rintro e w' ⟨rfl,rfl⟩;rw[Zj.out])
  |(go_at_call 124;refine(eM s[at_] _).mono ?_;rintro e w' ⟨rfl,rfl⟩;rw[PY.out]))
 have HZ:=hid (ag.new w 116 #[.int .u8 0,.string ⟨#[]⟩,.int .i64 0,.int .i64 0]);have bb:=aa w (.cells #[.int .u8 0,.string ⟨#[]⟩,.int .i64 0,.int .i64 0] 116);generalize w.alloc (.cells #[.int .u8 0,.string ⟨#[]⟩,.int .i64 0,.int .i64 0] 116)=W at*;obtain⟨z0,z1,z2,z3,y0,y1,y2,y3⟩:=bl HZ.out;clear t0;go_loop [8,11] (fun u x=>∃(k:Nat) (acc:List UInt8),k≤s.size∧acc.length≤k∧u=.int .i64 k∧x=.string ⟨acc.toArray⟩∧more [] (fM (s.data.toList.drop (at_+1)))=more acc (fM (s.data.toList.drop k))) (fun u _=>s.size - (intOf u).toNat);case atStart=>exact⟨at_+1,[],ha,by simp,by go_num,rfl,rfl⟩
 case round=>
  obtain⟨k,acc,hk,uh,rfl,rfl,hm⟩:=hrel;have HM:=hid hm;clear hm;by_cases Ig:k < s.size
  ·have HB:=hid (eQ s k Ig);by_cases hq:s[k]=39
   ·have HQ:=hid hq;have t1:(((s[k].toNat:Nat):Int)==39)=true:=by rw[hq];rfl
    clear hq;by_cases QM:k+1 < s.size
    ·have TC:=hid (eQ s (k+1) QM);have n2:=decide_eq_false (show¬((s.size:Int)≤(k:Int)+1) by omega);by_cases RF:s[k+1]=39
     ·have Fi:=hid RF;have t2:(((s[k+1].toNat:Nat):Int)==39)=true:=by rw[RF];rfl
      have t3:(((s[k+1].toNat:Nat):Int) != 39)=false:=by rw[RF];rfl
      have hx:=vd s (k+1) QM;have kG:=kO s (k+1) (k+1+1) ((k:Int)+1) ((k:Int)+1+1) (by omega) (by omega) (by omega) (by omega) W;rw[hx,RF] at kG;clear RF hx;go_wp2_with fail;go_round;case rel=>refine⟨k+2,acc++ [39],by omega,by simp;omega,by go_num,by rw[lK],?_⟩;rw[HM.out,cJ HB.out,cJ TC.out,HQ.out,Fi.out,NU]
      case measure=>simp[intOf];omega
     ·have t2:(((s[k+1].toNat:Nat):Int)==39)=false:=by rw[beq_eq_false_iff_ne];intro h;exact RF (UInt8.toNat_inj.1 (by simpa using(by omega:s[k+1].toNat=39)))
      have t3:(((s[k+1].toNat:Nat):Int) != 39)=true:=by simpa [bne] using t2
      have VA:=hid (show(s.data.toList.drop (k+1)).head?≠some 39 by rw[cJ TC.out];simpa using RF);clear RF;go_wp2_with fail;refine bodyPost_ret (v:=.tuple #[.agg #[.int .u8 3,.string ⟨acc.toArray⟩,.int .i64 0,.int .i64 at_],.int .i64 ((k:Int)+1),.int .i64 0]) ?_ rfl ?_
      ·simp[results,Tryz.results103,go_sem,z0,z1,z2,z3]
      ·rw[lS.out,HM.out,cJ HB.out,HQ.out,DU VA.out];unfold vz;simp only;have e:s.size - (s.data.toList.drop (k+1)).length=k+1:=by rw[List.length_drop,HLEN.out];omega
       rw[e];exact⟨rfl,tj bb (Nat.le_refl _) _ _ _ _⟩
    ·have n2:=decide_eq_true (show((s.size:Int)≤(k:Int)+1) by omega);have VA:=hid (show(s.data.toList.drop (k+1)).head?≠some 39 by rw[List.drop_eq_nil_of_le (by rw[HLEN.out];omega)];simp);go_wp2_with fail;refine bodyPost_ret (v:=.tuple #[.agg #[.int .u8 3,.string ⟨acc.toArray⟩,.int .i64 0,.int .i64 at_],.int .i64 ((k:Int)+1),.int .i64 0]) ?_ rfl ?_
     ·simp[results,Tryz.results103,go_sem,z0,z1,z2,z3]
     ·rw[lS.out,HM.out,cJ HB.out,HQ.out,DU VA.out];unfold vz;simp only;have e:s.size - (s.data.toList.drop (k+1)).length=k+1:=by rw[List.length_drop,HLEN.out];omega
      rw[e];exact⟨rfl,tj bb (Nat.le_refl _) _ _ _ _⟩
   ·have HQ:=hid hq;have t1:(((s[k].toNat:Nat):Int)==39)=false:=by rw[beq_eq_false_iff_ne];intro h;exact hq (UInt8.toNat_inj.1 (by simpa using(by omega:s[k].toNat=39)))
    have kG:=kO s k (k+1) (k:Int) ((k:Int)+1) rfl (by omega) (by omega) (by omega) W;rw[vd s k Ig] at kG;clear hq;go_wp2_with fail;go_round;case rel=>refine⟨k+1,acc++ [s[k]],by omega,by simp;omega,by go_num,by rw[lK],?_⟩;rw[HM.out,cJ HB.out,Gt HQ.out]
    case measure=>simp[intOf];omega
  ·have VB:=hid (show s.data.toList.drop k=[] by rw[List.drop_eq_nil_of_le (by rw[HLEN.out];omega)]);go_wp2_with fail;refine bodyPost_ret (v:=.tuple #[.agg #[.int .u8 0,.string ⟨#[]⟩,.int .i64 0,.int .i64 0],.int .i64 0,.int .i64 30]) ?_ rfl ?_
   ·simp[results,Tryz.results103,go_sem,z0,z1,z2,z3]
   ·rw[lS.out,HM.out,VB.out];exact⟨rfl,tj bb (Nat.le_refl _) _ _ _ _⟩
end Go.Proofs.YtfmbcoeallmnnaaGreatDoor.R
