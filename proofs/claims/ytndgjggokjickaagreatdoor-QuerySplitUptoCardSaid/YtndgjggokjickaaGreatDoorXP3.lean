/- Parts of the proof. -/
import Derived.Test.YtndgjggokjickaaGreatDoorXP2
namespace Go.Proofs.YtndgjggokjickaaGreatDoor.R
open _root_.Go.Proofs.Tryz
variable{p:Sort _}
set_option maxHeartbeats 90000000
set_option maxRecDepth 100000
open Go.ChangeShapes Go.WideShapes Go.ChangeAt Go.RowKit List
set_option linter.unusedVariables false
set_option linter.unusedSimpArgs false
theorem I7:∀(l:xb) (v:Nat),v*10 ^ l.length<=l.foldl (λ v c=>v*10+(c.toNat-48)) v
 |[],v=>by simp
 |c::l,v=>by
   have:=I7 l (v*10+(c.toNat-48));simp only[foldl_cons,length_cons,Nat.pow_succ];have h:v*10*10 ^ l.length<=(v*10+(c.toNat-48))*10 ^ l.length:=Nat.mul_le_mul_right _ WC;have e:v*(10 ^ l.length*10)=v*10*10 ^ l.length:=by rw[Nat.mul_comm (10 ^ l.length),Nat.mul_assoc]
   rw[e];omega
theorem I8{l:xb}(hd:∀c∈l,bE c=true)(hl:19<l.length)(h0:l.head?≠some 48):9223372036854775807<mb l:=by
 match l with
 |[]=>simp at hl
 |c::r=>
   have hc:=hd c mem_cons_self;simp[bE,UInt8.le_iff_toNat_le]at hc;have h48:c.toNat≠48:=λ e=>h0 (by rw[show c=48 from UInt8.toNat_inj.1 e];rfl);have h1:=I7 r (0*10+(c.toNat-48));have h2:10 ^ 19<=10 ^ r.length:=Nat.pow_le_pow_right Tab (by simp at hl;omega);have h3:1*10 ^ r.length<=(0*10+(c.toNat-48))*10 ^ r.length:=Nat.mul_le_mul_right _ WC;show _<List.foldl _ _ _;rw[foldl_cons];have h4:(10:Nat)^ 19=10000000000000000000:=Tab;omega
theorem I9{l:xb}{i:Nat}{c:UInt8}(h:l[i]?=some c):mb (l.take (i+1))=mb (l.take i)*10+(c.toNat-48):=by rw[take_add_one,h];exact H8 _ _
theorem QT(l:xb)(i:Nat):mb (l.take i)<=mb l:=by
 conv=>rhs;rw[<-take_append_drop i l]
 unfold mb;rw[foldl_append];exact I0 _ _
theorem J0{c:UInt8}(h:bE c=true):48<=c.toNat/\c.toNat<=57:=by simpa [bE,UInt8.le_iff_toNat_le] using h
def kH(q:xb)(w:t_)(e:Ending)(w':t_):Prop:=(if xu q=true then e=.returned (.tuple #[af (mb q),.bool true])else e=.returned (.tuple #[af 0,.bool false]))/\w=w'
variable{w:t_}
theorem QU{q:xb}{e:Ending}(h:xu q=false)(he:e=.returned (.tuple #[af 0,.bool false])):kH q w e w:=by unfold kH;rw[h,if_neg Tab];exact⟨he,rfl⟩
theorem ads{q:xb}{e:Ending}(h:xu q=true)(he:e=.returned (.tuple #[af (mb q),.bool true])):kH q w e w:=by unfold kH;rw[if_pos h];exact⟨he,rfl⟩
theorem Aj(s:u_)(w:t_)(hd:∀c∈s.data.toList,bE c=true)(h0:0<s.size)(hs:s.size<=4294967280):ar 177 #[.string s] w (kH s.data.toList w):=by
 have HLEN:=aa (show s.data.toList.length=s.size by simp);have HDG:=aa hd;have Uf:s.data.toList.head?=some s[0]:=by rw[head?_eq_getElem?];exact fu s 0 h0
 have HH:=aa Uf;clear hd Uf;by_cases hz:1<s.size/\s[0]=48
 ·have t1:(((s[0].toNat:Nat):Int)==48)=true:=by rw[hz.2];rfl
  have HB:=aa (show xu s.data.toList=false by have:¬s.data.toList.length<=1:=Tau;simp only[xu,HH.ae,hz.2,this];rfl)
  have hz1:=hz.1;exact Zhb
 by_cases anI:19<s.size
 ·have t1:(((s[0].toNat:Nat):Int)==48)=false:=by rw[beq_eq_false_iff_ne];intro h;exact hz ⟨by omega,UInt8.toNat_inj.1 Tbs⟩
  have HB:=aa (show xu s.data.toList=false by have h1:=I8 HDG.ae (by rw[HLEN.ae];exact anI) (by rw[HH.ae];intro e;injection e with e;exact hz ⟨by omega,e⟩);have h2:¬mb s.data.toList<=9223372036854775807:=WC;simp only[xu,h2];simp)
  exact Zhb
 have HF:=aa (show(decide (s.data.toList.length<=1)|| !(s.data.toList.head?==some 48))=true by rw[HLEN.ae,HH.ae];by_cases h1:s.size<=1;simp[h1];have:s[0]≠48:=λ e=>hz ⟨by omega,e⟩;simp[h1,this])
 have hz2:¬(1<s.size)\/(1<s.size/\(((s[0].toNat:Nat):Int)==48)=false):=by by_cases h1:1<s.size;refine .inr ⟨h1,?_⟩;rw[beq_eq_false_iff_ne];intro h;exact hz ⟨h1,UInt8.toNat_inj.1 Tbs⟩;exact .inl h1
 clear hz;rcases hz2 with hz2|⟨hz1,hz2⟩;all_goals
  go_enter func177,ntmps177;go_wp2_with fail;go_loop [4,5] (λ v u=>∃i:Nat,i<=s.size/\u=af i/\v=af (mb (s.data.toList.take i):Nat)/\mb (s.data.toList.take i)<=9223372036854775807) (λ _ u=>s.size-(intOf u).toNat);case atStart=>exact⟨0,by omega,rfl,rfl,by simp[mb]⟩
  case round=>
   obtain⟨i,hi,rfl,rfl,hv⟩:=hrel;by_cases hlt:i<s.size
   ·have HB:=aa (fu s i hlt);obtain⟨d1,d2⟩:=J0 (HDG.ae s[i] (mem_of_getElem? HB.ae));have HV:=aa (I9 HB.ae);have Dg:=aa (QT s.data.toList (i+1));generalize PH:mb (s.data.toList.take i)=v at*;have HVV:=aa PH;clear PH;by_cases MX:v*10+(s[i].toNat-48)<=9223372036854775807
    ·have n1:=decide_eq_false (show¬((9223372036854775807-((s[i].toNat:Int)-48))/ 10 <(v:Int)) by omega);go_wp2_with fail;go_round;case rel=>
      refine⟨i+1,hlt,by go_num,?_,by rw[HV.ae];exact MX⟩;rw[HV.ae];have:((v*10+(s[i].toNat-48):Nat):Int)=(v:Int)*10+((s[i].toNat:Int)-48):=WC;rw[this]
     case measure=>simp[intOf];omega
    have n1:=decide_eq_true (show((9223372036854775807-((s[i].toNat:Int)-48))/ 10 <(v:Int)) by omega);go_wp2_with fail;go_ret2;refine QU ?_ rfl;have h1:=Dg.ae;rw[HV.ae]at h1;have h2:¬mb s.data.toList<=9223372036854775807:=by omega
    simp only[xu,h2];simp
   go_wp2_with fail;go_ret2;have e1:s.data.toList.take i=s.data.toList:=take_of_length_le Tau;rw[e1]at hv⊢;exact ads (by rw[xu,HF.ae];simpa using hv) rfl
def Bj(s:u_)(at_:Nat)(w:t_)(r:Except Nat (Wd×xb))(e:Ending)(w':t_):Prop:=
 match r with
 |.ok (d,rest)=>e=.returned (.tuple #[.agg #[ag d.k,.string ⟨d.s.toArray⟩,af d.n,af at_],af (s.size-rest.length:Nat),af 0])/\ai w w'
 |.error x=>e=.returned (.tuple #[.agg #[ag 0,au,af 0,af 0],af 0,af x])/\ai w w'
variable{B:Nat}{w':t_}{q:Nat}
theorem xA(h:Below B w w')(hq:B<=q)(a b c d:Value):Below B w ((((w'.setCell ⟨q,0,none⟩ a).setCell ⟨q,1,none⟩ b).setCell ⟨q,2,none⟩ c).setCell ⟨q,3,none⟩ d):=
 (((h.setCell (p:=⟨q,0,none⟩) hq a).setCell (p:=⟨q,1,none⟩) hq b).setCell (p:=⟨q,2,none⟩) hq c).setCell (p:=⟨q,3,none⟩) hq d
theorem J1(s:u_)(at_:Nat)(w:t_)(ha:at_<s.size)(hdg:gj s[at_]=true)(hs:s.size<=4294967280):
  ar 132 #[.string s,af at_] w (Bj s at_ w (iH (s.data.toList.drop at_))):=by
 have hd:=cH (fu s at_ ha);have hc:iH (s.data.toList.drop at_)=if iI fj s.data.toList at_-at_<=32 then .ok (⟨1,((s.data.toList.drop at_).takeWhile fj).map xt,0⟩,(s.data.toList.drop at_).dropWhile fj)else .error 2:=by rw[adp,hd];simp only[iH,if_pos hdg]
 generalize iH (s.data.toList.drop at_)=R at*;have HC:=aa hc;have HL0:=aa hdg;have HLEN:=aa (show s.data.toList.length=s.size by simp);clear hc hd hdg;go_enter func132,ntmps132;go_wp2_with (go_at_call 174;refine(ew s[at_] _).mono ?_;rintro e w' ⟨rfl,rfl⟩;rw[HL0.ae]);have HZ:=aa (aB.new w 172 #[ag 0,au,af 0,af 0]);have bb:=ah w (.cells #[ag 0,au,af 0,af 0] 172);have hsz:(w.alloc (.cells #[ag 0,au,af 0,af 0] 172)).heap.size=w.heap.size+1:=Tad;generalize w.alloc (.cells #[ag 0,au,af 0,af 0] 172)=W at*;have HSZ:=aa hsz;clear hsz;go_loop [8] (λ u=>∃k:Nat,at_<=k/\k<=s.size/\u=af k/\iI fj s.data.toList at_=iI fj s.data.toList k) (λ u=>s.size-(intOf u).toNat);case atStart=>exact⟨at_,aE,by omega,rfl,rfl⟩
 case round=>
  obtain⟨k,Bi,hk2,rfl,hf⟩:=hrel;have HF:=aa hf;clear hf;by_cases BJ:k<s.size
  ·have HB:=aa (fu s k BJ);cases hl:gj s[k]
   ·have HL:=aa hl;cases hd:bE s[k]
    ·have HD:=aa hd;have nK:=aa (show iI fj s.data.toList at_=k by rw[HF.ae];exact Ua HB.ae (by simp[fj,hl,hd]));clear hl hd;by_cases h32:k-at_<=32
     ·have n1:=decide_eq_false (show¬(32:Int)<(k:Int)-at_ by omega);go_wp2_with (first
       |(go_at_call 174;refine(ew s[k] _).mono ?_;rintro e w' ⟨rfl,rfl⟩;rw[HL.ae])
       |(go_at_call 175;refine(eY s[k] _).mono ?_;rintro e w' ⟨rfl,rfl⟩;rw[HD.ae]))
      exact Za9
     have n1:=decide_eq_true (show(32:Int)<(k:Int)-at_ by omega);obtain⟨z0,z1,z2,z3,y0,y1,y2,y3⟩:=bM HZ.ae;go_wp2_with (first
      |(go_at_call 174;refine(ew s[k] _).mono ?_;rintro e w' ⟨rfl,rfl⟩;rw[HL.ae])
      |(go_at_call 175;refine(eY s[k] _).mono ?_;rintro e w' ⟨rfl,rfl⟩;rw[HD.ae]))
     exact ZfB
    have HD:=aa hd;have nK:=aa (show iI fj s.data.toList at_=iI fj s.data.toList (k+1) by rw[HF.ae];exact Dc HB.ae (by simp[fj,hl,hd]));clear hl hd;go_wp2_with (first
     |(go_at_call 174;refine(ew s[k] _).mono ?_;rintro e w' ⟨rfl,rfl⟩;rw[HL.ae])
     |(go_at_call 175;refine(eY s[k] _).mono ?_;rintro e w' ⟨rfl,rfl⟩;rw[HD.ae]))
    exact Zer
   have HL:=aa hl;have nK:=aa (show iI fj s.data.toList at_=iI fj s.data.toList (k+1) by rw[HF.ae];exact Dc HB.ae (by simp[fj,hl]));clear hl;go_wp2_with (go_at_call 174;refine(ew s[k] _).mono ?_;rintro e w' ⟨rfl,rfl⟩;rw[HL.ae]);exact Zer
  have nK:=aa (show iI fj s.data.toList at_=k by rw[HF.ae];exact MT Tau);by_cases h32:k-at_<=32
  ·have n1:=decide_eq_false (show¬(32:Int)<(k:Int)-at_ by omega);go_wp2_with fail;exact Za9
  have n1:=decide_eq_true (show(32:Int)<(k:Int)-at_ by omega);obtain⟨z0,z1,z2,z3,y0,y1,y2,y3⟩:=bM HZ.ae;go_wp2_with fail;exact ZfB
def zgy.KbI(h:p:=by rw[if_neg Tab]at he;subst he;exact Zc3):=h
def zgz.KbI(h:p:=by rw[if_pos rfl]at he;subst he;go_wp2_with (go_at_call 174;refine(ew s[k] _).mono ?_;rintro e w' ⟨rfl,rfl⟩;rw[YN.ae]);exact ZdC):=h
def zgA.KbI(h:p:=by rw[if_pos rfl]at he;subst he;go_wp2_with (go_at_call 174;refine(ew s[k] _).mono ?_;rintro e w' ⟨rfl,rfl⟩;rw[YN.ae]);refine bodyPost_ret (v:=.tuple #[.agg #[ag 0,au,af 0,af 0],af 0,af 30]) ZbS rfl ?_;rw[HR.ae];exact Zch):=h
def zem.KaS(h:p:=by
 cases WH:xu ((s.data.toList.drop at_).takeWhile bE);have rb:=aa WH;clear WH;open zgy in exact ZeS
 have rb:=aa WH;clear WH;cases yB:gj s[k]
 ·have YN:=aa yB;have HR:=aa (show R=.ok (⟨2,[],mb ((s.data.toList.drop at_).takeWhile bE)⟩,(s.data.toList.drop at_).dropWhile bE) by rw[sH.ae,rb.ae,Ug.ae,cH HB.ae];simp[yB])
  clear yB;open zgz in exact ZeS
 have YN:=aa yB;have HR:=aa (show R=.error 30 by rw[sH.ae,rb.ae,Ug.ae,cH HB.ae];simp[yB])
 clear yB;open zgA in exact ZeS):=h
def zen.KaS(h:p:=by
 cases WH:xu ((s.data.toList.drop at_).takeWhile bE)
 ·have rb:=aa WH;clear WH;go_wp2_with fail;refine HN.ae.mono ?_;unfold kH;rw[HE.ae,rb.ae];rintro e w1 ⟨he,rfl⟩;rw[if_neg Tab]at he;subst he;exact Zc3
 have rb:=aa WH;clear WH;have HR:=aa (show R=.ok (⟨2,[],mb ((s.data.toList.drop at_).takeWhile bE)⟩,(s.data.toList.drop at_).dropWhile bE) by rw[sH.ae,rb.ae,Ug.ae,drop_eq_nil_of_le Tau];rfl)
 go_wp2_with fail;refine HN.ae.mono ?_;unfold kH;rw[HE.ae,rb.ae];rintro e w1 ⟨he,rfl⟩;rw[if_pos rfl]at he;subst he;go_wp2_with fail;exact ZdC):=h
theorem one_num(s:u_)(at_:Nat)(w:t_)(ha:at_<s.size)(hdg:gj s[at_]=false)(hc:bE s[at_]=true)(hs:s.size<=4294967280):
  ar 132 #[.string s,af at_] w (Bj s at_ w (iH (s.data.toList.drop at_))):=by
 have hd:=cH (fu s at_ ha);have ny:iH (s.data.toList.drop at_)=if xu ((s.data.toList.drop at_).takeWhile bE)&& !(((s.data.toList.drop at_).dropWhile bE).head?.any gj)then .ok (⟨2,[],mb ((s.data.toList.drop at_).takeWhile bE)⟩,(s.data.toList.drop at_).dropWhile bE)else .error 30:=by rw[hd];simp only[iH,hdg,if_pos hc];rfl
 have hq:0 <((s.data.toList.drop at_).takeWhile bE).length:=by rw[hd,takeWhile_cons,if_pos hc];simp
 generalize iH (s.data.toList.drop at_)=R at*;have sH:=aa ny;have anK:=aa hq;have HC:=aa hc;have HL0:=aa hdg;have HLEN:=aa (show s.data.toList.length=s.size by simp);clear ny hd hc hdg hq;go_enter func132,ntmps132;go_wp2_with (first
  |(go_at_call 174;refine(ew s[at_] _).mono ?_;rintro e w' ⟨rfl,rfl⟩;rw[HL0.ae])
  |(go_at_call 175;refine(eY s[at_] _).mono ?_;rintro e w' ⟨rfl,rfl⟩;rw[HC.ae]))
 have HZ:=aa (aB.new w 172 #[ag 0,au,af 0,af 0]);have bb:=ah w (.cells #[ag 0,au,af 0,af 0] 172);generalize w.alloc (.cells #[ag 0,au,af 0,af 0] 172)=W at*;go_loop [8] (λ u=>∃k:Nat,at_<=k/\k<=s.size/\u=af k/\iI bE s.data.toList at_=iI bE s.data.toList k) (λ u=>s.size-(intOf u).toNat);case atStart=>exact⟨at_,aE,by omega,rfl,rfl⟩
 case round=>
  obtain⟨k,Bi,hk2,rfl,hf⟩:=hrel;have HF:=aa hf;clear hf;by_cases BJ:k<s.size
  ·have HB:=aa (fu s k BJ);cases hd:bE s[k]
   ·have HD:=aa hd;have nK:=aa (show iI bE s.data.toList at_=k by rw[HF.ae];exact Ua HB.ae hd);clear hd;open zem in exact ZcA
   have HD:=aa hd;have nK:=aa (show iI bE s.data.toList at_=iI bE s.data.toList (k+1) by rw[HF.ae];exact Dc HB.ae hd);clear hd;go_wp2_with (go_at_call 175;refine(eY s[k] _).mono ?_;rintro e w' ⟨rfl,rfl⟩;rw[HD.ae]);exact Zer
  have nK:=aa (show iI bE s.data.toList at_=k by rw[HF.ae];exact MT Tau);open zen in exact ZcA
theorem Ak(s:u_)(k:Nat)(hk:k<s.size):s.extract k (k+1)=⟨#[s[k]]⟩:=by
 have h:=qj s k (k+1);have h2:(s.data.toList.take (k+1)).drop k=[s[k]]:=by rw[drop_take,cH (fu s k hk)];have:k+1-k=1:=WC;rw[this];rfl
 rw[h2]at h;apply Go.WideShapes.bytes_inj;rw[h]
theorem mf(s:u_)(a b:Nat)(x y:Int)(hx:x=a)(hy:y=b)(hab:a<=b)(hb:b<=s.size)(w:t_):
  (Instr.slice 9 (.string s) (some (af x)) (some (af y)) none).run prog w=.ok (.string (s.extract a b)) w:=by subst hx hy;have:=run_slice_string (P:=prog) (w:=w) 9 s .i64 .i64 a b underlying9 WC WC WC;exact ZfH
def zgm.KbD(h:p:=by
 have HZ:=aa (aB.new w 172 #[ag 0,au,af 0,af 0]);have bb:=ah w (.cells #[ag 0,au,af 0,af 0] 172);generalize w.alloc (.cells #[ag 0,au,af 0,af 0] 172)=W at*;obtain⟨z0,z1,z2,z3,y0,y1,y2,y3⟩:=bM HZ.ae;clear t0;go_loop [8,11] (λ u x=>∃(k:Nat) (acc:xb),k<=s.size/\acc.length<=k/\u=af k/\x=.string ⟨acc.toArray⟩/\more [] (gu (s.data.toList.drop (at_+1)))=more acc (gu (s.data.toList.drop k))) (λ u _=>s.size-(intOf u).toNat);case atStart=>exact⟨at_+1,[],ha,by simp,by go_num,rfl,rfl⟩
 case round=>
  obtain⟨k,acc,hk,adt,rfl,rfl,hf⟩:=hrel;have HF:=aa hf;clear hf;by_cases BJ:k<s.size
  ·have HB:=aa (fu s k BJ);by_cases hq:s[k]=39
   ·have HQ:=aa hq;have t1:(((s[k].toNat:Nat):Int)==39)=true:=by rw[hq];rfl
    clear hq;by_cases Bi:k+1<s.size
    ·have eZ:=aa (fu s (k+1) Bi);have n2:=decide_eq_false (show¬((s.size:Int)<=(k:Int)+1) by omega);by_cases LC:s[k+1]=39
     ·have WI:=aa LC;have t2:(((s[k+1].toNat:Nat):Int)==39)=true:=by rw[LC];rfl
      have t3:(((s[k+1].toNat:Nat):Int) != 39)=false:=by rw[LC];rfl
      have hx:=Ak s (k+1) Bi;have BV:=mf s (k+1) (k+1+1) ((k:Int)+1) ((k:Int)+1+1) WC WC WC WC W;rw[hx,LC]at BV;clear LC hx;go_wp2_with fail;go_round;case rel=>refine⟨k+2,acc++[39],by omega,by simp;omega,by go_num,by rw[mN],?_⟩;rw[HF.ae,cH HB.ae,cH eZ.ae,HQ.ae,WI.ae,I3]
      case measure=>exact Za2
     have t2:(((s[k+1].toNat:Nat):Int)==39)=false:=by rw[beq_eq_false_iff_ne];intro h;exact LC (UInt8.toNat_inj.1 (by simpa using(by omega:s[k+1].toNat=39)))
     have t3:(((s[k+1].toNat:Nat):Int) != 39)=true:=by simpa [bne] using t2
     have aiG:=aa (show(s.data.toList.drop (k+1)).head?≠some 39 by rw[cH eZ.ae];simpa using LC);clear LC;exact ZcJ
    have n2:=decide_eq_true (show((s.size:Int)<=(k:Int)+1) by omega);have aiG:=aa (show(s.data.toList.drop (k+1)).head?≠some 39 by rw[drop_eq_nil_of_le Tau];simp);exact ZcJ
   have HQ:=aa hq;have t1:(((s[k].toNat:Nat):Int)==39)=false:=by rw[beq_eq_false_iff_ne];intro h;exact hq (UInt8.toNat_inj.1 (by simpa using(by omega:s[k].toNat=39)))
   have BV:=mf s k (k+1) (k:Int) ((k:Int)+1) rfl WC WC WC W;rw[Ak s k BJ]at BV;clear hq;go_wp2_with fail;go_round;case rel=>refine⟨k+1,acc++[s[k]],by omega,by simp;omega,by go_num,by rw[mN],?_⟩;rw[HF.ae,cH HB.ae,QS HQ.ae]
   case measure=>exact Za2
  have J3:=aa (show s.data.toList.drop k=[] by rw[drop_eq_nil_of_le Tau]);go_wp2_with fail;refine bodyPost_ret (v:=.tuple #[.agg #[ag 0,au,af 0,af 0],af 0,af 30]) ZbS rfl ?_;rw[sH.ae,HF.ae,J3.ae];exact Zch):=h
theorem J2(s:u_)(at_:Nat)(w:t_)(ha:at_<s.size)(hc:gj s[at_]=false)(hdg:bE s[at_]=false)(hq:s[at_]=39)(hs:s.size<=4294967280):
  ar 132 #[.string s,af at_] w (Bj s at_ w (iH (s.data.toList.drop at_))):=by
 have hd:=cH (fu s at_ ha);have ny:iH (s.data.toList.drop at_)=match more [] (gu (s.data.toList.drop (at_+1)))with
   |some (t,rest)=>.ok (⟨3,t,0⟩,rest)
   |none=>.error 30:=by
  rw[I1,hd];simp only[iH,hc,hdg,if_pos hq];rfl
 generalize iH (s.data.toList.drop at_)=R at*;have t0:(((s[at_].toNat:Nat):Int)==39)=true:=by rw[hq];rfl
 open zgm in exact ZeJ
theorem WJ{s:u_}{a:Nat}{x:xb}(hb:a+x.length<=s.size):((s.extract a (a+x.length)).toList==x)=x.isPrefixOf (s.data.toList.drop a):=by rw[ByteArray.toList_eq,qj,drop_take,Nat.add_sub_cancel_left];rw[Bool.eq_iff_iff,beq_iff_eq,isPrefixOf_iff_prefix];constructor;intro h;refine⟨(s.data.toList.drop a).drop x.length,?_⟩;have:=take_append_drop x.length (s.data.toList.drop a);rwa [h]at this;rintro⟨r,h⟩;rw[<-h];simp
theorem WK{s:u_}{a:Nat}{x:xb}(hb:¬a+x.length<=s.size)(ha:a<=s.size):x.isPrefixOf (s.data.toList.drop a)=false:=by rw[Bool.eq_false_iff];intro h;rw[isPrefixOf_iff_prefix]at h;have:=h.length_le;rw[length_drop]at this;simp at this;omega
def zgn.KbD(h:p:=by
 have HZ:=aa ((aB.new w 172 #[ag 0,au,af 0,af 0]).alloc (.cells (signs.map λ l=>Value.string ⟨l.toArray⟩).toArray 9));have hG:aB ((w.alloc (.cells #[ag 0,au,af 0,af 0] 172)).alloc (.cells (signs.map λ l=>Value.string ⟨l.toArray⟩).toArray 9)) (w.heap.size+1) 9 (signs.map λ l=>Value.string ⟨l.toArray⟩).toArray:=by have:=aB.new (w.alloc (.cells #[ag 0,au,af 0,af 0] 172)) 9 (signs.map λ l=>Value.string ⟨l.toArray⟩).toArray;simpa using this
 have Kx:ai w ((w.alloc (.cells #[ag 0,au,af 0,af 0] 172)).alloc (.cells (signs.map λ l=>Value.string ⟨l.toArray⟩).toArray 9)):=(cX.alloc aE _).alloc Tad _;have HG:=aa hG;clear hG t0;simp only[signs,map_cons,map_nil]at HZ HG Kx;generalize (w.alloc (.cells #[ag 0,au,af 0,af 0] 172)).alloc _=W at*;go_loopw [13] (λ u wr=>∃i n:Nat,i<=15/\u=af i/\wr=W.drewN n/\lG signs (s.data.toList.drop at_)=lG (signs.drop i) (s.data.toList.drop at_)) (λ u _=>15-(intOf u).toNat);case atStart=>exact⟨0,0,by omega,rfl,rfl,rfl⟩
 case round=>
  obtain⟨i,n,hi,rfl,rfl,hsg⟩:=hrel;have rb:=aa hsg;clear hsg;have HZn:=aa (HZ.ae.drewN n);have bb:=Kx.trans ((nQ W n).mono Kx.size);by_cases anN:i<15
  ·obtain⟨x,hx,hdx,hx1,hx2⟩:=adq anN
   have hcell:(W.drewN n).cell? ⟨w.heap.size+1,i,none⟩=some (.string ⟨x.toArray⟩):=by rw[(HG.ae.drewN n).cell i];have:(signs.map λ l=>Value.string ⟨l.toArray⟩).toArray[i]?=some (.string ⟨x.toArray⟩):=Tbh;exact this
   generalize hWn:W.drewN n=Wn at*;have HWN:=aa hWn;have HDX:=aa hdx;clear hWn hx hdx;by_cases hto:at_+x.length<=s.size
   ·have n1:=decide_eq_true (show((at_:Int)+(x.length:Int))<=(s.size:Int) by omega);have HT:=aa (WJ hto);cases hp:x.isPrefixOf (s.data.toList.drop at_)
    ·have HP:=aa hp;have t1:((s.extract at_ (at_+x.length)).toList==x)=false:=HT.ae.trans hp;have BV:=λ W':t_=>mf s at_ (at_+x.length) (at_:Int) ((at_:Int)+(x.length:Int)) rfl WC WC hto W'
     clear hp;exact ZdD
    have HP:=aa hp;have t1:((s.extract at_ (at_+x.length)).toList==x)=true:=HT.ae.trans hp;have BV:=λ W':t_=>mf s at_ (at_+x.length) (at_:Int) ((at_:Int)+(x.length:Int)) rfl WC WC hto W';clear hp;go_wp2_with fail;go_quiet (fail);obtain⟨z0,z1,z2,z3,y0,y1,y2,y3⟩:=bM (HZn.ae.drewN nq);have bq:=bb.trans ((nQ Wn nq).mono bb.size);have F8:(Wn.drewN nq).cell? ⟨w.heap.size+1,i,none⟩=some (.string ⟨x.toArray⟩):=hcell;generalize Wn.drewN nq=Wq at*;clear hcell;go_wp2_with fail;refine bodyPost_ret (v:=.tuple #[.agg #[ag 4,.string ⟨x.toArray⟩,af 0,af at_],af ((at_:Int)+(x.length:Int)),af 0]) ZbS rfl ?_;have e1:lG signs (s.data.toList.drop at_)=some x:=by rw[rb.ae,HDX.ae,lG,if_pos HP.ae]
    rw[sH.ae,e1];unfold Bj;simp only;have e2:s.size-((s.data.toList.drop at_).drop x.length).length=at_+x.length:=by rw[drop_drop,length_drop,HLEN.ae];omega
    rw[e2];exact⟨rfl,xA bq aE _ _ _ _⟩
   have n1:=decide_eq_false (show¬((at_:Int)+(x.length:Int))<=(s.size:Int) by omega);have HP:=aa (WK hto WC);exact ZdD
  obtain rfl:i=15:=by omega
  obtain⟨z0,z1,z2,z3,y0,y1,y2,y3⟩:=bM HZn.ae;generalize W.drewN n=Wn at*;exact Zc3):=h
theorem J4(s:u_)(at_:Nat)(w:t_)(ha:at_<s.size)(hc:gj s[at_]=false)(hdg:bE s[at_]=false)(hq:s[at_]≠39)(hs:s.size<=4294967280):
  ar 132 #[.string s,af at_] w (Bj s at_ w (iH (s.data.toList.drop at_))):=by
 have hd:=cH (fu s at_ ha);have ny:iH (s.data.toList.drop at_)=match lG signs (s.data.toList.drop at_)with
   |some x=>.ok (⟨4,x,0⟩,(s.data.toList.drop at_).drop x.length)
   |none=>.error 30:=by
  rw[hd];simp only[iH,hc,hdg,if_neg hq];rfl
 generalize iH (s.data.toList.drop at_)=R at*;have t0:(((s[at_].toNat:Nat):Int)==39)=false:=by rw[beq_eq_false_iff_ne];intro h;exact hq (UInt8.toNat_inj.1 (by simpa using(by omega:s[at_].toNat=39)))
 open zgn in exact ZeJ
theorem adu(s:u_)(at_:Nat)(w:t_)(ha:at_<s.size)(hs:s.size<=4294967280):
  ar 132 #[.string s,af at_] w (Bj s at_ w (iH (s.data.toList.drop at_))):=by
 cases hl:gj s[at_]
 ·cases hd:bE s[at_]
  ·by_cases hq:s[at_]=39
   ·exact J2 s at_ w ha hl hd hq hs
   exact J4 s at_ w ha hl hd hq hs
  exact one_num s at_ w ha hl hd hs
 exact J1 s at_ w ha hl hs
def LX(n:Nat)(r:xb):Except (Nat×Nat) (List sB):=za n (n+1) r
def pre(acc:List sB):Except (Nat×Nat) (List sB)->Except (Nat×Nat) (List sB)
 |.error e=>.error e
 |.ok l=>.ok (acc++l)
def J5(n:Nat):sB:=⟨⟨0,[],0⟩,n⟩
theorem zq(b:Bool)(r:xb):cD false (cD b r)=cD b r:=by
 induction r generalizing b with
 |nil=>cases b<;>rfl
 |cons d r ih=>
   cases b with
   |true=>
     simp only[cD];split;exact ih false;exact ih true
   |false=>
     by_cases h1:sy d=true;simp only[cD,if_pos h1];exact ih false;by_cases h2:d=45/\r.head?=some 45;simp only[cD,if_neg h1,if_pos h2];exact ih true;have:cD false (d::r)=d::r:=by simp only[cD,if_neg h1,if_neg h2]
     rw[this,this]
theorem Uh(n:Nat)(r:xb):LX n (cD false r)=LX n r:=by unfold LX;simp only[za];have:=zq false r;rw[this]
theorem aiI{n:Nat}{r:xb}(h:cD false r=[]):LX n r=.ok [J5 n]:=by unfold LX;simp only[za,h];rfl
variable{r':xb}
theorem aiJ{n:Nat}{r:xb}{c:UInt8}{e:Nat}(h:cD false r=c::r')(ho:iH (c::r')=.error e):LX n r=.error (n-(c::r').length,e):=by unfold LX;simp only[za,h,ho]
variable{rest:xb}
theorem anO{n:Nat}{r:xb}{c:UInt8}{w:Wd}(hr:r.length<=n)(h:cD false r=c::r')(ho:iH (c::r')=.ok (w,rest)):LX n r=pre [⟨w,n-(c::r').length⟩] (LX n rest):=by
 have h1:=BP ho;have h2:=kX false r;rw[h]at h2;unfold LX;conv=>lhs;unfold za
 simp only[h,ho];rw[Hf n n (n+1) rest WC WC];cases za n (n+1) rest<;>rfl
theorem adw(a b:List sB)(x:Except (Nat×Nat) (List sB)):pre a (pre b x)=pre (a++b) x:=by cases x<;>simp[pre]
theorem adx(x:Except (Nat×Nat) (List sB)):pre [] x=x:=by cases x<;>rfl
theorem J6{r:xb}{x:Nat}(h:iH r=.error x):x=2\/x=30:=by
 cases r with
 |nil=>simp[iH]at h;exact .inr h.symm
 |cons c r=>
   simp only[iH]at h;split at h
   ·split at h
    ·cases h
    injection h with h;exact .inl h.symm
   split at h;exact Zgi;split at h;exact Zgi;exact Zgi
theorem MZ{r:xb}{w:Wd}(h:iH r=.ok (w,rest)):rest <:+ r:=by obtain⟨b,hb,_⟩:=CY h;exact⟨b,hb.symm⟩
def sI(t:sB):xr:=[ag t.w.k,.string ⟨t.w.s.toArray⟩,af t.w.n,af t.p]
theorem Na:(prog.info? 172).map (λ i=>(i.zero,i.size,i.bytes))=some (some (.agg #[ag 0,au,af 0,af 0]),4,40):=by exact Zhr
def Nb(w:t_)(base:Nat)(v:Value)(l:List sB):Prop:=aH sI 172 4 w base v l
def xB(s:u_)(w:t_)(e:Ending)(w':t_):Prop:=
 match Bg s.data.toList with
 |.error (p,x)=>e=.returned (.tuple #[az,af p,af x])/\ai w w'
 |.ok l=>∃v,e=.returned (.tuple #[v,af 0,af 0])/\Nb w' w.heap.size v l/\ai w w'
theorem J7{s:u_}(h:4096<s.size):Bg s.data.toList=.error (0,2):=by unfold Bg;rw[if_pos Taj]
theorem ady{s:u_}(h:¬4096<s.size):Bg s.data.toList=LX s.size s.data.toList:=by unfold Bg LX;have:s.data.toList.length=s.size:=Tad;rw[this,if_neg h]
structure J8 (s:u_) (w:t_) (a:Nat) (v:Value) (acc:List sB) (wr:t_):Prop where
 bel:ai w wr
 own:Nb wr w.heap.size v acc
 le:a<=s.size
 len:acc.length<=a
 skip:cD false (s.data.toList.drop a)=s.data.toList.drop a
 more:LX s.size s.data.toList=pre acc (LX s.size (s.data.toList.drop a))
theorem J9(s:u_)(w:t_)(hs:s.size<=4294967280):ar 85 #[.string s] w (xB s w):=by
 by_cases anP:4096<s.size
 ·unfold xB;rw[J7 anP];go_enter func85,ntmps85;go_wp2_with fail;go_ret3;exact⟨rfl,cX⟩
 have HPO:=aa (ady anP);have HLEN:=aa (show s.data.toList.length=s.size by simp);go_enter func85,ntmps85;go_wp2_with fail;refine(Hj s 0 _ gE hs).mono ?_;rintro e w1 ⟨rfl,rfl⟩;have hA:J8 s w (fV s 0) (az) [] w:=by refine⟨cX,aH.nil,zl _ _,gE,?_,?_⟩;rw[nS];exact zq _ _;rw[nS,Uh,adx];rfl
 generalize fV s 0=a0 at*;have HA:=aa hA;clear hA;go_wp2_with fail;go_loopw [5,6] (λ x y wr=>∃(a:Nat) (acc:List sB) (u:Value),x=u/\y=af a/\J8 s w a u acc wr) (λ _ y _=>s.size-(intOf y).toNat);case atStart=>exact⟨a0,[],_,rfl,rfl,HA.ae⟩
 case round=>
  obtain⟨a,acc,u,hu,rfl,hA⟩:=hrel;have hu2:=hu.symm;clear hu;subst hu2;have aiK:=hA.bel.size;have adt:=hA.len;have hae:=hA.le;have HA2:=aa hA;clear hA;by_cases ha:a<s.size
  ·go_wp2_with fail;refine(adu s a _ ha hs).mono ?_;intro e w2 hp;have HB:=aa (fu s a ha);rcases hres:iH (s.data.toList.drop a)with x|⟨d,rest⟩
   ·rw[hres]at hp;obtain⟨rfl,hb⟩:=hp;have hx:=J6 hres;have kt:=aa hres;have n1:((x:Int)==0)=false:=by rcases hx with rfl|rfl<;>rfl
    have n2:((x:Int) != 0)=true:=by rcases hx with rfl|rfl<;>rfl
    have n3:¬((x:Int)=0):=WC;clear hres;go_wp2_with fail;go_ret3;unfold xB;rw[HPO.ae,HA2.ae.more,aiJ (by rw[HA2.ae.skip];exact cH HB.ae) (by rw[<-cH HB.ae];exact kt.ae)];have e1:s.size-(s[a]::s.data.toList.drop (a+1)).length=a:=by rw[<-cH HB.ae,length_drop,HLEN.ae];omega
    rw[e1];exact⟨rfl,HA2.ae.bel.trans ((hb.mono aiK).trans ((ah w2 _).mono (by have:=hb.size;omega)))⟩
   rw[hres]at hp;obtain⟨rfl,hb⟩:=hp;have kt:=aa hres;clear hres;have bW:=((Below.refl w2.heap.size w2).alloc aE (.cells (sI ⟨d,a⟩).toArray 172)).alloc Tad (.cells (sI ⟨d,a⟩).toArray 172);have hown:Nb w2 w.heap.size u acc:=HA2.ae.own.later hb;have HO:=aa (hown.later bW);have hG:aB ((w2.alloc (.cells (sI ⟨d,a⟩).toArray 172)).alloc (.cells (sI ⟨d,a⟩).toArray 172)) (w2.heap.size+1) 172 (sI ⟨d,a⟩).toArray:=by have:=aB.new (w2.alloc (.cells (sI ⟨d,a⟩).toArray 172)) 172 (sI ⟨d,a⟩).toArray;simpa using this
   have HG:=aa hG;have anQ:ai w ((w2.alloc (.cells (sI ⟨d,a⟩).toArray 172)).alloc (.cells (sI ⟨d,a⟩).toArray 172)):=HA2.ae.bel.trans ((hb.mono aiK).trans (bW.mono (by have:=hb.size;omega)));have Dh:=aa anQ;clear hown hG anQ bW hb;have Ui:rest <:+ s.data.toList:=(MZ kt.ae).trans (List.drop_suffix _ _);have hq:s.data.toList.drop (s.size-rest.length)=rest:=by have:=drop_suffix Ui;rwa [HLEN.ae]at this
   have aCv:rest.length<s.size-a:=by have:=BP kt.ae;rwa [length_drop,HLEN.ae]at this
   have HQ:=aa hq;have aCw:s.size-rest.length<=fV s (s.size-rest.length):=by unfold fV;rw[HQ.ae];have:=kX false rest;omega
   clear hq Ui;unfold sI at HG HO Dh;go_wp2_with (first
    |(at_builtin
      refine aV rfl (.tmp 30) (.tmp 32) 164 rfl _ 40 underlying164 Na rfl WC ⟨d,a⟩ rfl (by simp[sI,Value.oneCell']) rfl HO.ae (w2.heap.size+1) rfl HG.ae WC WC Dh.ae.size ?_;intro v2 w3 o2 g2;have b2:=bj HO.ae g2 Dh.ae.size;have O2:=aa o2;have B2:=aa (Dh.ae.trans b2);clear o2 g2 HO HG b2 Dh))
   refine(Hj s (s.size-rest.length) _ (Nat.sub_le _ _) hs).mono ?_;rintro e w4 ⟨rfl,rfl⟩;go_wp2_with fail;go_roundw
   case rel=>
    refine⟨fV s (s.size-rest.length),acc++[sB.mk d a],v2,rfl,rfl,B2.ae,O2.ae,zl _ _,?_,?_,?_⟩;rw[length_append,length_singleton];omega;rw[nS];exact zq _ _;have e1:s.size-(s[a]::s.data.toList.drop (a+1)).length=a:=by rw[<-cH HB.ae,length_drop,HLEN.ae];omega
    rw[HA2.ae.more,anO (by rw[length_drop,HLEN.ae];omega) (by rw[HA2.ae.skip];exact cH HB.ae) (by rw[<-cH HB.ae];exact kt.ae),e1,adw,nS,Uh,HQ.ae]
   case measure=>have:=zl s (s.size-rest.length);exact Za2
  have hnil:s.data.toList.drop a=[]:=drop_eq_nil_of_le Tau;have J3:=aa hnil;clear hnil;have bW:=(Below.refl wr.heap.size wr).alloc aE (.cells (sI (J5 s.size)).toArray 172);have HO:=aa (HA2.ae.own.later bW);have HG:=aa (aB.new wr 172 (sI (J5 s.size)).toArray);have Dh:=aa (HA2.ae.bel.trans (bW.mono aiK));clear bW;unfold sI J5 at HG HO Dh;go_wp2_with (first
   |(at_builtin
     refine aV rfl (.tmp 37) (.tmp 41) 164 rfl _ 40 underlying164 Na rfl WC (J5 s.size) rfl (by simp[sI,Value.oneCell']) rfl HO.ae wr.heap.size rfl HG.ae WC WC Dh.ae.size ?_;intro v2 w3 o2 g2;have b2:=bj HO.ae g2 Dh.ae.size;have O2:=aa o2;have B2:=aa (Dh.ae.trans b2);clear o2 g2 HO HG b2 Dh))
  go_ret3;unfold xB;rw[HPO.ae,HA2.ae.more,J3.ae,aiI rfl];exact⟨v2,rfl,O2.ae,B2.ae⟩
theorem Uj(t:sB):(sI t).length=4:=rfl
variable{base:Nat}{v:Value}{k:Nat}
theorem Nb.at_{l:List sB}(h:Nb w base v l){t:sB}(hk:l[k]?=some t):
  ∃g c,v=aL g l.length c/\g<w.heap.size/\w.cell? ⟨g,k*4,none⟩=some (ag t.w.k)/\w.cell? ⟨g,k*4+1,none⟩=some (.string ⟨t.w.s.toArray⟩)/\w.cell? ⟨g,k*4+2,none⟩=some (af t.w.n)/\w.cell? ⟨g,k*4+3,none⟩=some (af t.p):=by obtain⟨g,c,hv,_,hlt,hc⟩:=aH.cell Uj h hk;exact⟨g,c,hv,hlt,hc 0 _ rfl,hc 1 _ rfl,hc 2 _ rfl,hc 3 _ rfl⟩
theorem Nb.cells{A:xP}{n c:Nat}{l:List sB}(h:Nb w base (.slice A n c) l)(hne:l≠[]):
  ∃g,A=some ⟨g,0,none⟩/\base<=g/\g<w.heap.size/\∀k t,l[k]?=some t->w.cell? ⟨g,k*4,none⟩=some (ag t.w.k)/\w.cell? ⟨g,k*4+1,none⟩=some (.string ⟨t.w.s.toArray⟩)/\w.cell? ⟨g,k*4+2,none⟩=some (af t.w.n)/\w.cell? ⟨g,k*4+3,none⟩=some (af t.p):=by
 match l,hne with
 |t0::l,_=>obtain⟨g,c0,hv,hb,hlt,_⟩:=aH.cell Uj h (k:=0) (x:=t0) rfl;injection hv with hA _ _;refine⟨g,hA,hb,hlt,λ k t hk=>?_⟩;obtain⟨g',c',hv',_,a⟩:=h.at_ hk;injection hv' with hA' _ _;rw[hA]at hA';injection hA' with hA';injection hA' with hg _ _;subst hg;exact a
structure dx where
 g:Nat
 gl:Nat
 c:Nat
 WM:List sB
def dx.n(ρ:dx):Nat:=ρ.WM.length
def dx.ws(ρ:dx):dI:=ρ.WM.map (·.w)
def dx.bad(ρ:dx):cw->Int
 |.good _=> -1
 |.bad m=>(ρ.n:Int)-m
def dx.cells(ρ:dx)(σ:cw)(big:Bool):x_:= #[aL ρ.gl ρ.n ρ.c,af ((ρ.n:Int)-σ.left),af (ρ.bad σ),.bool big]
structure dx.at (ρ:dx) (w:t_) (σ:cw) (big:Bool):Prop where
 blk:aB w ρ.g 169 (ρ.cells σ big)
 lt:ρ.gl<ρ.g
 cell:∀k t,ρ.WM[k]?=some t->w.cell? ⟨ρ.gl,k*4,none⟩=some (ag t.w.k)/\w.cell? ⟨ρ.gl,k*4+1,none⟩=some (.string ⟨t.w.s.toArray⟩)/\w.cell? ⟨ρ.gl,k*4+2,none⟩=some (af t.w.n)/\w.cell? ⟨ρ.gl,k*4+3,none⟩=some (af t.p)
 of:σ.of ρ.ws
 small:ρ.n<=5000
 K7:∀t∈ρ.WM,0<=t.w.n/\t.w.n<=9223372036854775807
section
variable{ρ:dx}{w w':t_}{σ:cw}{big:Bool}
theorem dx.at.later(h:ρ.at w σ big)(hb:ai w w'):ρ.at w' σ big:=
 ⟨h.blk.later hb,h.lt,λ k t hk=>by have hl:ρ.gl<w.heap.size:=Nat.lt_trans h.lt h.blk.lt;have c:=λ o=>hb.cell (p:=⟨ρ.gl,o,none⟩) hl;obtain⟨h1,h2,h3,h4⟩:=h.cell k t hk;exact⟨(c _).trans h1,(c _).trans h2,(c _).trans h3,(c _).trans h4⟩,h.of,h.small,h.K7⟩
theorem dx.at.Hk(h:ρ.at w σ big):ρ.g<w.heap.size:=h.blk.lt
theorem dx.at.set{Al:cw}{QV:Bool}(h:ρ.at w σ big)(hw:aB w' ρ.g 169 (ρ.cells Al QV))(hg:w.grownBy w' (some ρ.g))(ho:Al.of ρ.ws):ρ.at w' Al QV:=
 ⟨hw,h.lt,λ k t hk=>by have hl:ρ.gl<w.heap.size:=Nat.lt_trans h.lt h.blk.lt;have c:=cell_of_heap (hg.block ρ.gl hl (λ e=>by injection e with e;have:=h.lt;omega));obtain⟨h1,h2,h3,h4⟩:=h.cell k t hk;exact⟨(c _).trans h1,(c _).trans h2,(c _).trans h3,(c _).trans h4⟩,ho,h.small,h.K7⟩
theorem dx.at.left(h:ρ.at w σ big):0<σ.left/\σ.left<=ρ.n:=by have:=cw.QQ h.of;simpa [dx.ws,dx.n] using this
theorem dx.at.far{q:Nat}(h:ρ.at w σ big)(hq:ρ.g<q)(i:Nat)(u:Value):ρ.at (w.setCell ⟨q,i,none⟩ u) σ big:=
 ⟨h.blk.far (p:=⟨q,i,none⟩) Tac u,h.lt,λ k t hk=>by have c:=cell_of_heap (Below.heap_setCell w ⟨q,i,none⟩ u ρ.gl (by have:=h.lt;simp;omega));obtain⟨h1,h2,h3,h4⟩:=h.cell k t hk;exact⟨(c _).trans h1,(c _).trans h2,(c _).trans h3,(c _).trans h4⟩,h.of,h.small,h.K7⟩
theorem dx.at.next(h:ρ.at w σ big):∃t:sB,ρ.WM[ρ.n-σ.left]?=some t/\(∀l,σ=.good l->∃r,l=t.w::r):=by
 obtain⟨h1,h2⟩:=h.left;have hlt:ρ.n-σ.left<ρ.WM.length:=by unfold dx.n at*;omega
 refine⟨_,getElem?_eq_getElem hlt,?_⟩;rintro l rfl;obtain⟨t,r,hl,hk⟩:=cw.of_next h.of;refine⟨r,?_⟩;have e:ρ.ws.length-l.length=ρ.n-(cw.good l).left:=by simp[dx.ws,dx.n,cw.left]
 rw[e]at hk;unfold dx.ws at hk;rw[getElem?_map,getElem?_eq_getElem hlt]at hk;simp only[Option.map_some]at hk;injection hk with hk;rw[hk];exact hl
end
structure eQ (ρ:dx) (W w':t_) (Al:cw) (QV:Bool):Prop where
 at_:ρ.at w' Al QV
 grown:W.grownBy w' (some ρ.g)
section
variable{ρ:dx}{W w w':t_}{σ Al:cw}{big QV:Bool}
theorem eQ.refl(h:ρ.at w σ big):eQ ρ w w σ big:=⟨h,aQ cX⟩
theorem eQ.df(h:ρ.at w σ big)(hb:ai w w'):eQ ρ w w' σ big:=⟨h.later hb,aQ hb⟩
theorem eQ.later(h:eQ ρ W w σ big)(hb:ai w w'):eQ ρ W w' σ big:=⟨h.at_.later hb,ba h.grown (aQ hb)⟩
theorem eQ.trans(h:eQ ρ W w σ big)(k:eQ ρ w w' Al QV):eQ ρ W w' Al QV:=⟨k.at_,ba h.grown k.grown⟩
theorem eQ.size(h:eQ ρ W w σ big):W.heap.size<=w.heap.size:=h.grown.size
theorem eQ.far{q:Nat}(h:eQ ρ W w σ big)(hW:ρ.g<W.heap.size)(hq:W.heap.size<=q)(i:Nat)(u:Value):eQ ρ W (w.setCell ⟨q,i,none⟩ u) σ big:=by
 refine⟨h.at_.far WC i u,h.grown.os,h.grown.tape,h.grown.output,?_,λ k hk hkg=>?_⟩
 ·have:(w.setCell ⟨q,i,none⟩ u).heap.size=w.heap.size:=by simp[World.setCell]
  rw[this];exact h.grown.size
 rw[Below.heap_setCell w ⟨q,i,none⟩ u k Tac];exact h.grown.block k hk hkg
theorem eQ.blk{q:Nat}{t:TypeId}{cs:x_}(h:eQ ρ W w σ big)(hq:aB W q t cs)(hg:q≠ρ.g):aB w q t cs:=hq.grown h.grown λ e=>hg Tbl
end
variable{σ:cw}
theorem WN{s:xb}(h:σ.head s=true):∃t r,σ=.good (t::r)/\ju s t=true:=by
 match σ with
 |.bad n=>simp[cw.head,cw.words,dL]at h
 |.good l=>obtain⟨t,r,e,ht⟩:=MR (s:=s) (l:=l) h;exact⟨t,r,by rw[e],ht⟩
theorem kI{s:xb}(h:σ.head s=true):dv (may s) σ=.good σ.words.tail:=by rw[MS,h];rfl
theorem jG{s:xb}(h:σ.head s=false):dv (may s) σ=σ:=by rw[MS,h];rfl
theorem sJ{s:xb}(h:σ.head s=true):dv (must s) σ=.good σ.words.tail:=by rw[Hh,h];rfl
theorem Bk{s:xb}(h:σ.head s=false):dv (must s) σ=.bad σ.left:=by rw[Hh,h];rfl
def xC:List (xb)->Ps Unit
 |[]=>pure ()
 |s::ks=>do must s;xC ks
theorem vr(s:xb)(ks:List (xb))(σ:cw):dv (xC (s::ks)) σ=dv (xC ks) (dv (must s) σ):=Ww (x:=()) (QP _ _)
theorem sK(σ:cw):dv (xC []) σ=σ:=Wx _ _
theorem Di(s:xb)(σ:cw):dv (xC [s]) σ=dv (must s) σ:=by rw[vr,sK]
theorem tS(t:Wd)(r:dI):dv xw (.good (t::r))=if t.k=1/\uq t.s=false then .good r else .bad (r.length+1):=by simp only[dv,xw];by_cases h:t.k=1/\uq t.s=false;simp only[h,and_self,if_true];simp only[h,if_false];rfl
theorem QW(t:Wd)(r:dI):kY xw (.good (t::r)) ⟨t.s.toArray⟩:=by simp only[kY,xw];by_cases h:t.k=1/\uq t.s=false;simp only[h,and_self,if_true];simp only[h,if_false]
theorem Nc(t:Wd)(r:dI):dv JV (.good (t::r))=if t.k=2 then .good r else .bad (r.length+1):=by simp only[dv,JV];by_cases h:t.k=2;simp only[h,if_true];simp only[h,if_false];rfl
theorem WO(t:Wd)(r:dI):kY JV (.good (t::r)) t.n:=by simp only[kY,JV];by_cases h:t.k=2;simp only[h,if_true];simp only[h,if_false]
variable{α:Type}
theorem ql{p:Ps α}{n:Nat}(h:dv p σ=.bad n)(x:α):kY p σ x:=by
 match σ with
 |.bad m=>trivial
 |.good l=>
   simp only[dv,kY]at h⊢;cases e:p l with
   |error m=>trivial
   |ok y=>obtain⟨y,r⟩:=y;rw[e]at h;cases h
section
variable{s:xb}{op:Int}{same below:Ps Tr}{σ:cw}{x:Tr}
end
def dx.ptr(ρ:dx):Value:=aw ρ.g
variable{ρ:dx}{big:Bool}
theorem dx.at.facts(h:ρ.at w σ big):
  w.cell? ⟨ρ.g,0,none⟩=some (aL ρ.gl ρ.n ρ.c)/\w.cell? ⟨ρ.g,1,none⟩=some (af ((ρ.n:Int)-σ.left))/\w.cell? ⟨ρ.g,2,none⟩=some (af (ρ.bad σ))/\w.cell? ⟨ρ.g,3,none⟩=some (.bool big)/\
  w.frozen? ⟨ρ.g,1,none⟩=false/\w.frozen? ⟨ρ.g,2,none⟩=false/\w.frozen? ⟨ρ.g,3,none⟩=false:=
 ⟨h.blk.cell 0,h.blk.cell 1,h.blk.cell 2,h.blk.cell 3,h.blk.frozen 1,h.blk.frozen 2,h.blk.frozen 3⟩
theorem dx.at.place(h:ρ.at w σ big):((ρ.n:Int)-σ.left)=((ρ.n-σ.left:Nat):Int):=by have:=h.left;omega
theorem dx.at.Uk(h:ρ.at w σ big):decide (ρ.bad σ<0)=σ.iy:=by
 have hl:=h.left
 match σ,hl with
 |.bad m,hl=>have e:ρ.bad (.bad m)=(ρ.n:Int)-m:=rfl;have e2:(cw.bad m).left=m:=rfl;rw[e2]at hl;rw[e];simp only[cw.iy,decide_eq_false_iff_not];omega
 |.good l,_=>rfl
theorem K8{s:u_}{t:Wd}:ju s.data.toList t=((t.k==1||t.k==4)&&(t.s==s.toList)):=by unfold ju;rw[ByteArray.toList_eq]
def rC:Obj:=.cells #[ag 0,au,af 0,af 0] 172
def dJ(t:sB):x_:= #[ag t.w.k,.string ⟨t.w.s.toArray⟩,af t.w.n,af t.p]
structure adz (ρ:dx) (w:t_) (t:sB) (pl:Nat) (bd:Int):Prop where
 c0:w.cell? ⟨ρ.g,0,none⟩=some (aL ρ.gl ρ.n ρ.c)
 c1:w.cell? ⟨ρ.g,1,none⟩=some (af pl)
 c2:w.cell? ⟨ρ.g,2,none⟩=some (af bd)
 d0:w.cell? ⟨ρ.gl,pl*4,none⟩=some (ag t.w.k)
 d1:w.cell? ⟨ρ.gl,pl*4+1,none⟩=some (.string ⟨t.w.s.toArray⟩)
 d2:w.cell? ⟨ρ.gl,pl*4+2,none⟩=some (af t.w.n)
 d3:w.cell? ⟨ρ.gl,pl*4+3,none⟩=some (af t.p)
variable{pl:Nat}{bd:Int}
theorem adz.later{t:sB}(h:adz ρ w t pl bd)(hb:ai w w'):adz ρ w' t pl bd:=by obtain⟨h0,h1,h2,h3,h4,h5,h6⟩:=h;exact⟨(hb.cell (kG h0)).trans h0,(hb.cell (kG h1)).trans h1,(hb.cell (kG h2)).trans h2,(hb.cell (kG h3)).trans h3,(hb.cell (kG h4)).trans h4,(hb.cell (kG h5)).trans h5,(hb.cell (kG h6)).trans h6⟩
theorem dx.at.xD(h:ρ.at w σ big):∃(t:sB) (pl:Nat) (bd:Int),pl=ρ.n-σ.left/\pl<ρ.n/\ρ.n<=5000/\bd=ρ.bad σ/\decide (bd<0)=σ.iy/\(∀l,σ=.good l->∃r,l=t.w::r)/\0<=t.w.n/\t.w.n<=9223372036854775807/\adz ρ w t pl bd:=by obtain⟨t,ht,hg⟩:=h.next;obtain⟨d0,d1,d2,d3⟩:=h.cell _ t ht;obtain⟨c0,c1,c2,c3,f1,f2,f3⟩:=h.facts;have hl:=h.left;rw[h.place]at c1;have hn:=h.K7 t (mem_of_getElem? ht);exact⟨t,_,_,rfl,by omega,h.small,rfl,h.Uk,hg,hn.1,hn.2,c0,c1,c2,d0,d1,d2,d3⟩
def zhd.KbW(h:p:=by
 go_enter func133,ntmps133;go_wp2_with fail;go_region;clear c0 c1 c2 d0 d1 d2 d3 y0 y1 y2 z0 z1 z2 z3 x0 x1 v0 v1 v2 v3;obtain⟨u0,u1,u2,u3,_⟩:=bM HT;unfold dJ at x2 u0 u1 u2 u3 hb;generalize (w.alloc _).drew=W at*;go_wp2_with fail
 all_goals
  go_ret;refine⟨mM ?_,hb⟩;rw[YO.ae];generalize (t.w.s==s.toList)=X;cases X<;>rw[Bool.eq_iff_iff]<;>simp<;>omega):=h
theorem mq(ρ:dx)(w:t_)(σ:cw)(big:Bool)(h:ρ.at w σ big)(s:u_):
  ar 133 #[ρ.ptr,.string s] w λ e w'=>e=.returned (.bool (σ.head s.data.toList))/\ai w w':=by
 obtain⟨t,pl,bd,hpl,hlt,hsm,vt,cq,hg,LD,wV,hp⟩:=h.xD;have Fo:=hp.later (ah w rC);have Nd:=hp.later ((ah w (.cells (dJ t) 172)).drew);have hHD:σ.head s.data.toList=(decide (bd<0)&&((t.w.k==1||t.w.k==4)&&(t.w.s==s.toList))):=by
  rw[cq]
  match σ with
  |.bad m=>rfl
  |.good l=>obtain⟨r,rfl⟩:=hg l rfl;rw[<-K8];rfl
 have YO:=aa hHD;have hb:=(ah w (.cells (dJ t) 172)).drew;have HT:=(aB.new w 172 (dJ t)).drew;clear hHD hpl hg cq vt h;unfold dx.ptr;generalize σ.head s.data.toList=R at*;open zhd in exact Zfh
def Dj(ρ:dx)(W:t_)(Al:cw)(big:Bool)(e:Ending)(w':t_):Prop:=e=.returned (.tuple #[])/\eQ ρ W w' Al big
theorem qm(ρ:dx)(w:t_)(σ:cw)(big:Bool)(h:ρ.at w σ big):
  ar 88 #[ρ.ptr] w (Dj ρ w (.bad σ.left) big):=by
 obtain⟨c0,c1,c2,c3,f1,f2,f3⟩:=h.facts;have hlf:=h.left;have cq:=h.Uk;have VF:cw.of ρ.ws (.bad σ.left):=⟨(cw.QQ h.of).1,(cw.QQ h.of).2⟩;unfold dx.ptr;by_cases hg:ρ.bad σ<0
 ·have hB:=aB.aW h.blk 2 (af ((ρ.n:Int)-σ.left));go_enter func88,ntmps88;go_wp2_with fail;go_end0;exact⟨rfl,h.set hB (aF (aQ cX) 2 _) VF,aF (aQ cX) 2 _⟩
 have vt:σ=.bad σ.left:=by
  match σ with
  |.bad m=>rfl
  |.good l=>exact absurd (by show(-1:Int)< 0;decide) hg
 have HBD:=aa vt;clear vt;go_enter func88,ntmps88;go_wp2_with fail;go_end0;rw[<-HBD.ae];exact⟨rfl,eQ.refl h⟩
variable{l:dI}
theorem dx.at.step{t:Wd}(h:ρ.at w (.good (t::l)) big)(ht:t.k≠0):
  eQ ρ w (w.setCell ⟨ρ.g,1,none⟩ (af ((ρ.n:Int)-l.length))) (.good l) big:=by have hB:=aB.aW h.blk 1 (af ((ρ.n:Int)-l.length));refine⟨h.set hB (aF (aQ cX) 1 _) ⟨?_,h.of.2.tail ht⟩,aF (aQ cX) 1 _⟩;exact(suffix_cons _ _).trans h.of.1
theorem sL(ρ:dx)(w:t_)(σ:cw)(big:Bool)(h:ρ.at w σ big)(s:u_):
  ar 87 #[ρ.ptr,.string s] w λ e w'=>e=.returned (.bool (σ.head s.data.toList))/\eQ ρ w w' (dv (may s.data.toList) σ) big:=by
 have hw:=mq ρ w σ big h s;have QX:ρ.ptr=aw ρ.g:=rfl;cases hh:σ.head s.data.toList
 ·rw[hh]at hw;rw[jG hh];go_enter func87,ntmps87;go_wp2_with (go_at_call 133;refine hw.mono ?_;rintro e w1 ⟨rfl,b1⟩);go_ret;exact⟨rfl,eQ.df h b1⟩
 rw[hh]at hw;obtain⟨t,r,rfl,ht⟩:=WN hh;rw[kI hh];go_enter func87,ntmps87;have HH:=aa h;have HK:=aa (anF ht);have hsm:=h.small;clear ht hh h;go_wp2_with (go_at_call 133;refine hw.mono ?_;rintro e w1 ⟨rfl,b1⟩;obtain⟨c0,c1,c2,c3,f1,f2,f3⟩:=(HH.ae.later b1).facts;have hlf:=(HH.ae.later b1).left;have e1:(ρ.n:Int)-(cw.good (t::r)).left+1=(ρ.n:Int)-r.length:=by(simp[cw.left];omega));go_ret;have hd:=dx.at.step (HH.ae.later b1) HK.ae;exact⟨rfl,(eQ.df HH.ae b1).trans hd⟩
theorem WQ{n:Nat}(h:pl=n-k)(hk:k<=n):(n:Int)-k=pl:=WC
def zf4.Kbw(h:p:=by
 by_cases hk:t.w.k=2
 ·have hd:=dx.at.step HF.ae (show t.w.k≠0 by omega);have s2:(W.setCell ⟨ρ.g,1,none⟩ (af ((ρ.n:Int)-r.length))).cell? ⟨w.heap.size,2,none⟩=some (af t.w.n):=(HB.ae.far (p:=⟨ρ.g,1,none⟩) Tac _).cell 2;go_wp2_with fail;go_ret;refine⟨t.w.n,LD,wV,rfl,?_,WO _ _⟩;rw[Nc,if_pos hk];exact HD.ae.trans hd
 have g1:((t.w.k:Int) != 2)=true:=by simp;omega
 go_wp2_with (go_at_call 88;refine hwr.mono ?_;rintro e w1 ⟨rfl,d1⟩);go_ret;have e3:dv JV (.good (t.w::r))=.bad (r.length+1):=by rw[Nc,if_neg hk]
 refine⟨0,by omega,by omega,rfl,?_,ql e3 _⟩;rw[e3];exact HD.ae.trans d1):=h
def zhS.Kcc(h:p:=by refine⟨0,by omega,by omega,rfl,?_,Hg _ _ _⟩;exact HD.ae.trans d1):=h
def zgF.KbL(h:p:=by
 by_cases zr:bd<0
 ·open zf4 in exact Zen
 open zhS in exact Zgj):=h
def zdy.KaF(h:p:=by go_enter func181,ntmps181;open zgF in exact ZeZ):=h
theorem WR(ρ:dx)(w:t_)(σ:cw)(big:Bool)(h:ρ.at w σ big):
  ar 181 #[ρ.ptr] w λ e w'=>∃x:Int,0<=x/\x<=9223372036854775807/\e=.returned (af x)/\eQ ρ w w' (dv JV σ) big/\kY JV σ x:=by
 open zdy in exact Zby
def zf5.Kbw(h:p:=by
 by_cases hk:t.w.k=1
 ·cases hr:uq t.w.s
  ·have HC:=aa (show t.w.k=1/\uq t.w.s=false from⟨hk,hr⟩);have hd0:=λ(W2:t_) (hb2:ai W W2)=>dx.at.step (HF.ae.later hb2) (show t.w.k≠0 by omega)
   have HD0:=aa hd0;have hs0:=λ(W2:t_) (hb2:ai W W2)=>(HB.ae.later hb2).cell 1;have HS0:=aa hs0;have HX:=aa (λ(W2:t_) (hb2:ai W W2)=>(HB.ae.later hb2).far (p:=⟨ρ.g,1,none⟩) Tac (af ((ρ.n:Int)-r.length)));rw[hr]at hres;have kt:=aa hres;clear hd0 hs0 hr hres;go_wp2_with (go_at_call 183;go_loud (refine kt.ae.mono ?_;rintro e w1 ⟨rfl,b1⟩;obtain⟨q0,q1,q2,q3,p1,p2,p3⟩:=(HF.ae.later b1).facts;have s1:=(HX.ae w1 b1).cell 1;have e2:(ρ.n:Int)-(cw.good (t.w::r)).left=pl:=(WQ QY.ae hlf.2);rw[e2]at q1));go_ret;refine⟨⟨t.w.s.toArray⟩,rfl,?_,QW _ _⟩;rw[tS,if_pos HC.ae];exact(HD.ae.later b1).trans (HD0.ae w1 b1)
  have e3:dv xw (.good (t.w::r))=.bad (r.length+1):=by rw[tS,if_neg (by rw[hr];simp)]
  have HE3:=aa e3;rw[hr]at hres;have kt:=aa hres;clear hr e3 hres;go_wp2_with (first
   |(go_at_call 183;refine kt.ae.mono ?_;rintro e w1 ⟨rfl,b1⟩)
   |(go_at_call 88;refine(qm ρ _ _ big (HF.ae.later b1)).mono ?_;rintro e w2 ⟨rfl,d1⟩))
  go_ret;refine⟨ByteArray.empty,rfl,?_,ql HE3.ae _⟩;rw[HE3.ae];exact(HD.ae.later b1).trans d1
 have e3:dv xw (.good (t.w::r))=.bad (r.length+1):=by rw[tS,if_neg (by simp[hk])]
 have HE3:=aa e3;have g1:((t.w.k:Int) != 1)=true:=Tac;clear e3;go_wp2_with (go_at_call 88;refine hwr.mono ?_;rintro e w1 ⟨rfl,d1⟩);go_ret;refine⟨ByteArray.empty,rfl,?_,ql HE3.ae _⟩;rw[HE3.ae];exact HD.ae.trans d1):=h
def zhT.Kcc(h:p:=by exact⟨ByteArray.empty,rfl,HD.ae.trans d1,Hg _ _ _⟩):=h
def zgG.KbL(h:p:=by
 have hres:=FL ⟨t.w.s.toArray⟩ W;have BV:(⟨t.w.s.toArray⟩:u_).data.toList=t.w.s:=Tad;rw[BV]at hres;by_cases zr:bd<0
 ·open zf5 in exact Zen
 open zhT in exact Zgj):=h
def zdz.KaF(h:p:=by go_enter func137,ntmps137;open zgG in exact ZeZ):=h
theorem adB(ρ:dx)(w:t_)(σ:cw)(big:Bool)(h:ρ.at w σ big):
  ar 137 #[ρ.ptr] w λ e w'=>∃x:u_,e=.returned (.string x)/\eQ ρ w w' (dv xw σ) big/\kY xw σ x:=by
 open zdz in exact Zby
def bL(ks:List (xb)):x_:=(ks.map strOf).toArray
variable{ks:List (xb)}
theorem tT{b:Nat}(h:aB w b 9 (bL ks)){i:Nat}{s:xb}(hi:ks[i]?=some s):w.cell? ⟨b,i,none⟩=some (.string ⟨s.toArray⟩):=by rw[h.cell i];simp[bL,hi,strOf]
theorem K9{l:List α}{i:Nat}{x:α}(h:l[i]?=some x):l.drop i=x::l.drop (i+1):=by obtain⟨hlt,he⟩:=List.getElem?_eq_some_iff.1 h;rw[drop_eq_getElem_cons hlt,he]
theorem Dk(ks:List (xb))(n:Nat):dv (xC ks) (.bad n)=.bad n:=rfl
theorem WS(ρ:dx)(w:t_)(σ:cw)(big:Bool)(h:ρ.at w σ big)(ks:List (xb))(b n:Nat)(hn:ks.length=n)(hb:aB w b 9 (bL ks))(hbg:ρ.g≠b)(hsm:n<=10):
  ar 138 #[ρ.ptr,aL b n n] w (Dj ρ w (dv (xC ks) σ) big):=by
 have HH:=aa h;have HB:=aa hb;clear h hb;go_enter func138,ntmps138;go_wp2_with fail;go_loopw [4] (λ u wr=>∃(i:Nat) (Al:cw),i<=n/\u=af i/\eQ ρ w wr Al big/\dv (xC ks) σ=dv (xC (ks.drop i)) Al) (λ u _=>n-(intOf u).toNat);case atStart=>exact⟨0,σ,gE,rfl,eQ.refl HH.ae,rfl⟩
 case round=>
  obtain⟨i,Al,hi,rfl,hD,hst⟩:=hrel;have HD:=aa hD;have HS:=aa hst;clear hD hst;by_cases hlt:i<n
  ·obtain⟨s,hs⟩:∃s,ks[i]?=some s:=⟨_,getElem?_eq_getElem WC⟩;have hc:=tT (HD.ae.blk HB.ae (λ e=>hbg e.symm)) hs;have wh:=aa (K9 hs);clear hs;have hm:=sL ρ wr Al big HD.ae.at_ ⟨s.toArray⟩;cases hh:Al.head s
   ·have YO:=aa hh;rw[show Al.head (⟨s.toArray⟩:u_).data.toList=false from hh,jG (s:=(⟨s.toArray⟩:u_).data.toList) hh]at hm;clear hh;go_wp2_with (first
     |(go_at_call 87;refine hm.mono ?_;rintro e w1 ⟨rfl,d1⟩)
     |(go_at_call 88;refine(qm ρ _ _ big d1.at_).mono ?_;rintro e w2 ⟨rfl,d2⟩))
    go_end0;refine⟨rfl,?_⟩;rw[HS.ae,wh.ae,vr,Bk YO.ae,Dk];exact HD.ae.trans (d1.trans d2)
   have YO:=aa hh;rw[show Al.head (⟨s.toArray⟩:u_).data.toList=true from hh,kI (s:=(⟨s.toArray⟩:u_).data.toList) hh]at hm;clear hh;go_wp2_with (first
    |(go_at_call 87;refine hm.mono ?_;rintro e w1 ⟨rfl,d1⟩))
   go_roundw;case rel=>refine⟨i+1,_,by omega,by go_num,HD.ae.trans d1,?_⟩;rw[HS.ae,wh.ae,vr,sJ YO.ae]
   case measure=>exact Za2
  obtain rfl:i=n:=by omega
  have hd:ks.drop i=[]:=drop_eq_nil_of_le WC;rw[hd]at HS;go_wp2_with fail;go_end0;refine⟨rfl,?_⟩;rw[HS.ae,sK];exact HD.ae
theorem Hl(ρ:dx)(w:t_)(σ:cw)(big:Bool)(h:ρ.at w σ big)(n:Nat)(hn:n<=1000000):
  ar 140 #[ρ.ptr,af n] w λ e w'=>e=.returned (.bool (σ.head dO))/\eQ ρ w w' (dv (may dO) σ) (big||decide (64<n)):=by
 have QX:ρ.ptr=aw ρ.g:=rfl;obtain⟨c0,c1,c2,c3,f1,f2,f3⟩:=h.facts;by_cases h64:64<n
 ·have hB:=aB.aW h.blk 3 (.bool true);have hg:w.grownBy (w.setCell ⟨ρ.g,3,none⟩ (.bool true)) (some ρ.g):=aF (aQ cX) 3 _;have hat:ρ.at (w.setCell ⟨ρ.g,3,none⟩ (.bool true)) σ true:=h.set hB hg h.of;have hm:=sL ρ _ σ true hat ⟨#[44]⟩;have e1:(big||decide (64<n))=true:=by simp[h64]
  have hn:(64:Int)< n:=WC;rw[e1];clear h hat hB e1;unfold dx.ptr at*;go_enter func140,ntmps140;go_wp2_with (first
   |(go_at_call 87;refine hm.mono ?_;rintro e w1 ⟨rfl,d1⟩))
  go_ret;exact⟨rfl,⟨d1.at_,ba hg d1.grown⟩⟩
 have hm:=sL ρ _ σ big h ⟨#[44]⟩;have e1:(big||decide (64<n))=big:=by simp[h64]
 have hn:¬(64:Int)< n:=WC;rw[e1];clear h e1;unfold dx.ptr at*;go_enter func140,ntmps140;go_wp2_with (first
  |(go_at_call 87;refine hm.mono ?_;rintro e w1 ⟨rfl,d1⟩))
 go_ret;exact⟨rfl,d1⟩
def lH(lv:Nat)(t:Wd):Int:=(G8 (opsL lv) [t]).getD 0
variable{lv:Nat}
theorem aiL{t:Wd}(h1:t.k≠1)(h4:t.k≠4):lH lv t=0:=by
 unfold lH;have:∀ks,G8 ks [t]=none:=by
  intro ks
  induction ks with
  |nil=>rfl
  |cons a ks ih=>obtain⟨s,o⟩:=a;simp[G8,dL,ju,h1,h4,ih]
 rw[this];rfl
theorem Um{t:Wd}(h:t.k=1\/t.k=4):lH lv t=((opsL lv).lookup t.s).getD 0:=by
 unfold lH;congr 1;have hk:(t.k==1||t.k==4)=true:=by rcases h with h|h<;>simp[h]
 generalize opsL lv=ks
 induction ks with
 |nil=>rfl
 |cons a ks ih=>obtain⟨s,o⟩:=a;simp only[G8,dL,ju,hk,Bool.true_and,List.lookup];rw[ih];cases e:(t.s==s)<;>simp
def tU(lv:Nat)(t:Wd)(w:t_)(e:Ending)(w':t_):Prop:=e=.returned (ag (lH lv t))/\ai w w'
theorem nU(lv:Nat)(hlv:lv=0\/lv=1\/lv=4\/lv=5)(t:sB)(w:t_)(hk:t.w.k=1\/t.w.k=4):
  ar 200 #[af lv,.agg (dJ t)] w (tU lv t.w w):=by
 have HR:=aa (Um (lv:=lv) hk);have hb:=ah w (.cells (dJ t) 172);obtain⟨u0,u1,u2,u3,_⟩:=bM (aB.new w 172 (dJ t));unfold tU;unfold dJ at*;rcases hk with hk|hk
 ·have n1:((t.w.k:Int) != 1)=false:=by simp;omega
  exact Zdc
 have n1:((t.w.k:Int) != 1)=true:=by simp;omega
 have n2:((t.w.k:Int) != 4)=false:=Tac;exact Zdc
def lY:List (xb):=[[61],[60,62],[60],[60,61],[62],[62,61]]
theorem L0{x:xb}{i:Nat}(hi:i<6):∃y,lY[i]?=some y/\((opsL 3).drop i).lookup x=if x==y then some ((10:Int)+i)else((opsL 3).drop (i+1)).lookup x:=by rcases(by omega:i=0\/i=1\/i=2\/i=3\/i=4\/i=5)with rfl|rfl|rfl|rfl|rfl|rfl<;>refine⟨_,rfl,?_⟩<;>simp[opsL,List.lookup,anA,anB,anC,anD,aiw,anE]<;>split<;>simp_all
theorem QZ(t:sB)(w:t_)(hk:t.w.k=1\/t.w.k=4):
  ar 200 #[af (3:Nat),.agg (dJ t)] w (tU 3 t.w w):=by
 have HR:=aa (Um (lv:=3) hk);obtain⟨u0,u1,u2,u3,_⟩:=bM (aB.new w 172 (dJ t));have hn:(((t.w.k:Int) != 1)=false)\/((((t.w.k:Int) != 1)=true)/\(((t.w.k:Int) != 4)=false)):=by rcases hk with hk|hk;exact .inl Tac;exact .inr ⟨by simp;omega,by simp;omega⟩
 clear hk;have b1:=aj.then (ah w (.cells (dJ t) 172)) (ah _ (.cells (bL lY) 9));have B1:=(aB.new w 172 (dJ t)).alloc (.cells (bL lY) 9);have B2:=aB.new (w.alloc (.cells (dJ t) 172)) 9 (bL lY);rw[World.size_alloc]at B2;have eZ:=aa B1;have fT:=aa B2;have hb:=aa b1;clear B1 B2 b1;unfold tU;have anS:bL lY= #[.string ⟨#[61]⟩,.string ⟨#[60,62]⟩,.string ⟨#[60]⟩,.string ⟨#[60,61]⟩,.string ⟨#[62]⟩,.string ⟨#[62,61]⟩]:=rfl;rw[anS]at eZ fT hb;unfold dJ at*;generalize lH 3 t.w=R at*;rcases hn with n1|⟨n1,n2⟩;all_goals
  go_enter func200,ntmps200;go_wp2_with fail;clear u0 u1 u2 u3;generalize (w.alloc _).alloc _=W at*;go_loopw [6] (λ u wr=>∃k:Nat,k<=6/\u=af k/\ai W wr/\(opsL 3).lookup t.w.s=((opsL 3).drop k).lookup t.w.s) (λ u _=>6-(intOf u).toNat);case atStart=>exact⟨0,gE,rfl,cX,rfl⟩
  case round=>
   obtain⟨k,hi,rfl,hP,hlk⟩:=hrel;have Fp:=aa hlk;have iJ:=aa hP;clear hlk hP;by_cases hlt:k<6
   ·obtain⟨y,hy,hstep⟩:=L0 (x:=t.w.s) hlt;have HST:=aa hstep;have c2:=(fT.ae.later iJ.ae).cell k;rw[<-anS,show(bL lY)[k]?=some (.string ⟨y.toArray⟩) by simp[bL,hy,strOf]]at c2;have c1:=(eZ.ae.later iJ.ae).cell 1;have rB:k<6:=hlt;clear hy hstep;cases he:(t.w.s==y)
    ·have HE:=aa he;have t1:(y==t.w.s)=false:=by rw[beq_eq_false_iff_ne]at he⊢;exact λ e=>he e.symm
     clear he;go_wp2_with fail;go_region;go_wp2_with fail;go_roundw;case rel=>refine⟨k+1,by omega,by go_num,iJ.ae.drew,?_⟩;rw[Fp.ae,HST.ae,HE.ae];rfl
     case measure=>simp[intOf];omega
    have HE:=aa he;have t1:(y==t.w.s)=true:=by rw[beq_iff_eq]at he⊢;exact he.symm
    clear he;go_wp2_with fail;go_region;go_wp2_with fail;go_ret;refine⟨?_,aj.then hb.ae iJ.ae.drew⟩;rw[HR.ae,Fp.ae,HST.ae,HE.ae];refine nR ?_;rcases(by omega:k=0\/k=1\/k=2\/k=3\/k=4\/k=5)with rfl|rfl|rfl|rfl|rfl|rfl<;>rfl
   obtain rfl:k=6:=by omega
   go_wp2_with fail;go_ret;rw[HR.ae,Fp.ae];exact⟨rfl,aj.then hb.ae iJ.ae⟩
theorem Ra(lv:Nat)(hlv:lv=0\/lv=1\/lv=3\/lv=4\/lv=5)(t:sB)(w:t_):
  ar 200 #[af lv,.agg (dJ t)] w (tU lv t.w w):=by
 by_cases hk:t.w.k=1\/t.w.k=4
 ·rcases hlv with rfl|rfl|rfl|rfl|rfl
  ·exact nU 0 Tad t w hk
  exact nU 1 Tad t w hk;exact QZ t w hk;exact nU 4 Tad t w hk;exact nU 5 Tad t w hk
 have hb:=ah w (.cells (dJ t) 172);obtain⟨u0,u1,u2,u3,_⟩:=bM (aB.new w 172 (dJ t));unfold tU;unfold dJ at*;have HR:=aa (aiL (lv:=lv) (λ e=>hk (.inl e)) (λ e=>hk (.inr e)));generalize lH lv t.w=R at*;have n1:((t.w.k:Int) != 1)=true:=by simp;omega
 have n2:((t.w.k:Int) != 4)=true:=Tac;go_enter func200,ntmps200;go_wp2_with fail;go_ret;rw[HR.ae];exact⟨rfl,hb⟩
def rI:Obj:=.cells #[ag 0,ag 0,af 0,au,au,af 0,az] 46
variable{y:Ex}
theorem dw(h:aB w q 46 (bH y).toArray):
  w.cell? ⟨q,0,none⟩=some (ag y.op)/\w.cell? ⟨q,1,none⟩=some (ag y.v.k)/\w.cell? ⟨q,2,none⟩=some (af y.v.n)/\w.cell? ⟨q,3,none⟩=some (.string y.v.s)/\w.cell? ⟨q,4,none⟩=some (.string y.name)/\w.cell? ⟨q,5,none⟩=some (af y.width)/\w.cell? ⟨q,6,none⟩=some (.slice y.A y.n y.c):=
 ⟨h.cell 0,h.cell 1,h.cell 2,h.cell 3,h.cell 4,h.cell 5,h.cell 6⟩
variable{T:TypeId}{d e f:Value}
theorem bR{a b c g:Value}(h:aB w q T #[a,b,c,d,e,f,g]):
  w.cell? ⟨q,0,none⟩=some a/\w.cell? ⟨q,1,none⟩=some b/\w.cell? ⟨q,2,none⟩=some c/\w.cell? ⟨q,3,none⟩=some d/\w.cell? ⟨q,4,none⟩=some e/\w.cell? ⟨q,5,none⟩=some f/\w.cell? ⟨q,6,none⟩=some g:=
 ⟨h.cell 0,h.cell 1,h.cell 2,h.cell 3,h.cell 4,h.cell 5,h.cell 6⟩
variable{cs:x_}
theorem eA(h:aB w q 46 cs):
  w.frozen? ⟨q,0,none⟩=false/\w.frozen? ⟨q,1,none⟩=false/\w.frozen? ⟨q,2,none⟩=false/\w.frozen? ⟨q,3,none⟩=false/\w.frozen? ⟨q,4,none⟩=false/\w.frozen? ⟨q,5,none⟩=false/\w.frozen? ⟨q,6,none⟩=false:=
 ⟨h.frozen 0,h.frozen 1,h.frozen 2,h.frozen 3,h.frozen 4,h.frozen 5,h.frozen 6⟩
def dY(w:t_)(q:Nat)(y:Ex):t_:=((((((w.setCell ⟨q,0,none⟩ (ag y.op)).setCell ⟨q,1,none⟩ (ag y.v.k)).setCell ⟨q,2,none⟩ (af y.v.n)).setCell ⟨q,3,none⟩ (.string y.v.s)).setCell ⟨q,4,none⟩ (.string y.name)).setCell ⟨q,5,none⟩ (af y.width)).setCell ⟨q,6,none⟩ (.slice y.A y.n y.c)
theorem eB{a b c g:Value}(h:aB w q T #[a,b,c,d,e,f,g])(y:Ex):aB (dY w q y) q T (bH y).toArray:=by have:=((((((h.aW 0 (ag y.op)).aW 1 (ag y.v.k)).aW 2 (af y.v.n)).aW 3 (.string y.v.s)).aW 4 (.string y.name)).aW 5 (af y.width)).aW 6 (.slice y.A y.n y.c);exact Zea
theorem WT{p:Nat}(h:aB w p T cs)(hp:p≠q)(y:Ex):aB (dY w q y) p T cs:=
 ((((((h.far (p:=⟨q,0,none⟩) hp _).far (p:=⟨q,1,none⟩) hp _).far (p:=⟨q,2,none⟩) hp _).far (p:=⟨q,3,none⟩) hp _).far (p:=⟨q,4,none⟩) hp _).far (p:=⟨q,5,none⟩) hp _).far (p:=⟨q,6,none⟩) hp _
variable{W:t_}
theorem eQ.dY(h:eQ ρ W w σ big)(hW:ρ.g<W.heap.size)(hq:W.heap.size<=q)(y:Ex):eQ ρ W (dY w q y) σ big:=
 ((((((h.far hW hq 0 _).far hW hq 1 _).far hW hq 2 _).far hW hq 3 _).far hW hq 4 _).far hW hq 5 _).far hW hq 6 _
theorem agr{S:t_->Nat->Prop}(hs:∀(w:t_) (i:Nat) (u:Value),∀b,S w b->(∀o,(w.setCell ⟨q,i,none⟩ u).cell? ⟨b,o,none⟩=w.cell? ⟨b,o,none⟩)/\S (w.setCell ⟨q,i,none⟩ u) b)(y:Ex):∀b,S w b->(∀o,(Go.Proofs.YtndgjggokjickaaGreatDoor.R.dY w q y).cell? ⟨b,o,none⟩=w.cell? ⟨b,o,none⟩)/\S (Go.Proofs.YtndgjggokjickaaGreatDoor.R.dY w q y) b:=by intro b hb;obtain⟨c0,s0⟩:=hs w 0 (ag y.op) b hb;obtain⟨c1,s1⟩:=hs _ 1 (ag y.v.k) b s0;obtain⟨c2,s2⟩:=hs _ 2 (af y.v.n) b s1;obtain⟨c3,s3⟩:=hs _ 3 (.string y.v.s) b s2;obtain⟨c4,s4⟩:=hs _ 4 (.string y.name) b s3;obtain⟨c5,s5⟩:=hs _ 5 (af y.width) b s4;obtain⟨c6,s6⟩:=hs _ 6 (.slice y.A y.n y.c) b s5;exact⟨λ o=>(c6 o).trans ((c5 o).trans ((c4 o).trans ((c3 o).trans ((c2 o).trans ((c1 o).trans (c0 o)))))),s6⟩
variable{t:Tr}
theorem Tr.at_.dY(h:t.at_ w (jM B w) y)(hq:q<B)(z:Ex):t.at_ (dY w q z) (jM B (Go.Proofs.YtndgjggokjickaaGreatDoor.R.dY w q z)) y:=Tr.at_.keep (agr (S:=λ w=>jM B w) (λ w i u=>tQ hq i u) z) t y h
section
variable{lv:Nat}{σ Al:cw}{x y:Tr}{o:Int}
end
theorem Dl(lv:Nat)(z:Int)(hz:z=lv)(hlv:lv=0\/lv=1\/lv=3\/lv=4\/lv=5)(t:sB)(w:t_):
  ar 200 #[af z,.agg #[ag t.w.k,.string ⟨t.w.s.toArray⟩,af t.w.n,af t.p]] w λ e w'=>e=.returned (ag (lH lv t.w))/\ai w w':=by subst hz;exact Ra lv hlv t w
def vu(y:Ex):Obj:=.cells (bH y).toArray 46
def Bl(y z:Ex):Obj:=.cells (bH y++bH z).toArray 46
section
variable{σ Al:cw}{x y:Tr}{o:Int}
end
section
variable{t:Wd}{r:dI}{x:Tr}
structure Plain (t:Wd):Prop where
 i:t.k≠2
 s:t.k≠3
structure Ng (t:Wd):Prop where
 p:Plain t
 wt:ju QG t=false
 wf:ju BR t=false
 wn:ju G3 t=false
 wo:ju eN t=false
end
section
variable{n:u_}{σ:cw}{z:Tr}{op:Int}
end
theorem Hm(v:Val)(w:t_):ar 208 #[.agg #[ag v.k,af v.n,.string v.s]] w λ e w'=>e=.returned (.agg #[ag 1,ag v.k,af v.n,.string v.s,au,af 0,az])/\ai w w':=by go_enter func208,ntmps208;go_wp2_with fail;refine bodyPost_ret (v:=.agg #[ag 1,ag v.k,af v.n,.string v.s,au,af 0,az]) ?_ rfl ⟨rfl,aj.then (ah w _) (ah _ _)⟩;simp[results,results208,go_sem]
theorem cy(ρ:dx)(w:t_)(σ:cw)(big:Bool)(h:ρ.at w σ big)(s:u_)(hh:σ.head s.data.toList=false):
  ar 87 #[ρ.ptr,.string s] w λ e w'=>e=.returned (.bool false)/\eQ ρ w w' σ big:=by have:=sL ρ w σ big h s;rw[hh,jG hh]at this;exact this
theorem oZ(ρ:dx)(w:t_)(σ:cw)(big:Bool)(h:ρ.at w σ big)(s:u_)(hh:σ.head s.data.toList=true):
  ar 87 #[ρ.ptr,.string s] w λ e w'=>e=.returned (.bool true)/\eQ ρ w w' (.good σ.words.tail) big:=by have:=sL ρ w σ big h s;rw[hh,kI hh]at this;exact this
section
variable{P:Program}{l zs:List Oper}{Q:y_}{u:Nat->Value}{ch:List Nat}{G:xr->t_->Prop}{a0:Act}{w0:t_}
end
theorem _root_.Go.Proofs.YtndgjggokjickaaGreatDoor.aj.cell{a b:t_}(h:aj a b){p:Addr}(hp:p.block<a.heap.size):b.cell? p=a.cell? p:=Below.cell h hp
theorem qp{a b:t_}{row:Option Nat}(h:a.grownBy b row){p:Addr}(hp:p.block<a.heap.size)(hr:some p.block≠row):b.cell? p=a.cell? p:=by unfold World.cell?;rw[h.block p.block hp hr]
def Dm(o0 o1 o2 o3 o4 o5 o6:Oper)(q d0 d1 d2 d3 d4 d5 d6:Tmp):Bool:=
 (tmpsOf o0== [q])&&(cY [o0,o1,o2,o3,o4,o5,o6] o0 q==none)&&(tmpsOf o1== [d0])&&(cY [o0,o1,o2,o3,o4,o5,o6] o1 d0==some 0)&&
 (tmpsOf o2== [0])&&(cY [o0,o1,o2,o3,o4,o5,o6] o2 0==none)&&(tmpsOf o3== [d2])&&(cY [o0,o1,o2,o3,o4,o5,o6] o3 d2==some 2)&&
 (tmpsOf o4== [d3])&&(cY [o0,o1,o2,o3,o4,o5,o6] o4 d3==some 3)&&(tmpsOf o5== [d1,d4])&&(cY [o0,o1,o2,o3,o4,o5,o6] o5 d1==some 1)&&(cY [o0,o1,o2,o3,o4,o5,o6] o5 d4==some 4)&&
 (tmpsOf o6== [q])&&(cY [o0,o1,o2,o3,o4,o5,o6] o6 q==none)&&
 (o0.dst==some d0)&&(o1.dst==some d1)&&(o2.dst==some d2)&&(o3.dst==some d3)&&(o4.dst==some d4)&&(o5.dst==some d5)&&(o6.dst==some d6)&&
 o0.guard.isNone&&o1.guard.isNone&&o2.guard.isNone&&o3.guard.isNone&&o4.guard.isNone&&o5.guard.isNone&&o6.guard.isNone
section
variable{P:Program}{β:Type}(f:β->xr) (val:β->Value) (e:TypeId) (size base:Nat) (l:List β) (lv:Value) (Post:β->t_->t_->Prop) (w0:t_)
def Un:xr->t_->Prop
 |[],w=>aj w0 w
 |[a],w=>∃y w1 gU,a=val y/\aj w0 w1/\Post y w1 gU/\aj gU w
 |[a,s],w=>∃y w1 gU g0,a=val y/\s=aL g0 1 1/\aj w0 w1/\Post y w1 gU/\aj gU w/\aB w g0 e (f y).toArray
 |[a,s,v],w=>∃y w1 gU w2,a=val y/\aj w0 w1/\Post y w1 gU/\aj gU w2/\aH f e size w2 base lv l/\w2.grownBy w lv.ownBlock/\aH f e size w base v (l++[y])/\(lv=az->l=[]->aH f e size w w2.heap.size v [y])
 |_,_=>False
theorem Re(vs:xr)(w:t_)(h:Un f val e size base l lv Post w0 vs w):Un f val e size base l lv Post w0 vs w.drew:=by
 match vs,h with
 |[],h=>exact aj.trans h (aj.drew _)
 |[a],⟨y,w1,gU,h1,h2,h3,h4⟩=>exact⟨y,w1,gU,h1,h2,h3,h4.trans (aj.drew _)⟩
 |[a,s],⟨y,w1,gU,g0,h1,h2,h3,h4,h5,h6⟩=>exact Ziz
 |[a,s,v],⟨y,w1,gU,w2,h1,h2,h3,h4,h5,h6,h7,h8⟩=>exact⟨y,w1,gU,w2,h1,h2,h3,h4,h5,⟨h6.os,h6.tape,h6.output,h6.size,h6.block⟩,h7.later (aj.drew _),λ a b=>(h8 a b).later (aj.drew _)⟩
 |_::_::_::_::_,h=>exact h.elim
variable{f val e size base l lv Post w0}
variable{Q:y_}{a0:Act}{id:Nat}{o0 o1 o2 o3 o4 o5 o6 o7:Oper}{q d0 d1 d2 d3 d4 d5 d6:Tmp}{qb k g:Nat}{pq ptr:Value}{F:FuncId}{args:x_}
def zcu.Kar(h:p:=by
 have Dp:∀vs w,Un f val e size base l lv Post w0 vs w->w.cell? ⟨qb,k,none⟩=some lv:=by exact Zca
 refine pS [o7] [o0,o1,o2,o3,o4,o5,o6] rfl (λ i=>if i=0 then aY qb k else if i=1 then lv else if i=2 then ptr else aY qb k) [3,4,5] (Un f val e size base l lv Post w0) (Re f val e size base l lv Post w0) (aj.refl w0) hm bc hz hch Tab rfl ?_ ?_
 ·refine⟨ZdM,Zgu,ZdO,ZcU,Zcc,?_,ZdP,trivial⟩
  ·intro ρ w vs hc hG hr;rw[t5]at hr;have r0:=hr.1;have r1:=hr.2.1;simp only[s5]at r0;simp only[s5']at r1;refine⟨g5,?_⟩;show vs.length=2->_;intro hl
   match vs,hl with
   |[a,s],_=>
     have r1:some s=some (ρ (.tmp d4)):=r1;injection r1 with r1;obtain⟨y,w1,gU,gg,ha,hs,h2,h3,h4,h5⟩:=hG;obtain⟨k1,k2,k3⟩:=xE h2 h3 h4;obtain⟨v',w',hrun,ho,zT⟩:=fA (P:=P) (w:=w) t ty z bytes ht jQ hzs hsz hf (h1 y) k2 gg h5 hlen nI (fK hbase k3);refine aq (hap ρ w _ v' w' r0 (r1.symm.trans hs) hrun) ⟨y,w1,gU,w,ha,h2,h3,h4,k2,zT.grown,ho,?_⟩;intro hlv hl0;subst hl0;have k4:aH f e size w w.heap.size lv ([]:List β):=by rw[hlv];exact aH.nil
     obtain⟨v2,L3,Dq,ho2,_⟩:=fA (P:=P) (w:=w) t ty z bytes ht jQ hzs hsz hf (h1 y) k4 gg h5 hlen nI aE;rw[hrun]at Dq;injection Dq with e1 e2;rw[e1,e2];exact ho2
 exact ZbK):=h
theorem Am(t ty:TypeId)(z:Value)(bytes:Nat)
  (hm:P.follows .mixedOrders=true) (bc:dC [o0,o1,o2,o3,o4,o5,o6] a0.tmps.size [o0,o1,o2,o3,o4,o5,o6] 0=true) (hz:eD [o0,o1,o2,o3,o4,o5,o6,o7] [o7] 7=true) (hch:lZ [o0,o1,o2,o3,o4,o5,o6] [3,4,5]=true) (Dn:Dm o0 o1 o2 o3 o4 o5 o6 q d0 d1 d2 d3 d4 d5 d6=true)
  (hq:a0.eval (.tmp q)=pq) (h0:a0.eval (.tmp 0)=ptr)
  (hfa:∀ρ w,ρ (.tmp q)=pq->(execOp ρ o0).run P w=.ok (.value (aY qb k)) w) (L1:∀ρ w,ρ (.tmp q)=pq->(execOp ρ o6).run P w=.ok (.value (aY qb k)) w)
  (hld:∀ρ w,ρ (.tmp d0)=aY qb k->w.cell? ⟨qb,k,none⟩=some lv->(execOp ρ o1).run P w=.ok (.value lv) w)
  (FM:∀ρ w,ρ (.tmp 0)=ptr->(execOp ρ o2).run P w=.ok (.value ptr) w)
  (cj:∀ρ w,gD ρ->ρ (.tmp d2)=ptr->(execOp ρ o3).run P w=.ok (.enter F args) w)
  (Lz:∀ρ w y,ρ (.tmp d3)=val y->(execOp ρ o4).run P w=.ok (.value (aL w.heap.size 1 1)) (w.alloc (.cells (f y).toArray e)))
  (hap:∀ρ w s v' w',ρ (.tmp d1)=lv->ρ (.tmp d4)=s->(Builtin.append_ #[t,t] ty #[lv,s]).run P w=.ok v' w'->(execOp ρ o5).run P w=.ok (.value v') w')
  (ht:P.underlying t=some (.slice e)) (jQ:(P.info? e).map (λ i=>(i.zero,i.size,i.bytes))=some (some z,size,bytes)) (hzs:z.cells.size=size) (hsz:0<size) (hf:∀x,(f x).length=size) (h1:∀y,∀u∈f y,u.oneCell'=true)
  (hown:aH f e size w0 base lv l) (hcell:w0.cell? ⟨qb,k,none⟩=some lv) (Vx:qb≠g) (YP:lv.ownBlock≠some g) (hlq:lv.ownBlock≠some qb) (hlen:(l.length+1)*bytes<=140737488355328) (nI:l.length+1<=140737488355328) (hbase:base<=w0.heap.size)
  (mE:∀w,aj w0 w->Calls P F args w λ e w'=>∃y,e=.returned (val y)/\Post y w w') (Uo:∀y w w',Post y w w'->w.grownBy w' (some g))
  (mO:∀y s v' w1 gU w2 W,aj w0 w1->Post y w1 gU->aj gU w2->aH f e size w2 base lv l->w2.grownBy W lv.ownBlock->aH f e size W base v' (l++[y])->(lv=az->l=[]->aH f e size W w2.heap.size v' [y])->W.cell? ⟨qb,k,none⟩=some lv->
    wpList P [o0,o1,o2,o3,o4,o5,o6,o7].toArray Q [o7] (((((((a0.put (some d0) (aY qb k)).put (some d1) lv).put (some d2) ptr).put (some d3) (val y)).put (some d4) s).put (some d5) v').put (some d6) (aY qb k)) W):
  (Code.region id [o0,o1,o2,o3,o4,o5,o6,o7].toArray true).wp P Q a0 w0:=by
 open zcu in exact ZaZ
end
def uu:List (xb):=[[98,117,99,107,101,116],[99,111,117,110,116],[115,117,109],[109,105,110],[109,97,120],[97,118,103],[102,105,114,115,116],[108,97,115,116]]
def nC:List Int:=[20,22,23,24,25,26,27,28]
def zt(l:List Int):x_:=(l.map λ o=>Value.int .u8 o).toArray
theorem Dr{x:xb}{i:Nat}(hi:i<8):∃y o,uu[i]?=some y/\nC[i]?=some o/\(QK.drop i).lookup x=if x==y then some o else(QK.drop (i+1)).lookup x:=by rcases(by omega:i=0\/i=1\/i=2\/i=3\/i=4\/i=5\/i=6\/i=7)with rfl|rfl|rfl|rfl|rfl|rfl|rfl|rfl<;>refine⟨_,_,rfl,rfl,?_⟩<;>simp[QK,List.lookup,CZ,JT,G6,agn,ago,agp,TY,G7]<;>split<;>simp_all
section
variable{W:Ps Tr}{σ:cw}{x y:Tr}{op k:Int}
end
variable{W0:t_}
theorem eQ.own{row:Option Nat}(h:eQ ρ W0 w σ big)(hg:ρ.g<W0.heap.size)(k:w.grownBy w' row)(hr:∀G,row=some G->W0.heap.size<=G):eQ ρ W0 w' σ big:=by
 have hl:=h.at_.lt;have hs:=h.size;have ng:some ρ.g≠row:=λ e=>by have:=hr _ e.symm;omega
 have nl:some ρ.gl≠row:=λ e=>by have:=hr _ e.symm;omega
 refine⟨⟨h.at_.blk.grown k ng,hl,λ j t ht=>?_,h.at_.of,h.at_.small,h.at_.K7⟩,k.os.trans h.grown.os,k.tape.trans h.grown.tape,k.output.trans h.grown.output,fK hs k.size,λ i hi hne=>?_⟩;have hc:=cell_of_heap (k.block ρ.gl WC nl);obtain⟨h1,h2,h3,h4⟩:=h.at_.cell j t ht;exact⟨(hc _).trans h1,(hc _).trans h2,(hc _).trans h3,(hc _).trans h4⟩;rw[k.block i WC (λ e=>by have:=hr _ e.symm;omega)];exact h.grown.block i hi hne
variable{S:Nat->Prop}
theorem Rf{f:α->xr}{e:TypeId}{size:Nat}(hf:∀x,(f x).length=size){l:List α}(h:aH f e size w base v l)(hS:∀g,base<=g->g<w.heap.size->S g):
  ∃A c,v=.slice A l.length c/\RL f size w S A l:=by
 obtain⟨A,c,hv,_⟩:=h.reads;refine⟨A,c,hv,?_⟩
 match l,h,hv with
 |[],_,_=>exact .inl rfl
 |x::l,h,hv=>obtain⟨g,c',hv',hb,hlt,_⟩:=h.cell hf (k:=0) (x:=x) rfl;rw[hv]at hv';injection hv' with hA _ _;refine .inr ⟨g,0,hA,hS g hb hlt,λ i y j u hy hu=>?_⟩;obtain⟨g2,c2,hv2,_,_,hc⟩:=h.cell hf hy;rw[hv]at hv2;injection hv2 with uJ _ _;rw[hA]at uJ;injection uJ with uJ;injection uJ with uJ _ _;subst uJ;rw[Nat.zero_add];exact hc j u hu
def Pq(ρ:dx)(W:t_)(t:Tr)(r:dI)(e:Ending)(w':t_):Prop:=∃y,e=.returned (nt y)/\t.at_ w' (jM W.heap.size w') y/\eQ ρ W w' (.good r) false
def cZ(z:Int)(l:dI)(t:Tr)(r:dI):Prop:=∀(ρ:dx) (w:t_),ρ.at w (.good l) false->ar 184 #[ρ.ptr,af z] w (Pq ρ w t r)
def mP(l:dI)(t:Tr)(r:dI):Prop:=∀(ρ:dx) (w:t_),ρ.at w (.good l) false->ar 199 #[ρ.ptr] w (Pq ρ w t r)
variable{r:dI}
theorem Pq.put(hg:ρ.g<w.heap.size)(hq:w.heap.size<=q)(hd:eQ ρ w W (.good r) false)(ht:t.at_ W (jM (q+1) W) y):Pq ρ w t r (.returned (nt y)) (dY W q y):=
 ⟨y,rfl,(ht.dY (Nat.lt_succ_self q) y).more WC,hd.dY hg hq y⟩
theorem anV(hn:dL G1 l=false)(H:cZ 3 l t r):cZ 2 l t r:=by intro ρ w h;have ei:=h.Hk;have hb:=ah w rI;have h0:=h.later hb;have hm:=cy ρ _ _ false h0 ⟨#[110,111,116]⟩ hn;exact ZaU
theorem anW(hn:dL tO l=false)(H:cZ 7 l t r):cZ 6 l t r:=by intro ρ w h;have ei:=h.Hk;have hb:=ah w rI;have h0:=h.later hb;have hm:=cy ρ _ _ false h0 ⟨#[45]⟩ hn;exact ZaU
def zit.Kcr(h:p:=by refine bodyPost_ret (v:=nt y) ZeL rfl ?_;exact Pq.put ei aE D2.ae (ht.more WC)):=h
def zeS.Ka3(h:p:=by unfold rI at*;go_enter func184,ntmps184;go_wp2_with fail;refine(H ρ _ h0).mono ?_;rintro e w2 ⟨y,rfl,ht,Rg⟩;unfold nt bH;have Uu:=Rg.blk HQ.ae WC;have kt:=aa Uu;obtain⟨z0,z1,z2,z3,z4,z5,z6⟩:=eA Uu;obtain⟨y0,y1,y2,y3,y4,y5,y6⟩:=bR Uu;have D2:=aa ((eQ.df h hb).trans Rg);have hs2:=Rg.size;open zit in exact Zhn):=h
theorem anX(H:mP l t r):cZ 7 l t r:=by intro ρ w h;open zeS in exact ZcR
variable{u:Wd}
def zir.Kcr(h:p:=by refine bodyPost_ret (v:=nt y) ZeL rfl ?_;exact Pq.put ei aE (HD.ae.later hL) ((HT.ae.later hL).more aE)):=h
def zb5.Kam(h:p:=by have Uu:=Up.ae.later hL;have Rg:=HX.ae.later hL;obtain⟨z0,z1,z2,z3,z4,z5,z6⟩:=eA Uu;obtain⟨y0,y1,y2,y3,y4,y5,y6⟩:=bR Uu;obtain⟨x0,x1,x2,x3,x4,x5,x6⟩:=bR Rg;have kt:=aa Uu;have hqb:=Uu.lt;open zir in exact Zhn):=h
def zeT.Ka3(h:p:=by
 have n2:(z==2)=false:=by rw[beq_eq_false_iff_ne];omega
 have n6:(z==6)=false:=by rw[beq_eq_false_iff_ne];omega
 have n7:(z==7)=false:=by rw[beq_eq_false_iff_ne];omega
 have n3:(z==3)=false:=by rw[beq_eq_false_iff_ne];omega
 have hz5:0<=z/\z<=5:=WC;have HBZ:=aa (λ tk=>Dl lv z hz WC tk);have WU:=aa hop;have HH:=aa H;clear hlv hz hop H;unfold rI at*;unfold dx.ptr;go_enter func184,ntmps184;go_wp2_with (first
  |(go_at_call 184;refine(HH.ae ρ _ h0).mono ?_;rintro e w2 ⟨y,rfl,ht,d2⟩;unfold nt bH))
 have hD:=((eQ.df h hb).trans d2).later (ah w2 (.cells #[ag y.op,ag y.v.k,af y.v.n,.string y.v.s,.string y.name,af y.width,.slice y.A y.n y.c] 46));have hX:=aB.new w2 46 #[ag y.op,ag y.v.k,af y.v.n,.string y.v.s,.string y.name,af y.width,.slice y.A y.n y.c];have hQ:=(d2.blk HQ.ae WC).alloc (.cells #[ag y.op,ag y.v.k,af y.v.n,.string y.v.s,.string y.name,af y.width,.slice y.A y.n y.c] 46);have hT:=(ht.later (ah w2 (.cells #[ag y.op,ag y.v.k,af y.v.n,.string y.v.s,.string y.name,af y.width,.slice y.A y.n y.c] 46))).more (B':=w.heap.size+1) WC;have hqx:w.heap.size+1<=w2.heap.size:=by have:=d2.size;omega
 generalize w2.alloc _=W at*;generalize w2.heap.size=qx at*;have HD:=aa hD;have HX:=aa hX;have Up:=aa hQ;have HT:=aa hT;clear hD hX hQ hT ht d2 h0 hb HQ HH;go_loopg [] 0 (λ k wr=>wr=W);case atStart=>rfl
 case round=>
  obtain rfl:_=W:=hrel;obtain⟨tk,pl,bd,hpl,aqI,anY,vt,cq,hg,LD,wV,hp⟩:=HD.ae.at_.xD;obtain⟨r',nX⟩:=hg _ rfl;obtain rfl:u=tk.w:=by injection nX
  have zr:bd<0:=by simpa [cw.iy] using cq
  have HP:=aa hp;have c2:=hp.c2;have hbz:=HBZ.ae tk;rw[WU.ae]at hbz;clear hpl hg cq vt hp nX;open zb5 in exact ZaH):=h
theorem tV(lv:Nat)(hlv:lv=0\/lv=1\/lv=4\/lv=5)(hop:lH lv u=0)(H:cZ ((lv:Int)+1) l t (u::r)):cZ lv l t (u::r):=by intro ρ w h;obtain⟨z,hz⟩:∃z:Int,z=lv:=⟨_,rfl⟩;rw[<-hz]at H⊢;open zeT in exact ZcR
theorem Ds{t:Wd}(hk:t.k=1)(hr:uq t.s=false)(ρ:dx)(w:t_)(h:ρ.at w (.good (t::r)) false):
  ar 137 #[ρ.ptr] w λ e w'=>∃n:u_,n=⟨t.s.toArray⟩/\e=.returned (.string n)/\eQ ρ w w' (.good r) false:=by refine(adB ρ w _ false h).mono ?_;rintro e w' ⟨x,rfl,d,hg⟩;rw[tS,if_pos ⟨hk,hr⟩]at d;simp only[kY,xw,hk,hr,and_self,if_true]at hg;exact⟨x,hg,rfl,d⟩
def zd4.KaO(h:p:=by have jw:=HK.ae;have hst:=dx.at.step HF.ae (show tk.w.k≠0 by omega);have HST:=aa hst;have HX:=zu.ae.far (p:=⟨ρ.g,1,none⟩) Tac (af ((ρ.n:Int)-r.length));obtain⟨s0,s1,s2,s3,_⟩:=bM HX;clear HX hst;go_wp2_with (go_at_call 208;refine(Hm ⟨2,tk.w.n,⟨#[]⟩⟩ _).mono ?_;rintro e w4 ⟨rfl,b4⟩;have Uq:=(nV.ae.far (p:=⟨ρ.g,1,none⟩) Tac (af ((ρ.n:Int)-r.length))).later b4;have aiM:=aa Uq;have B4:=aa b4;obtain⟨z0,z1,z2,z3,z4,z5,z6⟩:=eA Uq;obtain⟨y0,y1,y2,y3,y4,y5,y6⟩:=bR Uq;clear Uq b4);have HP:=eB aiM.ae ⟨1,⟨2,tk.w.n,⟨#[]⟩⟩,⟨#[]⟩,0,none,0,0⟩;have HR:=dw HP;unfold dY at HR;obtain⟨r0,r1,r2,r3,r4,r5,r6⟩:=HR;refine bodyPost_ret (v:=nt ⟨1,⟨2,tk.w.n,⟨#[]⟩⟩,⟨#[]⟩,0,none,0,0⟩) Zc1 rfl ?_;exact Pq.put (t:=ur ⟨2,tk.w.n,ByteArray.empty⟩) ei aE ((HD.ae.trans HST.ae).later B4.ae) (JX _ _ _)):=h
def zao.KG(h:p:=by
 have e1:(pl:Int)+1=(ρ.n:Int)-r.length:=by rw[hpl];simp only[cw.left,length_cons]at*;omega
 open zd4 in exact Zcg):=h
theorem L5{t:Wd}(jw:t.k=2):mP (t::r) (ur ⟨2,t.n,ByteArray.empty⟩) r:=by intro ρ w h;have HK:=aa jw;clear jw;open zao in exact Zaf
def zh0.Kcg(h:p:=by refine(oZ ρ _ _ false d1.at_ ⟨#[102,97,108,115,101]⟩ (show(cw.good (tk.w::r)).head (⟨#[102,97,108,115,101]⟩:u_).data.toList=true from Bf.ae)).mono ?_;rintro e w2 ⟨rfl,d2⟩;go_wp2_with fail;refine(Hm ⟨1,0,⟨#[]⟩⟩ _).mono ?_;rintro e w9 ⟨rfl,b4⟩;have Uu:=((d2.blk ((d1.blk (nV.ae) WC)) WC)).later b4;have aiM:=aa Uu;have B4:=aa b4;obtain⟨z0,z1,z2,z3,z4,z5,z6⟩:=eA Uu;obtain⟨y0,y1,y2,y3,y4,y5,y6⟩:=bR Uu;have D1:=aa d1;have D2:=aa d2;clear Uu b4;go_wp2_with fail;have HP:=eB aiM.ae ⟨1,⟨1,0,⟨#[]⟩⟩,⟨#[]⟩,0,none,0,0⟩;have HR:=dw HP;unfold dY at HR;obtain⟨r0,r1,r2,r3,r4,r5,r6⟩:=HR;refine bodyPost_ret (v:=nt ⟨1,⟨1,0,⟨#[]⟩⟩,⟨#[]⟩,0,none,0,0⟩) Zc1 rfl ?_;exact Pq.put (t:=ur ⟨1,0,ByteArray.empty⟩) ei aE ((((HD.ae).trans D1.ae).trans D2.ae).later B4.ae) (JX _ _ _)):=h
def zbz.Kag(h:p:=by open zh0 in exact ZgA):=h
def zap.KG(h:p:=by
 have e1:(pl:Int)+1=(ρ.n:Int)-r.length:=by rw[hpl];simp only[cw.left,length_cons]at*;omega
 open zbz in exact ZaB):=h
theorem Rh{t:Wd}(hg:Plain t)(HX:ju QG t=false)(h2:ju BR t=true):mP (t::r) (ur ⟨1,0,ByteArray.empty⟩) r:=by intro ρ w h;have xF:=aa hg;clear hg;have H1:=aa HX;have Bf:=aa h2;clear HX h2;open zap in exact Zaf
def zet.KaU(h:p:=by have Uu:=Ri.ae;have hqb:=Uu.lt;obtain⟨z0,z1,z2,z3,z4,z5,z6⟩:=eA Uu;obtain⟨y0,y1,y2,y3,y4,y5,y6⟩:=bR Uu;clear Uu;go_wp2_with fail;have HP:=eB Ri.ae ⟨2,vp,n,0,none,0,0⟩;have HR:=dw HP;unfold dY vp at HR;obtain⟨r0,r1,r2,r3,r4,r5,r6⟩:=HR;refine bodyPost_ret (v:=nt ⟨2,vp,n,0,none,0,0⟩) Zc1 rfl ?_;rw[<-HN.ae];exact Pq.put (t:=vk n) ei aE YR.ae (Db _ _ _)):=h
def zdX.KaM(h:p:=by rw[show(cw.good r).head (⟨#[40]⟩:u_).data.toList=false from HC.ae]at hwd;open zet in exact ZcE):=h
def zh1.Kcg(h:p:=by refine(cy ρ _ _ false d1.at_ ⟨#[102,97,108,115,101]⟩ (show(cw.good (tk.w::r)).head (⟨#[102,97,108,115,101]⟩:u_).data.toList=false from H2.ae)).mono ?_;rintro e w2 ⟨rfl,d2⟩;go_wp2_with fail;refine(cy ρ _ _ false d2.at_ ⟨#[110,117,108,108]⟩ (show(cw.good (tk.w::r)).head (⟨#[110,117,108,108]⟩:u_).data.toList=false from H3.ae)).mono ?_;rintro e w3 ⟨rfl,d3⟩;go_wp2_with fail;refine(cy ρ _ _ false d3.at_ ⟨#[40]⟩ (show(cw.good (tk.w::r)).head (⟨#[40]⟩:u_).data.toList=false from H4.ae)).mono ?_;open zdX in exact Zcb):=h
def zbA.Kag(h:p:=by open zh1 in exact ZgA):=h
def zaq.KG(h:p:=by
 have e1:(pl:Int)+1=(ρ.n:Int)-r.length:=by rw[hpl];simp only[cw.left,length_cons]at*;omega
 open zbA in exact ZaB):=h
def zii.Kco(h:p:=by clear jw;open zaq in exact Zaf):=h
theorem Nh{t:Wd}(jw:Ng t)(Bi:t.k=1)(Ui:uq t.s=false)(hc:dL eN r=false):mP (t::r) (vk ⟨t.s.toArray⟩) r:=by intro ρ w h;have ox:=aa Bi;have iT:=aa Ui;clear Bi Ui;have HC:=aa hc;clear hc;open zii in exact Zhh
def anZ(ρ:dx)(x:Tr)(r:dI)(y:Ex)(w w':t_):Prop:=Tr.at_ w' (jM w.heap.size w') x y/\eQ ρ w w' (.good r) false
theorem mQ{s:xb}{t:Wd}(ht:ju s t=true)(ρ:dx)(w:t_)(h:ρ.at w (.good (t::r)) false)(b:Nat)(hb:aB w b 9 (bL [s]))(hbg:ρ.g≠b):
  ar 138 #[ρ.ptr,aL b 1 1] w (Dj ρ w (.good r) false):=by have:=WS ρ w (.good (t::r)) false h [s] b 1 rfl hb hbg WC;rw[Di,sJ (show(cw.good (t::r)).head s=true from ht)]at this;exact this
theorem Ni{t:Wd}(hk:t.k=2)(ρ:dx)(w:t_)(h:ρ.at w (.good (t::r)) false):
  ar 181 #[ρ.ptr] w λ e w'=>∃x:Int,x=t.n/\0<=x/\x<=9223372036854775807/\e=.returned (af x)/\eQ ρ w w' (.good r) false:=by refine(WR ρ w _ false h).mono ?_;rintro e w' ⟨x,hx0,hx1,rfl,d,hg⟩;simp only[kY,JV,hk,if_true]at hg;simp only[dv,JV,hk,if_true]at d;exact⟨x,hg,hx0,hx1,rfl,d⟩
variable{ob cb:Wd}{x:Tr}
def zbh.Kad(h:p:=by have HP:=eB M8.ae ⟨o,vp,⟨#[]⟩,0,A,1,c⟩;have HR:=dw HP;unfold dY vp at HR;obtain⟨r0,r1,r2,r3,r4,r5,r6⟩:=HR;refine bodyPost_ret (v:=nt ⟨o,vp,⟨#[]⟩,0,A,1,c⟩) Zc1 rfl ?_;refine Pq.put (t:=BQ o [x]) ei aE DC.ae ?_;unfold BQ Tr.at_;exact Zdy):=h
def zbH.Kai(h:p:=by obtain⟨n22,n20,n27,n28⟩:=HC.ae;clear HC;go_wp2_with fail;have HX0:=aB.new vy 46 #[ag o,ag 0,af 0,au,au,af 0,az];have L9:=ah vy (.cells #[ag o,ag 0,af 0,au,au,af 0,az] 46);have qu:=aa (Nl.ae.later L9);have vz:=aa (zw.ae.later L9);have agw:(vy.alloc (.cells #[ag o,ag 0,af 0,au,au,af 0,az] 46)).heap.size=vy.heap.size+1:=Tad;have HX:=aa HX0;clear HX0 L9 Nl zw c4;generalize vy.alloc _=Rk at*;generalize vy.heap.size=qx at*;open zbh in exact Zav):=h
def zhk.KbZ(h:p:=by
 cases he:(n.data.toList==y);exact ZbP
 open zbH in exact ZaD):=h
def zbE.Kah(h:p:=by
 go_loopw [8] (λ u wr=>∃k:Nat,k<=8/\u=af k/\ai W8 wr/\mL n=(QK.drop k).lookup n.data.toList) (λ u _=>8-(intOf u).toNat);case atStart=>exact Zg7
 case round=>
  obtain⟨k,hi,rfl,hP,hlk⟩:=hrel;have Fp:=aa hlk;have iJ:=aa hP;clear hlk hP;by_cases hlt:k<8
  ·open zhk in exact Zft
  exact Zd0):=h
def zdY.KaM(h:p:=by rw[show(cw.good (ob::l)).head (⟨#[40]⟩:u_).data.toList=true from Nj.ae]at hwd;open zbE in exact ZaC):=h
def zbB.Kag(h:p:=by refine(cy ρ _ _ false HF.ae ⟨#[116,114,117,101]⟩ (show(cw.good (tk.w::ob::l)).head (⟨#[116,114,117,101]⟩:u_).data.toList=false from H1.ae)).mono ?_;rintro e w1 ⟨rfl,d1⟩;go_wp2_with fail;refine(cy ρ _ _ false d1.at_ ⟨#[102,97,108,115,101]⟩ (show(cw.good (tk.w::ob::l)).head (⟨#[102,97,108,115,101]⟩:u_).data.toList=false from H2.ae)).mono ?_;rintro e w2 ⟨rfl,d2⟩;go_wp2_with fail;refine(cy ρ _ _ false d2.at_ ⟨#[110,117,108,108]⟩ (show(cw.good (tk.w::ob::l)).head (⟨#[110,117,108,108]⟩:u_).data.toList=false from H3.ae)).mono ?_;rintro e w3 ⟨rfl,d3⟩;go_wp2_with fail;refine(cy ρ _ _ false d3.at_ ⟨#[40]⟩ (show(cw.good (tk.w::ob::l)).head (⟨#[40]⟩:u_).data.toList=false from H4.ae)).mono ?_;open zdY in exact Zcb):=h
def zar.KG(h:p:=by
 have e1:(pl:Int)+1=(ρ.n:Int)-(ob::l).length:=by rw[hpl];simp only[cw.left,length_cons]at*;omega
 open zbB in exact ZaB):=h
def zij.Kco(h:p:=by clear jw;open zar in exact Zaf):=h
theorem L8{t:Wd}(OP:Int)(hc:(OP==22)=false/\(OP==20)=false/\(OP==27)=false/\(OP==28)=false)(jw:Ng t)(Bi:t.k=1)(Ui:uq t.s=false)(qT:ju eN ob=true)(hfn:mL ⟨t.s.toArray⟩=some OP)(H:cZ 0 l x (cb::r))(hcb:ju eJ cb=true):mP (t::ob::l) (BQ OP [x]) r:=by intro ρ w h;have ox:=aa Bi;have iT:=aa Ui;have Nj:=aa qT;have HFN:=aa hfn;have HH:=aa H;have HCB:=aa hcb;clear Bi Ui qT hfn H hcb;have HC:=aa hc;clear hc;open zij in exact Zhh
variable{sr:Wd}
def zhU.Kcd(h:p:=by have YQ:=vz.ae.lt;go_wp2_with fail;have Ty:=qu.ae.at_.later (ah _ (.cells (bL [eJ]) 9));refine(mQ HO.ae ρ _ Ty LG.heap.size (aB.new _ _ _) WC).mono ?_;rintro e w12 ⟨rfl,d12⟩;have Rj:=ah LG (.cells (bL [eJ]) 9);have Uu:=(vz.ae.later Rj).grown d12.grown Tac;have kt:=aa Uu;obtain⟨z0,z1,z2,z3,z4,z5,z6⟩:=eA Uu;obtain⟨y0,y1,y2,y3,y4,y5,y6⟩:=bR Uu;have DC:=aa ((qu.ae.later Rj).trans d12);clear Uu d12 Rj;go_wp2_with fail;have HP:=eB kt.ae ⟨21,vp,⟨#[]⟩,0,none,0,0⟩;have HR:=dw HP;unfold dY vp at HR;obtain⟨r0,r1,r2,r3,r4,r5,r6⟩:=HR;refine bodyPost_ret (v:=nt ⟨21,vp,⟨#[]⟩,0,none,0,0⟩) Zc1 rfl ?_;exact Pq.put (t:=BQ 21 []) ei aE DC.ae (aiA _ _ 21)):=h
def zbI.Kai(h:p:=by obtain rfl:=HK.ae;clear HK;go_wp2_with fail;have HX0:=aB.new vy 46 #[ag 22,ag 0,af 0,au,au,af 0,az];have L9:=ah vy (.cells #[ag 22,ag 0,af 0,au,au,af 0,az] 46);have qu:=aa (Nl.ae.later L9);have vz:=aa (zw.ae.later L9);have agw:(vy.alloc (.cells #[ag 22,ag 0,af 0,au,au,af 0,az] 46)).heap.size=vy.heap.size+1:=Tad;have HX:=aa HX0;clear HX0 L9 Nl zw c4;generalize vy.alloc _=Rk at*;generalize vy.heap.size=qx at*;refine(oZ ρ _ _ false qu.ae.at_ ⟨#[42]⟩ HS.ae).mono ?_;rintro e LG ⟨rfl,d13⟩;open zhU in exact Zgk):=h
def zhl.KbZ(h:p:=by
 cases he:(n.data.toList==y);exact ZbP
 open zbI in exact ZaD):=h
def zbF.Kah(h:p:=by
 go_loopw [8] (λ u wr=>∃k:Nat,k<=8/\u=af k/\ai W8 wr/\mL n=(QK.drop k).lookup n.data.toList) (λ u _=>8-(intOf u).toNat);case atStart=>exact Zg7
 case round=>
  obtain⟨k,hi,rfl,hP,hlk⟩:=hrel;have Fp:=aa hlk;have iJ:=aa hP;clear hlk hP;by_cases hlt:k<8
  ·open zhl in exact Zft
  exact Zd0):=h
def zdZ.KaM(h:p:=by rw[show(cw.good (ob::sr::cb::r)).head (⟨#[40]⟩:u_).data.toList=true from Nj.ae]at hwd;open zbF in exact ZaC):=h
def zbC.Kag(h:p:=by refine(cy ρ _ _ false HF.ae ⟨#[116,114,117,101]⟩ (show(cw.good (tk.w::ob::sr::cb::r)).head (⟨#[116,114,117,101]⟩:u_).data.toList=false from H1.ae)).mono ?_;rintro e w1 ⟨rfl,d1⟩;go_wp2_with fail;refine(cy ρ _ _ false d1.at_ ⟨#[102,97,108,115,101]⟩ (show(cw.good (tk.w::ob::sr::cb::r)).head (⟨#[102,97,108,115,101]⟩:u_).data.toList=false from H2.ae)).mono ?_;rintro e w2 ⟨rfl,d2⟩;go_wp2_with fail;refine(cy ρ _ _ false d2.at_ ⟨#[110,117,108,108]⟩ (show(cw.good (tk.w::ob::sr::cb::r)).head (⟨#[110,117,108,108]⟩:u_).data.toList=false from H3.ae)).mono ?_;rintro e w3 ⟨rfl,d3⟩;go_wp2_with fail;refine(cy ρ _ _ false d3.at_ ⟨#[40]⟩ (show(cw.good (tk.w::ob::sr::cb::r)).head (⟨#[40]⟩:u_).data.toList=false from H4.ae)).mono ?_;open zdZ in exact Zcb):=h
def zas.KG(h:p:=by
 have e1:(pl:Int)+1=(ρ.n:Int)-(ob::sr::cb::r).length:=by rw[hpl];simp only[cw.left,length_cons]at*;omega
 open zbC in exact ZaB):=h
def zil.Kco(h:p:=by clear jw;open zas in exact Zaf):=h
def zhD.Kb7(h:p:=by clear Bi Ui qT hfn hw hz hS;open zil in exact Zhh):=h
theorem WV{t:Wd}(OP:Int)(hz:OP=22)(jw:Ng t)(Bi:t.k=1)(Ui:uq t.s=false)(qT:ju eN ob=true)(hfn:mL ⟨t.s.toArray⟩=some OP)(hS:ju ze sr=true)(hw:ju eJ cb=true):mP (t::ob::sr::cb::r) (BQ 21 []) r:=by intro ρ w h;open zhD in exact Zf2
variable{nb cm:Wd}
def zbi.Kad(h:p:=by have HP:=eB M8.ae ⟨20,vp,⟨#[]⟩,kk,A,1,c⟩;have HR:=dw HP;unfold dY vp at HR;obtain⟨r0,r1,r2,r3,r4,r5,r6⟩:=HR;refine bodyPost_ret (v:=nt ⟨20,vp,⟨#[]⟩,kk,A,1,c⟩) Zc1 rfl ?_;rw[<-HKN.ae];refine Pq.put (t:=.mk 20 kr ByteArray.empty kk [x]) ei aE DC.ae ?_;unfold Tr.at_;exact Zdy):=h
def zhV.Kcd(h:p:=by
 have auS:=HX.ae.frozen 5;obtain⟨x0,x1,x2,x3,x4,x5,x6⟩:=bR HX.ae;have azd:=HX.ae.lt;have HXk:=HX.ae.aW 5 (af kk);simp only[Uac]at HXk;have HQk:=vz.ae.far (p:=⟨qx,5,none⟩) Tac (af kk);have DK:=qu.ae.far ei (show w.heap.size<=qx by omega) 5 (af kk);have lz:=aa HXk;have Ao:=aa HQk;have LH:=aa DK;clear HX vz qu HXk HQk DK;go_wp2_with fail;clear x0 x1 x2 x3 x4 x5 x6 auS;have Lz:aB ((LG.setCell ⟨qx,5,none⟩ (af kk)).alloc (.cells (bL [dO]) 9)) LG.heap.size 9 (bL [dO]):=by have:=aB.new (LG.setCell ⟨qx,5,none⟩ (af kk)) 9 (bL [dO]);rwa [show(LG.setCell ⟨qx,5,none⟩ (af kk)).heap.size=LG.heap.size by simp[World.setCell]]at this
 have Ty:=LH.ae.at_.later (ah _ (.cells (bL [dO]) 9));refine(mQ HCM.ae ρ _ Ty LG.heap.size Lz WC).mono ?_;rintro e Rk ⟨rfl,d14⟩;have bcm:=ah (LG.setCell ⟨qx,5,none⟩ (af kk)) (.cells (bL [dO]) 9);have HX:=aa ((lz.ae.later bcm).grown d14.grown Tac);have vz:=aa ((Ao.ae.later bcm).grown d14.grown Tac);have qu:=aa ((LH.ae.later bcm).trans d14);have aon:qx+1<=Rk.heap.size:=HX.ae.lt;clear lz Ao LH d14 bcm Ty Lz;go_wp2_with fail;open zbi in exact Zav):=h
def zbJ.Kai(h:p:=by obtain rfl:=HK.ae;clear HK;go_wp2_with fail;have HX0:=aB.new vy 46 #[ag 20,ag 0,af 0,au,au,af 0,az];have L9:=ah vy (.cells #[ag 20,ag 0,af 0,au,au,af 0,az] 46);have qu:=aa (Nl.ae.later L9);have vz:=aa (zw.ae.later L9);have agw:(vy.alloc (.cells #[ag 20,ag 0,af 0,au,au,af 0,az] 46)).heap.size=vy.heap.size+1:=Tad;have HX:=aa HX0;clear HX0 L9 Nl zw c4;generalize vy.alloc _=W11 at*;generalize vy.heap.size=qx at*;refine(Ni Kh.ae ρ _ qu.ae.at_).mono ?_;rintro e LG ⟨kk,AV,YK,Bi,rfl,d13⟩;have HKN:=aa AV;clear AV;open zhV in exact Zgk):=h
def zhm.KbZ(h:p:=by
 cases he:(n.data.toList==y);exact ZbP
 open zbJ in exact ZaD):=h
def zbG.Kah(h:p:=by
 go_loopw [8] (λ u wr=>∃k:Nat,k<=8/\u=af k/\ai W8 wr/\mL n=(QK.drop k).lookup n.data.toList) (λ u _=>8-(intOf u).toNat);case atStart=>exact Zg7
 case round=>
  obtain⟨k,hi,rfl,hP,hlk⟩:=hrel;have Fp:=aa hlk;have iJ:=aa hP;clear hlk hP;by_cases hlt:k<8
  ·open zhm in exact Zft
  exact Zd0):=h
def zd0.KaM(h:p:=by rw[show(cw.good (ob::nb::cm::l)).head (⟨#[40]⟩:u_).data.toList=true from Nj.ae]at hwd;open zbG in exact ZaC):=h
def zbD.Kag(h:p:=by refine(cy ρ _ _ false HF.ae ⟨#[116,114,117,101]⟩ (show(cw.good (tk.w::ob::nb::cm::l)).head (⟨#[116,114,117,101]⟩:u_).data.toList=false from H1.ae)).mono ?_;rintro e w1 ⟨rfl,d1⟩;go_wp2_with fail;refine(cy ρ _ _ false d1.at_ ⟨#[102,97,108,115,101]⟩ (show(cw.good (tk.w::ob::nb::cm::l)).head (⟨#[102,97,108,115,101]⟩:u_).data.toList=false from H2.ae)).mono ?_;rintro e w2 ⟨rfl,d2⟩;go_wp2_with fail;refine(cy ρ _ _ false d2.at_ ⟨#[110,117,108,108]⟩ (show(cw.good (tk.w::ob::nb::cm::l)).head (⟨#[110,117,108,108]⟩:u_).data.toList=false from H3.ae)).mono ?_;rintro e w3 ⟨rfl,d3⟩;go_wp2_with fail;refine(cy ρ _ _ false d3.at_ ⟨#[40]⟩ (show(cw.good (tk.w::ob::nb::cm::l)).head (⟨#[40]⟩:u_).data.toList=false from H4.ae)).mono ?_;open zd0 in exact Zcb):=h
def zat.KG(h:p:=by
 have e1:(pl:Int)+1=(ρ.n:Int)-(ob::nb::cm::l).length:=by rw[hpl];simp only[cw.left,length_cons]at*;omega
 open zbD in exact ZaB):=h
def zik.Kco(h:p:=by clear jw;open zat in exact Zaf):=h
theorem Nn{t:Wd}(OP:Int)(hop:OP=20)(jw:Ng t)(Bi:t.k=1)(Ui:uq t.s=false)(qT:ju eN ob=true)(hfn:mL ⟨t.s.toArray⟩=some OP)(hk2:nb.k=2)(hcm:ju dO cm=true)(H:cZ 0 l x (cb::r))(hcb:ju eJ cb=true):mP (t::ob::nb::cm::l) (.mk 20 kr ByteArray.empty nb.n [x]) r:=by intro ρ w h;have ox:=aa Bi;have iT:=aa Ui;have Nj:=aa qT;have HFN:=aa hfn;have HH:=aa H;have HCB:=aa hcb;have HK:=aa hop;have Kh:=aa hk2;have HCM:=aa hcm;clear Bi Ui qT hfn H hcb hop hk2 hcm;open zik in exact Zhh
structure AtC (ρ:dx) (w:t_) (q qx:Nat) (wr:t_) (l:dI) (t:Tr) (y:Ex):Prop where
 did:eQ ρ w wr (.good l) false
 blk:aB wr qx 46 (bH y).toArray
 res:aB wr q 46 #[ag 0,ag 0,af 0,au,au,af 0,az]
 tr:t.at_ wr (Bx (q+1) qx wr) y
variable{wr W2:t_}{qx:Nat}
theorem AtC.more(A:AtC ρ w q qx wr l t y)(d:eQ ρ wr W2 (.good l) false)(h1:ρ.g<q)(h2:q+1<=qx):AtC ρ w q qx W2 l t y:=
 ⟨A.did.trans d,d.blk A.blk WC,d.blk A.res WC,Tr.at_.keep (xy d.grown WC) _ _ A.tr⟩
structure AtD (ρ:dx) (w:t_) (q qx:Nat) (W:t_) (r:dI) (t:Tr) (y:Ex):Prop where
 did:eQ ρ w W (.good r) false
 blk:aB W qx 46 (bH y).toArray
 res:aB W q 46 #[ag 0,ag 0,af 0,au,au,af 0,az]
 tr:t.at_ W (jM (q+1) W) y
variable{Ws w3:t_}{t' t2:Tr}{y' v2:Ex}{l0:dI}{bi:Int}
theorem AtC.round(ei:ρ.g<w.heap.size)(YQ:q=w.heap.size)(hqq:q+1<=qx)(A:AtC ρ w q qx wr l0 t' y')(hW:ai wr W2)(hst:eQ ρ W2 Ws (.good l) false)(d2:eQ ρ Ws w3 (.good r) false)
  (ht2:t2.at_ w3 (jM Ws.heap.size w3) v2):
  AtD ρ w q qx (dY ((w3.alloc (vu v2)).alloc (Bl y' v2)) qx (opY bi (w3.heap.size+1) 2)) r (BQ bi [t',t2]) (opY bi (w3.heap.size+1) 2):=by
 have hz1:=d2.size;have hz2:=hst.size;have hz3:=hW.size;have hqb:=A.blk.lt;have b12:ai w3 ((w3.alloc (vu v2)).alloc (Bl y' v2)):=aj.then (ah w3 _) (ah _ _);have hsz:((w3.alloc (vu v2)).alloc (Bl y' v2)).heap.size=w3.heap.size+2:=Tad;have hN:aB ((w3.alloc (vu v2)).alloc (Bl y' v2)) (w3.heap.size+1) 46 (bH y'++bH v2).toArray:=by have:=aB.new (w3.alloc (vu v2)) 46 (bH y'++bH v2).toArray;rw[World.size_alloc]at this;exact this
 have hX:aB ((w3.alloc (vu v2)).alloc (Bl y' v2)) qx 46 (bH y').toArray:=(((A.blk.later hW).grown hst.grown Tac).grown d2.grown Tac).later b12;have hR:aB ((w3.alloc (vu v2)).alloc (Bl y' v2)) q 46 _:=(((A.res.later hW).grown hst.grown Tac).grown d2.grown Tac).later b12;have hD:eQ ρ w ((w3.alloc (vu v2)).alloc (Bl y' v2)) (.good r) false:=(((A.did.later hW).trans hst).trans d2).later b12;have hT:(BQ bi [t',t2]).at_ ((w3.alloc (vu v2)).alloc (Bl y' v2)) (Bx (q+1) qx ((w3.alloc (vu v2)).alloc (Bl y' v2))) (opY bi (w3.heap.size+1) 2):=by refine aiz bi hN ⟨by omega,by omega,by omega⟩ ?_ ?_;exact Tr.at_.keep (Da b12) _ _ (Tr.at_.keep (xy d2.grown WC) _ _ (Tr.at_.keep (xy hst.grown WC) _ _ (Tr.at_.keep (Da hW) _ _ A.tr)));exact Tr.at_.keep (anG WC WC) _ _ (ht2.later b12)
 generalize (w3.alloc (vu v2)).alloc (Bl y' v2)=W5 at*;refine⟨hD.dY ei WC _,eB hX _,WT hR WC _,?_⟩;exact Tr.at_.keep (QM aE) _ _ (Tr.at_.keep (agr (S:=λ w=>Bx (q+1) qx w) (λ w i u=>H7 i u) _) _ _ hT)
def zis.Kcr(h:p:=by refine bodyPost_ret (v:=nt y) ZeL rfl ?_;exact Pq.put ei aE (HA.ae.did.later hL) (Tr.at_.keep (QM aE) _ _ (Tr.at_.keep (Da hL) _ _ HA.ae.tr))):=h
def zb6.Kam(h:p:=by have Uu:=HA.ae.res.later hL;have Rg:=HA.ae.blk.later hL;have hqb:=Uu.lt;obtain⟨z0,z1,z2,z3,z4,z5,z6⟩:=eA Uu;obtain⟨y0,y1,y2,y3,y4,y5,y6⟩:=bR Uu;obtain⟨x0,x1,x2,x3,x4,x5,x6⟩:=dw Rg;have kt:=aa Uu;open zis in exact Zhn):=h
def zfE.Kbm(h:p:=by
 have e1:(ρ.n:Int)-(cw.good (tk.w::r)).left+1=(ρ.n:Int)-r.length:=by simp only[cw.left,length_cons];omega
 have Np:=aa e1;have auW:=HA.ae.did.at_.left;clear hpl hg cq vt hp hr2 e1;open zb6 in exact ZaH):=h
def zcF.Kau(h:p:=by
 go_loopg [] 0 (λ k wr=>wr=w1);case atStart=>rfl
 case round=>
  open zfE in exact ZdW):=h
theorem aoq(vZ:dL adj (u::r)=false)(hop:lH 3 u=0)(H:cZ 4 l t (u::r)):cZ 3 l t (u::r):=by open zcF in exact Zbe
variable{l2:dI}
def zb7.Kam(h:p:=by
 obtain⟨ho1,ho2⟩:=ho;have e0:(o==0)=false:=by rw[beq_eq_false_iff_ne];omega
 have oL:=HA.ae.did.at_.later hL;obtain⟨q0,q1,q2,q3,f1,f2,f3⟩:=oL.facts;have e1:=Np.ae;have hst:=dx.at.step oL YK;have rB:l2.length+1<=ρ.n:=by have:=oL.left;have e2:(cw.good (tk.w::l2)).left=l2.length+1:=rfl;omega
 clear oL q0 q2 q3 f2 f3;go_upto_region 23 with (first
  |(go_at_call 184;refine(H2 ρ _ hst.at_).mono ?_;rintro e w3 ⟨v2,rfl,ht2,d2⟩;unfold nt bH;have F:=AtC.round (bi:=o) ei rfl hqx HA.ae hL hst d2 ht2;have hz1:=d2.size;have hz2:=hst.size;have hz3:=hL.size;have B0:=((HA.ae.blk.later hL).grown hst.grown Tac).grown d2.grown Tac;have B1:=B0.alloc (.cells #[ag v2.op,ag v2.v.k,af v2.v.n,.string v2.v.s,.string v2.name,af v2.width,.slice v2.A v2.n v2.c] 46);have B2:=B1.alloc (.cells #[ag y.op,ag y.v.k,af y.v.n,.string y.v.s,.string y.name,af y.width,.slice y.A y.n y.c,ag v2.op,ag v2.v.k,af v2.v.n,.string v2.v.s,.string v2.name,af v2.width,.slice v2.A v2.n v2.c] 46);have N1:=aB.new w3 46 (bH v2).toArray;have X1:=dw B1;have X2:=dw B2;have X3:=eA B2;have X4:=dw N1;unfold bH at X4;obtain⟨x0,x1,x2,x3,x4,x5,x6⟩:=X1;obtain⟨y0,y1,y2,y3,y4,y5,y6⟩:=X2;obtain⟨z0,z1,z2,z3,z4,z5,z6⟩:=X3;obtain⟨a0,a1,a2,a3,a4,a5,a6⟩:=X4;have HF:=aa F;clear B0 B1 B2 N1 F))
 clear x0 x1 x2 x3 x4 x5 x6 y0 y1 y2 y3 y4 y5 y6 z0 z1 z2 z3 z4 z5 z6 a0 a1 a2 a3 a4 a5 a6;have F:=HF.ae;clear HF;show Code.wp _ _ _ _ (dY ((w3.alloc (vu v2)).alloc (Bl y v2)) qx (opY o (w3.heap.size+1) 2));generalize dY ((w3.alloc (vu v2)).alloc (Bl y v2)) qx (opY o (w3.heap.size+1) 2)=W9 at*;generalize opY o (w3.heap.size+1) 2=Y9 at*;obtain⟨x0,x1,x2,x3,x4,x5,x6⟩:=dw F.blk;obtain⟨z0,z1,z2,z3,z4,z5,z6⟩:=eA F.res;obtain⟨y0,y1,y2,y3,y4,y5,y6⟩:=bR F.res;have hqb:=F.res.lt;have HF:=aa F;clear F;go_wp2_with fail;have HP:=eB HF.ae.res Y9;have HR:=dw HP;unfold dY at HR;obtain⟨r0,r1,r2,r3,r4,r5,r6⟩:=HR;refine bodyPost_ret (v:=nt Y9) ZeL rfl ?_;exact Pq.put ei aE HF.ae.did HF.ae.tr):=h
def zfF.Kbm(h:p:=by
 have e1:(ρ.n:Int)-(cw.good (tk.w::l2)).left+1=(ρ.n:Int)-l2.length:=by simp only[cw.left,length_cons];omega
 have Np:=aa e1;have auW:=HA.ae.did.at_.left;clear hpl hg cq vt hp hr2 e1;open zb7 in exact ZaH):=h
def zcG.Kau(h:p:=by
 go_loopg [] 0 (λ k wr=>wr=w1);case atStart=>rfl
 case round=>
  open zfF in exact ZdW):=h
theorem auX(o:Int)(ho:5<=o/\o<=17)(YK:u.k≠0)(vZ:dL adj (u::l2)=false)(hop:lH 3 u=o)(H:cZ 4 l t (u::l2))(H2:cZ 4 l2 t2 r):cZ 3 l (BQ o [t,t2]) r:=by open zcG in exact Zbe
structure Hn (u:Wd):Prop where
 b0:lH 0 u=0
 b1:lH 1 u=0
 b4:lH 4 u=0
 b5:lH 5 u=0
 is_:ju adj u=false
structure zx (l:dI):Prop where
 no:dL G1 l=false
 mi:dL tO l=false
theorem M9(h:mP l t (u::r))(hb:zx l)(hu:Hn u):cZ 4 l t (u::r):=
 tV 4 (.inr (.inr (.inl rfl))) hu.b4 (tV 5 (.inr (.inr (.inr rfl))) hu.b5 (anW hb.mi (anX h)))
theorem up3(h:cZ 3 l t (u::r))(hb:zx l)(hu:Hn u):cZ 0 l t (u::r):=
 tV 0 (.inl rfl) hu.b0 (tV 1 (.inr (.inl rfl)) hu.b1 (anV hb.no h))
theorem Nq(h:mP l t (u::r))(hb:zx l)(hu:Hn u)(h3:lH 3 u=0):cZ 0 l t (u::r):=
 up3 (aoq hu.is_ h3 (M9 h hb hu)) hb hu
theorem aor{c:Wd}(o:Int)(ho:5<=o/\o<=17)(YK:c.k≠0)(hc:Hn c)(hop:lH 3 c=o)(h:mP l t (c::l2))(hb:zx l)(h2:mP l2 t2 (u::r))(hb2:zx l2)(hu:Hn u):cZ 0 l (BQ o [t,t2]) (u::r):=
 up3 (auX o ho YK hc.is_ hop (M9 h hb hc) (M9 h2 hb2 hu)) hb hu
section
variable{s:xb}{σ:cw}{x:Tr}
end
section
variable{α:Type}{el:Ps α}{σ Al:cw}{acc:List α}{x:α}
end
def oG(y:Sl):Value:=.slice y.A y.n y.c
def _root_.Go.Proofs.YtndgjggokjickaaGreatDoor.Sl.nil:Sl:=⟨none,0,0⟩
def El.sl(E:El α)(w:t_)(S:Nat->Prop)(y:Sl)(l:List α):Prop:=E.lies w S y.A y.n l
theorem El.vA(E:El α)(w:t_)(S:Nat->Prop):E.sl w S Sl.nil []:=E.G9 w S
variable{E:El α}{S':Nat->Prop}
theorem El.sl.keep{y:Sl}{l:List α}(h:E.sl w S y l)(hk:∀b,S b->(∀o,w'.cell? ⟨b,o,none⟩=w.cell? ⟨b,o,none⟩)/\S' b):E.sl w' S' y l:=El.lies.keep h hk
structure zy where
 items:Sl:=.nil
 bU:u_:=ByteArray.empty
 only:Bool:=false
 bQ:Sl:=.nil
 group:Sl:=.nil
 having:Sl:=.nil
 order:Sl:=.nil
 dA:Sl:=.nil
def Nr(y:zy):xr:=[oG y.items,.string y.bU,.bool y.only,oG y.bQ,oG y.group,oG y.having,oG y.order,oG y.dA]
def quV(y:zy):Value:=.agg (Nr y).toArray
structure Qu.at_ (w:t_) (S:Nat->Prop) (q:Qu) (y:zy):Prop where
 items:sG.sl w S y.items q.items
 bU:y.bU=q.bU
 only:y.only=q.only
 bQ:JW.sl w S y.bQ q.bQ
 group:JW.sl w S y.group q.group
 having:JW.sl w S y.having q.having
 order:tP.sl w S y.order q.order
 dA:TZ.sl w S y.dA q.dA
theorem Qu.at_.keep{q:Qu}{y:zy}(hk:∀b,S b->(∀o,w'.cell? ⟨b,o,none⟩=w.cell? ⟨b,o,none⟩)/\S' b)(h:q.at_ w S y):q.at_ w' S' y:=
 ⟨h.items.keep hk,h.bU,h.only,h.bQ.keep hk,h.group.keep hk,h.having.keep hk,h.order.keep hk,h.dA.keep hk⟩
theorem Qu.N0(w:t_)(S:Nat->Prop):Qu.at_ w S {} {}:=⟨sG.vA _ _,rfl,rfl,JW.vA _ _,JW.vA _ _,JW.vA _ _,tP.vA _ _,TZ.vA _ _⟩
structure N3 where
 kind:Int:=0
 name:u_:=ByteArray.empty
 cols:Sl:=.nil
 time:u_:=ByteArray.empty
 every:Int:=0
 space:u_:=ByteArray.empty
 parts:Int:=0
 query:zy:= {}
 what:Int:=0
 of_:u_:=ByteArray.empty
 a:Int:=0
 b:Int:=0
 rows:Sl:=.nil
 aix:Sl:=.nil
 bQ:Sl:=.nil
 bU:Val:=kr
 eP:Val:=kr
def N6(v:Val):xr:=[ag v.k,af v.n,.string v.s]
def tX(y:N3):xr:=[ag y.kind,.string y.name,oG y.cols,.string y.time,af y.every,.string y.space,af y.parts]++Nr y.query++[ag y.what,.string y.of_,af y.a,af y.b,oG y.rows,oG y.aix,oG y.bQ]++N6 y.bU++N6 y.eP
def stV(y:N3):Value:=.agg (tX y).toArray
variable{G:Nat}
theorem N7(h:aB w G 46 (bH y).toArray)(hS:S G)(hx:x.at_ w S y):JW.sl w S ⟨some ⟨G,0,none⟩,1,1⟩ [x]:=
 ⟨rfl,[y],QO (f:=bH) vo (by show aB w G _ (bH y++[]).toArray;rw[append_nil];exact h) hS,.one hx⟩
def Uv(y:Ex×u_):xr:=bH y.1++[.string y.2]
def itV(y:Ex×u_):Value:=.agg (Uv y).toArray
theorem dB{a b c g i:Value}(h:aB w q T #[a,b,c,d,e,f,g,i]):
  w.cell? ⟨q,0,none⟩=some a/\w.cell? ⟨q,1,none⟩=some b/\w.cell? ⟨q,2,none⟩=some c/\w.cell? ⟨q,3,none⟩=some d/\w.cell? ⟨q,4,none⟩=some e/\w.cell? ⟨q,5,none⟩=some f/\w.cell? ⟨q,6,none⟩=some g/\w.cell? ⟨q,7,none⟩=some i:=
 ⟨h.cell 0,h.cell 1,h.cell 2,h.cell 3,h.cell 4,h.cell 5,h.cell 6,h.cell 7⟩
theorem mg(h:aB w q T cs):
  w.frozen? ⟨q,0,none⟩=false/\w.frozen? ⟨q,1,none⟩=false/\w.frozen? ⟨q,2,none⟩=false/\w.frozen? ⟨q,3,none⟩=false/\w.frozen? ⟨q,4,none⟩=false/\w.frozen? ⟨q,5,none⟩=false/\w.frozen? ⟨q,6,none⟩=false/\w.frozen? ⟨q,7,none⟩=false:=
 ⟨h.frozen 0,h.frozen 1,h.frozen 2,h.frozen 3,h.frozen 4,h.frozen 5,h.frozen 6,h.frozen 7⟩
def xH(w:t_)(q:Nat)(y:Ex)(v:Value):t_:=(dY w q y).setCell ⟨q,7,none⟩ v
theorem eQ.xH(h:eQ ρ W w σ big)(hW:ρ.g<W.heap.size)(hq:W.heap.size<=q)(y:Ex)(v:Value):eQ ρ W (xH w q y v) σ big:=(h.dY hW hq y).far hW hq 7 v
theorem Tr.at_.xH(h:t.at_ w (jM B w) y)(hq:q<B)(z:Ex)(v:Value):t.at_ (xH w q z v) (jM B (Go.Proofs.YtndgjggokjickaaGreatDoor.R.xH w q z v)) y:=(h.dY hq z).set hq 7 v
theorem Ns{a b c g i:Value}(h:aB w q T #[a,b,c,d,e,f,g,i])(y:Ex)(v:Value):aB (xH w q y v) q T (bH y++[v]).toArray:=by have:=((((((((h.aW 0 (ag y.op)).aW 1 (ag y.v.k)).aW 2 (af y.v.n)).aW 3 (.string y.v.s)).aW 4 (.string y.name)).aW 5 (af y.width)).aW 6 (.slice y.A y.n y.c)).aW 7 v);exact Zea
def itZ:Obj:=.cells #[ag 0,ag 0,af 0,au,au,af 0,az,au] 48
def lI:List Nat->Nat
 |[]=>0
 |a::l=>max a (lI l)
theorem Ap:∀(l:List Nat) (a:Nat),lI (l++[a])=max (lI l) a
 |[],a=>by simp[lI]
 |b::l,a=>by simp only[cons_append,lI,Ap l a];omega
theorem WW{l:List Nat}{i d:Nat}(h:l[i]?=some d):lI (l.take (i+1))=max (lI (l.take i)) d:=by rw[take_add_one,h];exact Ap _ _
theorem Nt:∀{l:List Nat}{d:Nat},d∈l->d<=lI l
 |a::l,d,h=>by rcases List.mem_cons.1 h with rfl|h;simp only[lI];omega;have:=Nt h;simp only[lI];omega
theorem xI:∀(l:List Nat) (i:Nat),lI (l.take i)<=lI l
 |[],i=>by simp[lI]
 |a::l,0=>by simp[lI]
 |a::l,i+1=>by have:=xI l i;simp only[take_succ_cons,lI];omega
theorem Aq:∀ts:List Tr,Tr.iX ts=lI (ts.map Tr.depth)
 |[]=>by simp[Tr.iX,lI]
 |t::ts=>by simp[Tr.iX,lI,Aq ts]
def Uw(f:FuncId)(w:t_)(y:Ex)(d:Nat):Prop:=∀W,ai w W->ar f #[nt y] W λ e w'=>e=.returned (af d)/\ai W w'
theorem Nu(w:t_)(y:Ex)(ys:List Ex)(ds:List Nat)(S:Nat->Prop)(hS:∀b,S b->b<w.heap.size)(hn:y.n=ys.length)(hA:RL bH 7 w S y.A ys)(hd:ds.length=ys.length)(hD:∀(i:Nat) x d,ys[i]?=some x->ds[i]?=some d->Uw 89 w x d)(hm:lI ds<=1000000)(hl:ys.length<=1000000000):Uw 89 w y (lI ds+1):=by
 intro W Kx;obtain⟨Lx,yv,lR,ir,yA,yn,yc⟩:=y;have hn:yn=ys.length:=hn;subst hn;have HD:=aa hD;have HM:=aa hm;have HDL:=aa hd;have HA:=aa hA;clear hD hm hd hA;unfold nt bH;have HX:=aB.new W 46 #[ag Lx,ag yv.k,af yv.n,.string yv.s,.string lR,af ir,.slice yA ys.length yc];have hb:=ah W (.cells #[ag Lx,ag yv.k,af yv.n,.string yv.s,.string lR,af ir,.slice yA ys.length yc] 46);go_enter func89,ntmps89;go_wp2_with fail;generalize W.alloc _=W1 at*;have iJ:=aa hb;have HW:=aa Kx;clear hb;go_loopw [3,4] (λ m iv wr=>∃i:Nat,i<=ys.length/\iv=af i/\m=af (lI (ds.take i))/\ai W1 wr) (λ _ iv _=>ys.length-(intOf iv).toNat);case atStart=>exact Zg6
 case round=>
  obtain⟨i,hi,rfl,rfl,hW⟩:=hrel;have x6:=(HX.later hW).cell 6;simp only[Uaa]at x6;have FN:=xI ds i;have hmm:=HM.ae;by_cases hlt:i<ys.length
  ·obtain⟨x,hx⟩:∃x,ys[i]?=some x:=⟨_,getElem?_eq_getElem hlt⟩;obtain⟨d,hdd⟩:∃d,ds[i]?=some d:=⟨_,getElem?_eq_getElem (by rw[HDL.ae];exact hlt)⟩;have hDx:=HD.ae i x d hx hdd;have hdm:=Nt (mem_of_getElem? hdd);have HMT:=aa (WW hdd);have hwr:ai w wr:=Kx.trans ((aj.then iJ.ae hW).mono Kx.size);rcases HA.ae with h0|⟨b,off,hAe,hSb,hc⟩
   ·subst h0;simp at hlt
   have z:=λ j u hu=>(hwr.cell (p:=⟨b,off+i*7+j,none⟩) (hS b hSb)).trans (hc i x j u hx hu);have k0:=z 0 _ rfl;have k1:=z 1 _ rfl;have k2:=z 2 _ rfl;have k3:=z 3 _ rfl;have k4:=z 4 _ rfl;have k5:=z 5 _ rfl;have k6:=z 6 _ rfl;simp only[Nat.add_zero]at k0;clear hx hdd z hc;subst hAe;go_wp2_with fail;refine(hDx wr hwr).mono ?_;rintro e w' ⟨rfl,b'⟩;go_wp2_with fail;go_roundw;case rel=>refine⟨i+1,by omega,by go_num,?_,hW.trans (b'.mono hW.size)⟩;first|rw[HMT.ae,show(max ((lI (ds.take i):Nat):Int) (d:Int))=((max (lI (ds.take i)) d:Nat):Int) by omega] |(rw[HMT.ae];congr 1;split<;>omega)
   case measure=>exact Za2
  obtain rfl:i=ys.length:=by omega
  have mC:ds.take ys.length=ds:=take_of_length_le (Nat.le_of_eq HDL.ae);rw[mC]at FN;simp only[mC];go_wp2_with fail;go_ret;exact⟨nR WC,aj.then iJ.ae hW⟩
mutual
def Tr.thin:Tr->Prop
 |.mk op v name width args=>args.length<=1000000000/\Tr.Ar args
def Tr.Ar:List Tr->Prop
 |[]=>True
 |t::ts=>t.thin/\Tr.Ar ts
end
mutual
theorem Tr.aou{w:t_}{S:Nat->Prop}(hS:∀b,S b->b<w.heap.size):∀(t:Tr) (y:Ex),t.at_ w S y->t.thin->t.depth<=1000000->Uw 89 w y t.depth
 |.mk op v name width args,y,h,ht,hd=>by unfold Tr.at_ at h;obtain⟨_,_,_,_,hn,ys,hr,ha⟩:=h;unfold Tr.thin at ht;simp only[Tr.depth]at hd⊢;have hl:=Tr.aO.length ha;rw[Aq]at hd⊢;exact Nu w y ys (args.map Tr.depth) S hS (by rw[hn,hl]) hr (by simp[hl]) (Tr.agy hS args ys ha ht.2 WC) WC (by rw[hl];exact ht.1)
theorem Tr.agy{w:t_}{S:Nat->Prop}(hS:∀b,S b->b<w.heap.size):∀(ts:List Tr) (ys:List Ex),Tr.aO w S ts ys->Tr.Ar ts->lI (ts.map Tr.depth)<=1000000->∀(i:Nat) x d,ys[i]?=some x->(ts.map Tr.depth)[i]?=some d->Uw 89 w x d
 |[],ys,h,_,_,i,x,d,hx,hd=>by simp at hd
 |t::ts,ys,h,ht,hm,i,x,d,hx,hd=>by
   unfold Tr.aO at h;obtain⟨y,ys',rfl,h1,h2⟩:=h;unfold Tr.Ar at ht;simp only[map_cons,lI]at hm
   match i,hx,hd with
   |0,hx,hd=>simp at hx hd;subst hx hd;exact Tr.aou hS t y h1 ht.1 WC
   |i+1,hx,hd=>exact Tr.agy hS ts ys' h2 ht.2 WC i x d (by simpa using hx) (by simpa using hd)
end
theorem adF{s:u_}{l:List sB}(h:Bg s.data.toList=.ok l)(hs:s.size<=4294967280):
  ar 85 #[.string s] w λ e w'=>∃A c,e=.returned (.tuple #[.slice A l.length c,af 0,af 0])/\Nb w' w.heap.size (.slice A l.length c) l/\ai w w':=by refine(J9 s w hs).mono ?_;intro e w' hp;unfold xB at hp;rw[h]at hp;obtain⟨v,rfl,ho,hb⟩:=hp;obtain⟨A,c,rfl⟩:=ho.form;exact⟨A,c,rfl,ho,hb⟩
variable{P:Program}
def zdE.KaH(h:p:=by exact⟨v',w',hr,ho,ha,h4⟩):=h
theorem Bo{f:α->xr}{e:TypeId}{size:Nat}{lv:Value}{l:List α}{y:α}(t ty:TypeId)(z:Value)(bytes:Nat)(ht:P.underlying t=some (.slice e))(jQ:(P.info? e).map (λ i=>(i.zero,i.size,i.bytes))=some (some z,size,bytes))(hzs:z.cells.size=size)(hsz:0<size)
  (hf:∀x,(f x).length=size) (h1:∀u∈f y,u.oneCell'=true) (hown:aH f e size w base lv l)
  (g0:Nat) (hg0:aB w g0 e (f y).toArray) (hlen:(l.length+1)*bytes<=140737488355328) (nI:l.length+1<=140737488355328) (hbase:base<=w.heap.size):
  ∃v' w',(Builtin.append_ #[t,t] ty #[lv,aL g0 1 1]).run P w=.ok v' w'/\aH f e size w' base v' (l++[y])/\AR f e size base lv l y w w'/\(v'.ownBlock=lv.ownBlock\/v'.ownBlock=some w.heap.size):=by
 open zdE in exact ZbR
section
variable{P:Program}{β:Type}(f:β->xr) (val:β->Value) (e:TypeId) (size base:Nat) (l:List β) (lv:Value) (Post:β->t_->t_->Prop) (w0:t_)
def Ki:xr->t_->Prop
 |[],w=>aj w0 w
 |[a],w=>∃y w1 gU,a=val y/\aj w0 w1/\Post y w1 gU/\aj gU w
 |[a,s],w=>∃y w1 gU g0,a=val y/\s=aL g0 1 1/\aj w0 w1/\Post y w1 gU/\aj gU w/\aB w g0 e (f y).toArray
 |[a,s,v],w=>∃y w1 gU w2,a=val y/\aj w0 w1/\Post y w1 gU/\aj gU w2/\aH f e size w2 base lv l/\w2.grownBy w lv.ownBlock/\aH f e size w base v (l++[y])/\(v.ownBlock=lv.ownBlock\/v.ownBlock=some w2.heap.size)
 |_,_=>False
theorem Nv(vs:xr)(w:t_)(h:Ki f val e size base l lv Post w0 vs w):Ki f val e size base l lv Post w0 vs w.drew:=by
 match vs,h with
 |[],h=>exact aj.trans h (aj.drew _)
 |[a],⟨y,w1,gU,h1,h2,h3,h4⟩=>exact⟨y,w1,gU,h1,h2,h3,h4.trans (aj.drew _)⟩
 |[a,s],⟨y,w1,gU,g0,h1,h2,h3,h4,h5,h6⟩=>exact Ziz
 |[a,s,v],⟨y,w1,gU,w2,h1,h2,h3,h4,h5,h6,h7,h8⟩=>exact⟨y,w1,gU,w2,h1,h2,h3,h4,h5,⟨h6.os,h6.tape,h6.output,h6.size,h6.block⟩,h7.later (aj.drew _),h8⟩
 |_::_::_::_::_,h=>exact h.elim
variable{f val e size base l lv Post w0}
variable{Q:y_}{a0:Act}{id:Nat}{o0 o1 o2 o3 o4 o5 o6 o7:Oper}{q d0 d1 d2 d3 d4 d5 d6:Tmp}{qb k g:Nat}{pq ptr:Value}{F:FuncId}{args:x_}
def zcv.Kar(h:p:=by
 have Dp:∀vs w,Ki f val e size base l lv Post w0 vs w->w.cell? ⟨qb,k,none⟩=some lv:=by exact Zca
 refine pS [o7] [o0,o1,o2,o3,o4,o5,o6] rfl (λ i=>if i=0 then aY qb k else if i=1 then lv else if i=2 then ptr else aY qb k) [3,4,5] (Ki f val e size base l lv Post w0) (Nv f val e size base l lv Post w0) (aj.refl w0) hm bc hz hch Tab rfl ?_ ?_
 ·refine⟨ZdM,Zgu,ZdO,ZcU,Zcc,?_,ZdP,trivial⟩
  ·intro ρ w vs hc hG hr;rw[t5]at hr;have r0:=hr.1;have r1:=hr.2.1;simp only[s5]at r0;simp only[s5']at r1;refine⟨g5,?_⟩;show vs.length=2->_;intro hl
   match vs,hl with
   |[a,s],_=>have r1:some s=some (ρ (.tmp d4)):=r1;injection r1 with r1;obtain⟨y,w1,gU,gg,ha,hs,h2,h3,h4',h5⟩:=hG;obtain⟨k1,k2,k3⟩:=xE h2 h3 h4';obtain⟨v',w',hrun,ho,zT,h4⟩:=Bo (P:=P) (w:=w) t ty z bytes ht jQ hzs hsz hf (h1 y) k2 gg h5 hlen nI (fK hbase k3);exact aq (hap ρ w _ v' w' r0 (r1.symm.trans hs) hrun) ⟨y,w1,gU,w,ha,h2,h3,h4',k2,zT.grown,ho,h4⟩
 exact ZbK):=h
theorem Kj(t ty:TypeId)(z:Value)(bytes:Nat)
  (hm:P.follows .mixedOrders=true) (bc:dC [o0,o1,o2,o3,o4,o5,o6] a0.tmps.size [o0,o1,o2,o3,o4,o5,o6] 0=true) (hz:eD [o0,o1,o2,o3,o4,o5,o6,o7] [o7] 7=true) (hch:lZ [o0,o1,o2,o3,o4,o5,o6] [3,4,5]=true) (Dn:Dm o0 o1 o2 o3 o4 o5 o6 q d0 d1 d2 d3 d4 d5 d6=true)
  (hq:a0.eval (.tmp q)=pq) (h0:a0.eval (.tmp 0)=ptr)
  (hfa:∀ρ w,ρ (.tmp q)=pq->(execOp ρ o0).run P w=.ok (.value (aY qb k)) w) (L1:∀ρ w,ρ (.tmp q)=pq->(execOp ρ o6).run P w=.ok (.value (aY qb k)) w)
  (hld:∀ρ w,ρ (.tmp d0)=aY qb k->w.cell? ⟨qb,k,none⟩=some lv->(execOp ρ o1).run P w=.ok (.value lv) w)
  (FM:∀ρ w,ρ (.tmp 0)=ptr->(execOp ρ o2).run P w=.ok (.value ptr) w)
  (cj:∀ρ w,gD ρ->ρ (.tmp d2)=ptr->(execOp ρ o3).run P w=.ok (.enter F args) w)
  (Lz:∀ρ w y,ρ (.tmp d3)=val y->(execOp ρ o4).run P w=.ok (.value (aL w.heap.size 1 1)) (w.alloc (.cells (f y).toArray e)))
  (hap:∀ρ w s v' w',ρ (.tmp d1)=lv->ρ (.tmp d4)=s->(Builtin.append_ #[t,t] ty #[lv,s]).run P w=.ok v' w'->(execOp ρ o5).run P w=.ok (.value v') w')
  (ht:P.underlying t=some (.slice e)) (jQ:(P.info? e).map (λ i=>(i.zero,i.size,i.bytes))=some (some z,size,bytes)) (hzs:z.cells.size=size) (hsz:0<size) (hf:∀x,(f x).length=size) (h1:∀y,∀u∈f y,u.oneCell'=true)
  (hown:aH f e size w0 base lv l) (hcell:w0.cell? ⟨qb,k,none⟩=some lv) (Vx:qb≠g) (YP:lv.ownBlock≠some g) (hlq:lv.ownBlock≠some qb) (hlen:(l.length+1)*bytes<=140737488355328) (nI:l.length+1<=140737488355328) (hbase:base<=w0.heap.size)
  (mE:∀w,aj w0 w->Calls P F args w λ e w'=>∃y,e=.returned (val y)/\Post y w w') (Uo:∀y w w',Post y w w'->w.grownBy w' (some g))
  (mO:∀y s v' w1 gU w2 W,aj w0 w1->Post y w1 gU->aj gU w2->aH f e size w2 base lv l->w2.grownBy W lv.ownBlock->aH f e size W base v' (l++[y])->(v'.ownBlock=lv.ownBlock\/v'.ownBlock=some w2.heap.size)->W.cell? ⟨qb,k,none⟩=some lv->
    wpList P [o0,o1,o2,o3,o4,o5,o6,o7].toArray Q [o7] (((((((a0.put (some d0) (aY qb k)).put (some d1) lv).put (some d2) ptr).put (some d3) (val y)).put (some d4) s).put (some d5) v').put (some d6) (aY qb k)) W):
  (Code.region id [o0,o1,o2,o3,o4,o5,o6,o7].toArray true).wp P Q a0 w0:=by
 open zcv in exact ZaZ
end
def N8(y:Ex×Bool):xr:=bH y.1++[.bool y.2]
def orV(y:Ex×Bool):Value:=.agg (N8 y).toArray
def orZ:Obj:=.cells #[ag 0,ag 0,af 0,au,au,af 0,az,.bool false] 117
def zz(B:Nat)(v:Value)(w:t_):Nat->Prop:=λ b=>B<=b/\b<w.heap.size/\some b≠v.ownBlock
theorem qz{g:Nat}(h:w.grownBy w' (some g))(hg:g<B):∀b,zz B v w b->(∀o,w'.cell? ⟨b,o,none⟩=w.cell? ⟨b,o,none⟩)/\zz B v w' b:=λ b hb=>
 ⟨cell_of_heap (h.block b hb.2.1 (λ e=>by injection e with e;have:=hb.1;omega)),hb.1,eS hb.2.1 h.size,hb.2.2⟩
theorem qA(h:ai w w'):∀b,zz B v w b->(∀o,w'.cell? ⟨b,o,none⟩=w.cell? ⟨b,o,none⟩)/\zz B v w' b:=λ b hb=>
 ⟨cell_of_heap (h.block b hb.2.1),hb.1,eS hb.2.1 h.size,hb.2.2⟩
variable{v':Value}
theorem Du(h:w.grownBy w' v.ownBlock)(hv:v'.ownBlock=v.ownBlock\/v'.ownBlock=some w.heap.size):∀b,zz B v w b->(∀o,w'.cell? ⟨b,o,none⟩=w.cell? ⟨b,o,none⟩)/\zz B v' w' b:=λ b hb=>
 ⟨cell_of_heap (h.block b hb.2.1 hb.2.2),hb.1,eS hb.2.1 h.size,λ e=>by rcases hv with hv|hv;exact hb.2.2 (e.trans hv);rw[hv]at e;injection e with e;have:=hb.2.1;omega⟩
variable{B':Nat}
theorem N9(hB:B'<=B)(hv:∀g,v.ownBlock=some g->g<B):∀b,jM B w b->(∀o,w.cell? ⟨b,o,none⟩=w.cell? ⟨b,o,none⟩)/\zz B' v w b:=λ b hb=>
 ⟨λ _=>rfl,fK hB hb.1,hb.2,λ e=>by have:=hv b e.symm;have:=hb.1;omega⟩
theorem Nw(hB:B'<=B):∀b,zz B v w b->(∀o,w.cell? ⟨b,o,none⟩=w.cell? ⟨b,o,none⟩)/\jM B' w b:=λ b hb=>⟨λ _=>rfl,fK hB hb.1,hb.2.1⟩
structure ld {α:Type}(E:El α) (T:TypeId) (w:t_) (B:Nat) (v:Value) (l:List α):Prop where
 has:∃ys:List E.β,aH E.f T E.size w B v ys/\nA (E.rel w (zz B v w)) l ys
section
variable{α:Type}{E:El α}{T:TypeId}{w w':t_}{B g:Nat}{v:Value}{l:List α}
theorem ld.Rl(h:ld E T w B v l){G:Nat}(hG:v.ownBlock=some G):B<=G/\G<w.heap.size:=by obtain⟨ys,h1,h2⟩:=h.has;exact⟨(h1.lt hG).2.1,(h1.lt hG).1⟩
theorem ld.grown(h:ld E T w B v l)(hb:w.grownBy w' (some g))(hg:g<B):ld E T w' B v l:=by obtain⟨ys,h1,h2⟩:=h.has;exact⟨ys,h1.grown hb (λ e=>by have:=(h1.lt e).2.1;omega),h2.imp λ x y=>E.keep (qz hb hg)⟩
theorem ld.sl(h:ld E T w B v l){B':Nat}(hB:B'<=B):∃y:Sl,v=oG y/\y.n=l.length/\E.sl w (jM B' w) y l:=by obtain⟨ys,h1,h2⟩:=h.has;obtain⟨A,c,hv,hr⟩:=Rf E.hf h1 (S:=jM B' w) (λ g h3 h4=>⟨by omega,h4⟩);refine⟨⟨A,l.length,c⟩,?_,rfl,rfl,ys,hr,h2.imp λ x y=>E.keep (Nw hB)⟩;rw[hv,h2.len];rfl
theorem ld.nil(E:El α)(T:TypeId)(w:t_)(B:Nat):ld E T w B (az) []:=⟨[],aH.nil,.nil⟩
end
def SlW(ρ:dx)(w:t_)(l:List Tr)(r:dI)(e:Ending)(w':t_):Prop:=∃y:Sl,e=.returned (oG y)/\JW.sl w' (jM w.heap.size w') y l/\eQ ρ w w' (.good r) false
theorem Ho{s:u_}(hs:dL s.data.toList r=false)(ρ:dx)(w:t_)(h:ρ.at w (.good r) false):ar 142 #[ρ.ptr,.string s] w (SlW ρ w [] r):=by have HC:=cy ρ w _ false h s hs;clear hs;go_enter func142,ntmps142;go_wp2_with fail;refine HC.mono ?_;rintro e w1 ⟨rfl,b1⟩;go_wp2_with fail;go_ret;exact⟨Sl.nil,rfl,El.vA _ _ _,b1⟩
theorem Rm{s:u_}{k:Wd}(hs:ju s.data.toList k=true)(H:cZ 0 l x r)(ρ:dx)(w:t_)(h:ρ.at w (.good (k::l)) false):ar 142 #[ρ.ptr,.string s] w (SlW ρ w [x] r):=by have HC:=oZ ρ w _ false h s hs;have ei:=h.Hk;have HH:=aa H;clear hs H;go_enter func142,ntmps142;go_wp2_with fail;refine HC.mono ?_;rintro e w1 ⟨rfl,b1⟩;go_wp2_with fail;refine(HH.ae ρ _ b1.at_).mono ?_;rintro e w2 ⟨y,rfl,ht,d2⟩;unfold nt bH;go_wp2_with fail;go_ret;have hs:=b1.size;exact⟨⟨some ⟨w2.heap.size,0,none⟩,1,1⟩,rfl,N7 (aB.new w2 _ _) ⟨by have:=d2.size;omega,by simp⟩ ((ht.later (ah w2 _)).more hs),(b1.trans d2).later (ah w2 (vu y))⟩
theorem Kk(hc:ju dO u=false)(n:Nat)(hn:n<=64)(ρ:dx)(w:t_)(h:ρ.at w (.good (u::r)) false):
  ar 140 #[ρ.ptr,af n] w λ e w'=>e=.returned (.bool false)/\eQ ρ w w' (.good (u::r)) false:=by have hh:(cw.good (u::r)).head dO=false:=hc;have:=Hl ρ w _ false h n WC;rw[hh,jG hh,show(false||decide (64<n))=false by simp;omega]at this;exact this
theorem O0(hc:ju dO u=true)(n:Nat)(hn:n<=64)(ρ:dx)(w:t_)(h:ρ.at w (.good (u::r)) false):
  ar 140 #[ρ.ptr,af n] w λ e w'=>e=.returned (.bool true)/\eQ ρ w w' (.good r) false:=by have hh:(cw.good (u::r)).head dO=true:=hc;have:=Hl ρ w _ false h n WC;rw[hh,kI hh,show(false||decide (64<n))=false by simp;omega]at this;exact this
theorem WY(hc:ju dO u=false)(H:cZ 0 l x (u::r))(ρ:dx)(w:t_)(h:ρ.at w (.good l) false):ar 179 #[ρ.ptr] w (SlW ρ w [x] (u::r)):=by
 have ei:=h.Hk;have HM:=aa (λ ρ w h=>Kk (r:=r) hc 1 WC ρ w h);have HH:=aa H;clear hc H;go_enter func179,ntmps179;go_wp2_with fail;refine(HH.ae ρ _ h).mono ?_;rintro e w2 ⟨y,rfl,ht,d2⟩;unfold nt bH;have hs2:=d2.size;go_wp2_with fail;have HD:=aa (d2.later (ah w2 (vu y)));have HX:=aa (aB.new w2 46 (bH y).toArray);have HT:=aa (ht.later (ah w2 (vu y)));unfold vu bH at HD HX HT;clear ht d2;generalize hW3:w2.alloc _=W3 at*;generalize w2.heap.size=g at*;clear hW3;go_loopg [3] 0 (λ k v wr=>v=aL g 1 1/\wr=W3);case atStart=>exact ZfK
 case round=>obtain⟨hv,rfl⟩:=hrel;subst hv;go_wp2_with fail;refine(HM.ae ρ _ HD.ae.at_).mono ?_;rintro e w4 ⟨rfl,d4⟩;go_wp2_with fail;go_ret;have hX:=d4.blk HX.ae WC;exact⟨⟨some ⟨g,0,none⟩,1,1⟩,rfl,N7 hX ⟨hs2,hX.lt⟩ (HT.ae.grown d4.grown WC),HD.ae.trans d4⟩
def ElW(E:El α)(val:E.β->Value)(ρ:dx)(W:t_)(x:α)(r:dI)(e:Ending)(w':t_):Prop:=∃y:E.β,e=.returned (val y)/\E.rel w' (jM W.heap.size w') x y/\eQ ρ W w' (.good r) false
theorem Rn{k:Wd}(hk:ju QI k=true)(H:cZ 0 l x (k::r))(ρ:dx)(w:t_)(h:ρ.at w (.good l) false):ar 180 #[ρ.ptr] w (ElW tP orV ρ w (x,true) r):=by
 have HK:=aa hk;have HH:=aa H;clear hk H;have ei:=h.Hk;have hb:=ah w orZ;have h0:=h.later hb;have HQ:=aa (aB.new w 117 #[ag 0,ag 0,af 0,au,au,af 0,az,.bool false]);have hsz:(w.alloc orZ).heap.size=w.heap.size+1:=Tad;unfold orZ at*;go_enter func180,ntmps180;go_wp2_with fail;refine(HH.ae ρ _ h0).mono ?_;rintro e w2 ⟨y,rfl,ht,d2⟩;unfold nt bH;have hs2:=d2.size;go_wp2_with fail;have D3:=((eQ.df h hb).trans d2).later (ah w2 (.cells (N8 (y,false)).toArray 117));have HX:=aB.new w2 117 (N8 (y,false)).toArray;have nV:=(d2.blk HQ.ae WC).alloc (.cells (N8 (y,false)).toArray 117);have htx:=Tr.at_.keep (QN (.cells (N8 (y,false)).toArray 117) (show w.heap.size+1<=_ by omega)) _ _ ht;have hs3:(w2.alloc (.cells (N8 (y,false)).toArray 117)).heap.size=w2.heap.size+1:=Tad;unfold N8 bH at D3 HX nV htx hs3;simp only[cons_append,nil_append]at D3 HX nV htx hs3;generalize w2.alloc _=W3 at*;have hm:=oZ ρ W3 _ false D3.at_ ⟨#[100,101,115,99]⟩ HK.ae;clear h0 hb HQ ht d2;refine hm.mono ?_;rintro e w4 ⟨rfl,d4⟩;have BW:=d4.blk HX WC;have hx2:=HX.lt;have Fs:=BW.aW 7 (.bool true);simp only[setIfInBounds_toArray,set_cons_zero,set_cons_succ]at Fs;have hxf:=BW.frozen 7;have hxc:=BW.cell 7;have Bn:=(d4.blk nV WC).far (p:=⟨w2.heap.size,7,none⟩) Tac (.bool true);have D6:=(D3.trans d4).far ei (show w.heap.size<=w2.heap.size by omega) 7 (.bool true);have yC:=aa (Tr.at_.keep (QM aE) _ _ (Tr.at_.keep (H7 7 (.bool true)) _ _ (Tr.at_.keep (xy d4.grown WC) _ _ htx)));have YR:=aa D6;have Ri:=aa Bn;obtain⟨x0,x1,x2,x3,x4,x5,x6,x7⟩:=dB Fs;obtain⟨y0,y1,y2,y3,y4,y5,y6,y7⟩:=dB Bn;obtain⟨z0,z1,z2,z3,z4,z5,z6,z7⟩:=mg Bn;clear BW Fs Bn HX nV D3 d4 hm D6 hx2;go_wp2_with fail;have HP:=Ns Ri.ae y (.bool true);have HR:=dB HP;unfold xH dY at HR;obtain⟨r0,r1,r2,r3,r4,r5,r6,r7⟩:=HR;refine bodyPost_ret (v:=orV (y,true)) ?_ rfl ?_
 ·simp[results,results180,go_sem,r0,r1,r2,r3,r4,r5,r6,r7];rfl
 exact⟨(y,true),rfl,⟨(yC.ae.xH (Nat.lt_succ_self _) y (.bool true)).more WC,rfl⟩,YR.ae.xH ei aE y (.bool true)⟩
theorem Dv{k:Wd}(hk:ju adk k=false)(H:cZ 0 l x (k::r))(ρ:dx)(w:t_)(h:ρ.at w (.good l) false):ar 178 #[ρ.ptr] w (ElW sG itV ρ w (x,ByteArray.empty) (k::r)):=by
 have HK:=aa hk;have HH:=aa H;clear hk H;have ei:=h.Hk;have hb:=ah w itZ;have h0:=h.later hb;have HQ:=aa (aB.new w 48 #[ag 0,ag 0,af 0,au,au,af 0,az,au]);have hsz:(w.alloc itZ).heap.size=w.heap.size+1:=Tad;unfold itZ at*;go_enter func178,ntmps178;go_wp2_with fail;refine(HH.ae ρ _ h0).mono ?_;rintro e w2 ⟨y,rfl,ht,d2⟩;unfold nt bH;have hs2:=d2.size;go_wp2_with fail;have D3:=((eQ.df h hb).trans d2).later (ah w2 (.cells (Uv (y,⟨#[]⟩)).toArray 48));have HX:=aB.new w2 48 (Uv (y,⟨#[]⟩)).toArray;have nV:=(d2.blk HQ.ae WC).alloc (.cells (Uv (y,⟨#[]⟩)).toArray 48);have ht3:=(ht.later (ah w2 (.cells (Uv (y,⟨#[]⟩)).toArray 48))).more (B':=w.heap.size+1) WC;unfold Uv bH at D3 HX nV ht3;simp only[cons_append,nil_append]at D3 HX nV ht3;generalize w2.alloc _=W3 at*;have hm:=cy ρ W3 _ false D3.at_ ⟨#[97,115]⟩ HK.ae;clear h0 hb HQ ht d2;refine hm.mono ?_;rintro e w4 ⟨rfl,d4⟩;have Fs:=d4.blk HX WC;have Bn:=d4.blk nV WC;have HT4:=aa (ht3.grown d4.grown WC);have HD4:=aa (D3.trans d4);have Ri:=aa Bn;obtain⟨x0,x1,x2,x3,x4,x5,x6,x7⟩:=dB Fs;obtain⟨y0,y1,y2,y3,y4,y5,y6,y7⟩:=dB Bn;obtain⟨z0,z1,z2,z3,z4,z5,z6,z7⟩:=mg Bn;clear Fs Bn HX nV ht3 D3 d4 hm;go_wp2_with fail;have HP:=Ns Ri.ae y (au);have HR:=dB HP;unfold xH dY at HR;obtain⟨r0,r1,r2,r3,r4,r5,r6,r7⟩:=HR;refine bodyPost_ret (v:=itV (y,⟨#[]⟩)) ?_ rfl ?_
 ·simp[results,results178,go_sem,r0,r1,r2,r3,r4,r5,r6,r7];rfl
 exact⟨(y,⟨#[]⟩),rfl,⟨(HT4.ae.xH (Nat.lt_succ_self _) y (au)).more WC,rfl⟩,HD4.ae.xH ei aE y (au)⟩
section
variable{σ:cw}
end
section
variable{α β:Type}{P k:Ps α}{σ Al:cw}{p:Ps β}{f:β->Ps α}{x:β}{z:α}
end
section
variable{α β γ:Type}
end
section
variable{α β:Type}{n:Nat}{p:Ps α}{Q Q':α->Prop}{R:β->Prop}
end
section
variable{n:Nat}
end
def adG(t:Wd):Prop:=(0<=t.n/\t.n<=9223372036854775807)/\(t.k=4->t.s∈signs)
theorem adH{r:xb}{w:Wd}(h:iH r=.ok (w,rest)):adG w:=by
 match r with
 |[]=>cases h
 |c::r=>
   simp only[iH]at h;split at h;exact ZfM;split at h
   ·split at h
    ·rename_i hb;injection h with h;injection h with h1 h2;subst h1;refine⟨?_,λ e=>by simp at e⟩;simp only[Bool.and_eq_true,xu,decide_eq_true_eq]at hb;have:=hb.1.2;simp only;omega
    cases h
   split at h;exact ZfM;split at h;rename_i s hs;injection h with h;injection h with h1 h2;subst h1;exact⟨⟨by simp,by simp⟩,λ _=>(sF hs).1⟩;cases h
theorem Nx(n:Nat):∀(f:Nat) (r:xb) (l:List sB),za n f r=.ok l->(∃b,l=b++[⟨⟨0,[],0⟩,n⟩])/\l.length<=r.length+1/\∀t∈l,adG t.w
 |0,r,l,h=>by cases h
 |f+1,r,l,h=>by have hle:=kX false r;simp only[za]at h;split at h;injection h with h;subst h;exact⟨⟨[],rfl⟩,by simp,λ t ht=>by simp at ht;subst ht;exact⟨⟨by simp,by simp⟩,λ e=>by simp at e⟩⟩;rename_i c r' hsk;rw[hsk]at hle;split at h;cases h;rename_i w rest ho;have hlt:=BP ho;split at h;cases h;rename_i l' hl';injection h with h;subst h;obtain⟨⟨b,hb⟩,h1,h2⟩:=Nx n f rest l' hl';refine⟨⟨⟨w,_⟩::b,by rw[hb];rfl⟩,by simp only[length_cons]at hlt hle⊢;omega,λ t ht=>?_⟩;rcases List.mem_cons.1 ht with rfl|ht;exact adH ho;exact h2 t ht
theorem Ux{s:xb}{l:List sB}(h:Bg s=.ok l):(∃b n,l=b++[⟨⟨0,[],0⟩,n⟩])/\l.length<=4097/\∀t∈l,adG t.w:=by unfold Bg at h;split at h;cases h;rename_i hs;obtain⟨⟨b,hb⟩,h1,h2⟩:=Nx _ _ _ _ h;exact⟨⟨b,_,hb⟩,by omega,h2⟩
theorem WZ{s:xb}{l:List sB}(h:Bg s=.ok l):Ah (l.map (·.w)):=by obtain⟨⟨b,n,rfl⟩,_⟩:=Ux h;exact⟨b.map (·.w),⟨0,[],0⟩,by simp,rfl⟩
theorem Hp:(prog.info? 48).map (λ i=>(i.zero,i.size,i.bytes))=some (some (.agg #[ag 0,ag 0,af 0,au,au,af 0,az,au]),8,104):=by exact Zhr
def agz(E:El α)(lng:α->Bool)(ρ:dx)(p:Ps α)(σ:cw)(big:Bool)(y:E.β)(w w':t_):Prop:=∃x:α,E.rel w' (jM w.heap.size w') x y/\eQ ρ w w' (dv p σ) (big||lng x)/\kY p σ x
variable{lng:α->Bool}{w0 w1 gU w2:t_}{acc:List α}
theorem Ro{p:Ps α}{y:E.β}(hB:w0.heap.size<=B)(hg:ρ.g<w0.heap.size)(hR:ld E T wr B v acc)(hBr:B<=wr.heap.size)(hD:eQ ρ w0 wr σ big)(fI:aj wr w1)(hp:agz E lng ρ p σ big y w1 gU)(hl2:aj gU w2)(bJ:w2.grownBy W v.ownBlock)
  (ys:List E.β) (MX:aH E.f T E.size W B v' (ys++[y])) (hys:nA (E.rel wr (zz B v wr)) acc ys) (hv:v'.ownBlock=v.ownBlock\/v'.ownBlock=some w2.heap.size):
  ∃x:α,ld E T W B v' (acc++[x])/\eQ ρ w0 W (dv p σ) (big||lng x)/\kY p σ x:=by
 obtain⟨x,hx,hd,YS⟩:=hp;have hgB:ρ.g<B:=WC;have own:∀G,v.ownBlock=some G->B<=G/\G<wr.heap.size:=λ G hG=>hR.Rl hG;refine⟨x,⟨ys++[y],MX,nA.append ?_ (.one ?_)⟩,?_,YS⟩;exact hys.imp λ a b hab=>E.keep (Du bJ hv) (E.keep (qA hl2) (E.keep (qz hd.grown hgB) (E.keep (qA fI) hab)));refine E.keep (Du bJ hv) (E.keep (N9 (B:=w1.heap.size) (B':=B) (fK hBr fI.size) λ G hG=>?_) (E.keep (jo hl2) hx));exact eS (own G hG).2 fI.size;exact(((hD.later fI).trans hd).later hl2).own hg bJ λ G hG=>by have:=(own G hG).1;omega
theorem Ny(hq:q<B)(i:Nat)(u:Value):∀b,zz B v w b->(∀o,(w.setCell ⟨q,i,none⟩ u).cell? ⟨b,o,none⟩=w.cell? ⟨b,o,none⟩)/\zz B v (w.setCell ⟨q,i,none⟩ u) b:=λ b hb=>
 ⟨cell_of_heap (Below.heap_setCell w ⟨q,i,none⟩ u b (by have:=hb.1;simp;omega)),hb.1,by simpa [World.setCell] using hb.2.1,hb.2.2⟩
theorem ld.far{l:List α}(h:ld E T w B v l)(hq:q<B)(i:Nat)(u:Value):ld E T (w.setCell ⟨q,i,none⟩ u) B v l:=by have wI:=λ G hG=>(h.Rl (G:=G) hG).1;obtain⟨ys,h1,h2⟩:=h.has;exact⟨ys,h1.keep λ g hg=>Below.heap_setCell w ⟨q,i,none⟩ u g (by have:=wI g hg;simp;omega),h2.imp λ x y=>E.keep (Ny hq i u)⟩
def quZ:Obj:=.cells #[az,au,.bool false,az,az,az,az,az] 27
theorem Rp:(prog.info? 117).map (λ i=>(i.zero,i.size,i.bytes))=some (some (.agg #[ag 0,ag 0,af 0,au,au,af 0,az,.bool false]),8,96):=by exact Zhr
def Bp(w:t_)(q:Nat)(m:zy):t_:=(((((((w.setCell ⟨q,0,none⟩ (oG m.items)).setCell ⟨q,1,none⟩ (.string m.bU)).setCell ⟨q,2,none⟩ (.bool m.only)).setCell ⟨q,3,none⟩ (oG m.bQ)).setCell ⟨q,4,none⟩ (oG m.group)).setCell ⟨q,5,none⟩ (oG m.having)).setCell ⟨q,6,none⟩ (oG m.order)).setCell ⟨q,7,none⟩ (oG m.dA)
theorem Nz{a b c g i:Value}(h:aB w q T #[a,b,c,d,e,f,g,i])(m:zy):aB (Bp w q m) q T (Nr m).toArray:=by have:=(((((((h.aW 0 (oG m.items)).aW 1 (.string m.bU)).aW 2 (.bool m.only)).aW 3 (oG m.bQ)).aW 4 (oG m.group)).aW 5 (oG m.having)).aW 6 (oG m.order)).aW 7 (oG m.dA);exact Zea
theorem eQ.Bp(h:eQ ρ W w σ big)(hW:ρ.g<W.heap.size)(hq:W.heap.size<=q)(m:zy):eQ ρ W (Bp w q m) σ big:=
 (((((((h.far hW hq 0 _).far hW hq 1 _).far hW hq 2 _).far hW hq 3 _).far hW hq 4 _).far hW hq 5 _).far hW hq 6 _).far hW hq 7 _
variable{m:zy}
theorem Qu.at_.Bp{d:Qu}(h:d.at_ w (jM B w) m)(hq:q<B)(m':zy):d.at_ (Bp w q m') (jM B (Go.Proofs.YtndgjggokjickaaGreatDoor.R.Bp w q m')) m:=by have s:=λ(w:t_) (h:d.at_ w (jM B w) m) (i:Nat) (u:Value)=>Qu.at_.keep (tQ (w:=w) hq i u) h;exact s _ (s _ (s _ (s _ (s _ (s _ (s _ (s _ h 0 _) 1 _) 2 _) 3 _) 4 _) 5 _) 6 _) 7 _
theorem adI{k:Int}(h:aB w G 2 #[af k])(hS:S G):TZ.sl w S ⟨some ⟨G,0,none⟩,1,1⟩ [k]:=
 ⟨rfl,[k],QO (f:=λ k:Int=>[Value.int .i64 k]) (λ _=>rfl) h hS,.one rfl⟩
section
variable{ρ:dx}{w wr w2:t_}{big:Bool}{σ Al:cw}{m:zy}{d:Qu}
end
inductive adJ (s:xb):dI->List Tr->dI->Prop
 |none {l:dI}(h:dL s l=false):adJ s l [] l
 |some {k:Wd}{l r:dI}{x:Tr}(h:ju s k=true) (H:cZ 0 l x r):adJ s (k::l) [x] r
inductive vB:dI->List (Tr×u_)->dI->Prop
 |one {l r:dI}{u:Wd}{x:Tr}(H:cZ 0 l x (u::r)) (ha:ju adk u=false) (hc:ju dO u=false):vB l [(x,ByteArray.empty)] (u::r)
 |cons {l l2 r:dI}{c:Wd}{x:Tr}{xs:List (Tr×u_)}(H:cZ 0 l x (c::l2)) (ha:ju adk c=false) (hc:ju dO c=true) (h:vB l2 xs r):vB l ((x,ByteArray.empty)::xs) r
inductive Uy:dI->List (Tr×u_)->dI->Prop
 |done {r:dI}{u:Wd}(hc:ju dO u=false):Uy (u::r) [] (u::r)
 |more {l r:dI}{c:Wd}{xs:List (Tr×u_)}(hc:ju dO c=true) (h:vB l xs r):Uy (c::l) xs r
variable{xs:List (Tr×u_)}
theorem vB.first(h:vB l xs r):∃(x:Tr) (ys:List (Tr×u_)) (c:Wd) (l2:dI),xs=(x,ByteArray.empty)::ys/\cZ 0 l x (c::l2)/\ju adk c=false/\Uy (c::l2) ys r:=by
 cases h with
 |one H ha hc=>exact⟨_,_,_,_,rfl,H,ha,.done hc⟩
 |cons H ha hc h=>exact⟨_,_,_,_,rfl,H,ha,.more hc h⟩
inductive aiU:dI->List Tr->dI->Prop
 |none {l:dI}(h:dL BS l=false):aiU l [] l
 |some {k b u:Wd}{l r:dI}{x:Tr}(h:ju BS k=true) (hb:ju QH b=true) (hc:ju dO u=false) (H:cZ 0 l x (u::r)):aiU (k::b::l) [x] (u::r)
inductive aiV:dI->List (Tr×Bool)->dI->Prop
 |none {l:dI}(h:dL JR l=false):aiV l [] l
 |some {k b d u:Wd}{l r:dI}{x:Tr}(h:ju JR k=true) (hb:ju QH b=true) (hd:ju QI d=true) (hc:ju dO u=false) (H:cZ 0 l x (d::u::r)):aiV (k::b::l) [(x,true)] (u::r)
inductive aiW:dI->List Int->dI->Prop
 |none {l:dI}(h:dL JS l=false):aiW l [] l
 |some {k n:Wd}{r:dI}(h:ju JS k=true) (hn:n.k=2):aiW (k::n::r) [n.n] r
structure YT (ρ:dx) (w wr:t_) (l:dI) (m:zy) (d:Qu):Prop where
 did:eQ ρ w wr (.good l) false
 blk:aB wr (w.heap.size+1) 27 (Nr m).toArray
 res:aB wr w.heap.size 27 #[az,au,.bool false,az,az,az,az,az]
 at_:d.at_ wr (jM (w.heap.size+2) wr) m
section
variable{ρ:dx}{w wr w2:t_}{l r:dI}{m:zy}{d:Qu}
theorem YT.later(A:YT ρ w wr l m d)(hb:ai wr w2):YT ρ w w2 l m d:=
 ⟨A.did.later hb,A.blk.later hb,A.res.later hb,Qu.at_.keep (jo hb) A.at_⟩
theorem YT.FO(A:YT ρ w wr l m d)(hg:ρ.g<w.heap.size)(dd:eQ ρ wr w2 (.good r) false):YT ρ w w2 r m d:=
 ⟨A.did.trans dd,dd.blk A.blk WC,dd.blk A.res WC,Qu.at_.keep (mo dd.grown WC) A.at_⟩
theorem YT.set{m':zy}{d':Qu}(A:YT ρ w wr l m d)(hg:ρ.g<w.heap.size)(i:Nat)(u:Value)(hb:(Nr m').toArray=(Nr m).toArray.setIfInBounds i u)(hat:Qu.at_ wr (jM (w.heap.size+2) wr) d' m'):YT ρ w (wr.setCell ⟨w.heap.size+1,i,none⟩ u) l m' d':=by refine⟨A.did.far hg WC i u,?_,A.res.far (p:=⟨w.heap.size+1,i,none⟩) Tad u,Qu.at_.keep (tQ WC i u) hat⟩;rw[hb];exact A.blk.aW i u
end
def aov(x:α)(r:dI):Ps α:=λ _=>.ok (x,r)
structure PuA {α:Type}(E:El α) (T:TypeId) (ρ:dx) (w wr:t_) (l:dI) (k:Nat) (v:Value) (acc:List α) (cs:xr) (m:zy) (d:Qu):Prop where
 row:ld E T wr (w.heap.size+2) v acc
 did:eQ ρ w wr (.good l) false
 blk:aB wr (w.heap.size+1) 27 cs.toArray
 res:aB wr w.heap.size 27 #[az,au,.bool false,az,az,az,az,az]
 at_:d.at_ wr (zz (w.heap.size+2) v wr) m
 cel:cs[k]?=some v
theorem PuA.FO{cs:xr}{d:Qu}(A:PuA E T ρ w wr l k v acc cs m d)(hg:ρ.g<w.heap.size)(dd:eQ ρ wr w2 (.good r) false):PuA E T ρ w w2 r k v acc cs m d:=
 ⟨A.row.grown dd.grown WC,A.did.trans dd,dd.blk A.blk WC,dd.blk A.res WC,Qu.at_.keep (qz dd.grown WC) A.at_,A.cel⟩
variable{m':zy}{d':Qu}
theorem PuA.done{cs:xr}{d:Qu}(A:PuA E T ρ w wr l k v acc cs m d)(hm:(Nr m').toArray=cs.toArray)(hat:Qu.at_ wr (jM (w.heap.size+2) wr) d' m'):YT ρ w wr l m' d':=
 ⟨A.did,hm▸A.blk,A.res,hat⟩
variable{val:E.β->Value}{z:Value}{bytes:Nat}{Q:y_}{a0:Act}{rid:Nat}{o0 o1 o2 o3 o4 o5 o6 o7:Oper}{d4 d5 d6:Tmp}{F:FuncId}
theorem Rq{x:α}{lv:Value}{cs:xr}{d:Qu}{q d0 d1 d2 d3:Tmp}(t ty:TypeId)
  (A:PuA E T ρ w wr l k lv acc cs m d) (ei:ρ.g<w.heap.size) (hn:acc.length<=64) (hby:bytes<=1000)
  (hc:∀w',ρ.at w' (.good l) false->ar F #[ρ.ptr] w' (ElW E val ρ w' x r))
  (bc:dC [o0,o1,o2,o3,o4,o5,o6] a0.tmps.size [o0,o1,o2,o3,o4,o5,o6] 0=true) (hz:eD [o0,o1,o2,o3,o4,o5,o6,o7] [o7] 7=true) (hch:lZ [o0,o1,o2,o3,o4,o5,o6] [3,4,5]=true) (Dn:Dm o0 o1 o2 o3 o4 o5 o6 q d0 d1 d2 d3 d4 d5 d6=true)
  (hq:a0.eval (.tmp q)=aw (w.heap.size+1)) (h0:a0.eval (.tmp 0)=ρ.ptr)
  (hfa:∀ρ' w',ρ' (.tmp q)=aw (w.heap.size+1)->(execOp ρ' o0).run prog w'=.ok (.value (aY (w.heap.size+1) k)) w')
  (L1:∀ρ' w',ρ' (.tmp q)=aw (w.heap.size+1)->(execOp ρ' o6).run prog w'=.ok (.value (aY (w.heap.size+1) k)) w')
  (hld:∀ρ' w',ρ' (.tmp d0)=aY (w.heap.size+1) k->w'.cell? ⟨w.heap.size+1,k,none⟩=some lv->(execOp ρ' o1).run prog w'=.ok (.value lv) w')
  (FM:∀ρ' w',ρ' (.tmp 0)=ρ.ptr->(execOp ρ' o2).run prog w'=.ok (.value ρ.ptr) w')
  (cj:∀ρ' w',gD ρ'->ρ' (.tmp d2)=ρ.ptr->(execOp ρ' o3).run prog w'=.ok (.enter F #[ρ.ptr]) w')
  (Lz:∀ρ' w' y,ρ' (.tmp d3)=val y->(execOp ρ' o4).run prog w'=.ok (.value (aL w'.heap.size 1 1)) (w'.alloc (.cells (E.f y).toArray T)))
  (hap:∀ρ' w' s v' L3,ρ' (.tmp d1)=lv->ρ' (.tmp d4)=s->(Builtin.append_ #[t,t] ty #[lv,s]).run prog w'=.ok v' L3->(execOp ρ' o5).run prog w'=.ok (.value v') L3)
  (ht:prog.underlying t=some (.slice T)) (jQ:(prog.info? T).map (λ i=>(i.zero,i.size,i.bytes))=some (some z,E.size,bytes)) (hzs:z.cells.size=E.size) (hsz:0<E.size) (hf:∀x,(E.f x).length=E.size) (h1:∀y,∀u∈E.f y,u.oneCell'=true)
  (mO:∀y s v' W,PuA E T ρ w (W.setCell ⟨w.heap.size+1,k,none⟩ v') r k v' (acc++[x]) (cs.set k v') m d->W.cell? ⟨w.heap.size+1,k,none⟩=some lv->W.frozen? ⟨w.heap.size+1,k,none⟩=false->
    wpList prog [o0,o1,o2,o3,o4,o5,o6,o7].toArray Q [o7] (((((((a0.put (some d0) (aY (w.heap.size+1) k)).put (some d1) lv).put (some d2) ρ.ptr).put (some d3) (val y)).put (some d4) s).put (some d5) v').put (some d6) (aY (w.heap.size+1) k)) W):
  (Code.region rid [o0,o1,o2,o3,o4,o5,o6,o7].toArray true).wp prog Q a0 wr:=by
 obtain⟨ys,ho,ha⟩:=A.row.has;have hyl:ys.length=acc.length:=ha.len;have how:=λ G hG=>A.row.Rl (G:=G) hG;have hwr:=A.blk.lt;refine Kj (P:=prog) (f:=E.f) (val:=val) (e:=T) (size:=E.size) (base:=w.heap.size+2) (l:=ys) (lv:=lv) (Post:=agz E (λ _=>false) ρ (aov x r) (.good l) false) (w0:=wr) (qb:=w.heap.size+1) (k:=k) (g:=ρ.g) (ptr:=ρ.ptr) (F:=F) (args:= #[ρ.ptr]) t ty z bytes Taa bc hz hch Dn hq h0 hfa L1 hld FM cj Lz hap ht jQ hzs hsz hf h1 ho ((A.blk.cell k).trans (by simpa using A.cel)) WC (λ e'=>by have:=(how _ e').1;omega) (λ e'=>by have:=(how _ e').1;omega) (fK (Nat.mul_le_mul (show _<=65 by omega) hby) Tab) WC WC ?_ ?_ ?_;intro w' hw';refine(hc w' (A.did.at_.later hw')).mono ?_;rintro e w'' ⟨y,rfl,hx,hd⟩;exact⟨y,rfl,x,hx,by rw[Bool.or_false];exact hd,rfl⟩;rintro y w' w'' ⟨x,hx,hd,hv⟩;exact hd.grown;intro y s v' w4 w4' w5 W fI hp hl2 ho2 bJ MX PH uo;obtain⟨_,_,dd,_⟩:=id hp;have hs1:=fI.size;have hs2:=dd.size;have hs3:=hl2.size;obtain⟨x',hgr,hdd,YS⟩:=Ro (E:=E) (T:=T) (lng:=λ _=>false) (B:=w.heap.size+2) (acc:=acc) WC ei A.row WC A.did fI hp hl2 bJ ys MX ha PH;obtain rfl:x'=x:=YS;have hnq:∀(q:Nat),q<w.heap.size+2->some q≠lv.ownBlock:=λ q hq e'=>by have:=(how q e'.symm).1;omega
 have HX:=(((A.blk.later fI).grown dd.grown Tac).later hl2).grown bJ (hnq _ WC);have HR:=(((A.res.later fI).grown dd.grown Tac).later hl2).grown bJ (hnq _ WC);have lz:=HX.aW k v';simp only[setIfInBounds_toArray]at lz;refine mO y s v' W ⟨hgr.far WC k v',by have:=hdd.far ei (show w.heap.size<=w.heap.size+1 by omega) k v';rwa [Bool.or_false]at this,lz,HR.far (p:=⟨w.heap.size+1,k,none⟩) Tad v',Qu.at_.keep (Ny (show w.heap.size+1<w.heap.size+2 by omega) k v') (Qu.at_.keep (Du bJ PH) (Qu.at_.keep (qA hl2) (Qu.at_.keep (qz dd.grown WC) (Qu.at_.keep (qA fI) A.at_)))),?_⟩ uo (HX.frozen k);have:=A.cel;rw[getElem?_set_self (by rcases gR k cs.length with h|h;exact h;rw[getElem?_eq_none h]at this;cases this)]
structure ItC (ρ:dx) (w:t_) (xs:List (Tr×u_)) (r:dI) (k:Nat) (wr:t_) (A:xP) (n c:Nat) (acc ys:List (Tr×u_)) (l:dI):Prop where
 at_:PuA sG 48 ρ w wr l 0 (.slice A n c) acc [.slice A n c,au,.bool false,az,az,az,az,az] {} {}
 more:Uy l ys r
 aO:acc++ys=xs
 len:n=acc.length
 le:ys.length<=k
theorem agA(s:u_)(l:dI)(ρ:dx)(w:t_)(h:ρ.at w (.good l) false):ar 87 #[ρ.ptr,.string s] w λ e w'=>∃b,b=dL s.data.toList l/\e=.returned (.bool b)/\eQ ρ w w' (.good (if b=true then l.tail else l)) false:=by
 cases hb:dL s.data.toList l with
 |false=>exact(cy ρ w _ false h s hb).mono λ e w' ⟨h1,h2⟩=>⟨false,rfl,h1,h2⟩
 |true=>exact(oZ ρ w _ false h s hb).mono λ e w' ⟨h1,h2⟩=>⟨true,rfl,h1,h2⟩
theorem O5{s:u_}{W:List Tr}(h:adJ s.data.toList l W r)(ρ:dx)(w:t_)(hat:ρ.at w (.good l) false):ar 142 #[ρ.ptr,.string s] w (SlW ρ w W r):=by
 cases h with
 |none h=>exact Ho h ρ w hat
 |some h H=>exact Rm h H ρ w hat
variable{k0 kf nm:Wd}{l1 l3 l4:dI}{lim:List Int}
def zh6.Kcj(h:p:=by have HP:=Nz Ly.ae.res {items:=FP,bU:=bU,bQ:=⟨Hq,Hr,Hs⟩,group:=sg,having:=⟨ND,NF,NI⟩,order:=so,dA:=Sl.nil};have HR:=dB HP;unfold Bp oG at HR;obtain⟨r0,r1,r2,r3,r4,r5,r6,r7⟩:=HR;refine bodyPost_ret (v:=quV {items:=FP,bU:=bU,bQ:=⟨Hq,Hr,Hs⟩,group:=sg,having:=⟨ND,NF,NI⟩,order:=so,dA:=Sl.nil}) Ziq rfl ?_;refine⟨{items:=FP,bU:=bU,bQ:=⟨Hq,Hr,Hs⟩,group:=sg,having:=⟨ND,NF,NI⟩,order:=so,dA:=Sl.nil},rfl,?_,Ly.ae.did.Bp ei aE {items:=FP,bU:=bU,bQ:=⟨Hq,Hr,Hs⟩,group:=sg,having:=⟨ND,NF,NI⟩,order:=so,dA:=Sl.nil}⟩;rw[pC.ae,<-HF.ae];exact Qu.at_.keep (jF WC) (Ly.ae.at_.Bp WC {items:=FP,bU:=bU,bQ:=⟨Hq,Hr,Hs⟩,group:=sg,having:=⟨ND,NF,NI⟩,order:=so,dA:=Sl.nil})):=h
def zh7.Kcj(h:p:=by have HP:=Nz Ly.ae.res {items:=FP,bU:=bU,bQ:=⟨Hq,Hr,Hs⟩,group:=sg,having:=⟨ND,NF,NI⟩,order:=so,dA:=⟨some ⟨Rk.heap.size,0,none⟩,1,1⟩};have HR:=dB HP;unfold Bp oG at HR;obtain⟨r0,r1,r2,r3,r4,r5,r6,r7⟩:=HR;refine bodyPost_ret (v:=quV {items:=FP,bU:=bU,bQ:=⟨Hq,Hr,Hs⟩,group:=sg,having:=⟨ND,NF,NI⟩,order:=so,dA:=⟨some ⟨Rk.heap.size,0,none⟩,1,1⟩}) Ziq rfl ?_;refine⟨{items:=FP,bU:=bU,bQ:=⟨Hq,Hr,Hs⟩,group:=sg,having:=⟨ND,NF,NI⟩,order:=so,dA:=⟨some ⟨Rk.heap.size,0,none⟩,1,1⟩},rfl,?_,Ly.ae.did.Bp ei aE {items:=FP,bU:=bU,bQ:=⟨Hq,Hr,Hs⟩,group:=sg,having:=⟨ND,NF,NI⟩,order:=so,dA:=⟨some ⟨Rk.heap.size,0,none⟩,1,1⟩}⟩;rw[pC.ae,<-HF.ae,<-hk.ae];exact Qu.at_.keep (jF WC) (Ly.ae.at_.Bp WC {items:=FP,bU:=bU,bQ:=⟨Hq,Hr,Hs⟩,group:=sg,having:=⟨ND,NF,NI⟩,order:=so,dA:=⟨some ⟨Rk.heap.size,0,none⟩,1,1⟩})):=h
def zcH.Kav(h:p:=by
 have HI0:=aa (Dv ha0 H0);have HM0:=aa Pl;clear Bi Ui hit qT hfn hz hS hw hl hh M7 hJ Pk ha0 H0 Pl;have hb2:=aj.then (aj.then (ah w quZ) (ah _ quZ)) (ah _ (.cells (bL [fF]) 9));have h0:=h.later hb2;have HQ:=aa (((aB.new w 27 #[az,au,.bool false,az,az,az,az,az]).alloc quZ).alloc (.cells (bL [fF]) 9));have hL0:=aB.new (w.alloc quZ) 27 #[az,au,.bool false,az,az,az,az,az];rw[World.size_alloc]at hL0;have LE:=aa (hL0.alloc (.cells (bL [fF]) 9));have hS0:=aB.new ((w.alloc quZ).alloc quZ) 9 (bL [fF]);rw[World.size_alloc,World.size_alloc]at hS0;clear hL0;unfold quZ at*;go_enter func134,ntmps134;go_wp2_with fail;refine(mQ ox.ae ρ _ h0 (w.heap.size+2) hS0 WC).mono ?_;rintro e w1 ⟨rfl,d1⟩;have HA:=aa (show PuA sG 48 ρ w w1 l 0 (az) [] [az,au,.bool false,az,az,az,az,az] {} {} from⟨ld.nil sG _ w1 _,(eQ.df h hb2).trans d1,LE.ae.grown d1.grown Tac,HQ.ae.grown d1.grown Tac,Qu.N0 _ _,rfl⟩);clear LE HQ hS0 h0 d1 hb2;go_wp2_with fail;refine(cy ρ w1 _ _ HA.ae.did.at_ ⟨#[42]⟩ iT.ae).mono ?_;rintro e w3 ⟨rfl,d3⟩;have Kl:=aa (HA.ae.FO ei d3);clear d3 HA;go_wp2_with fail;refine Rq (E:=sG) (val:=itV) (T:=48) (q:=3) (d0:=10) (d1:=11) (d2:=12) (d3:=13) (d4:=14) (d5:=15) (d6:=16) (F:=178) 22 22 Kl.ae ei Tad WC (λ w' KK=>HI0.ae ρ w' KK) Taa Taa Taa Taa rfl rfl ?_ ?_ ?_ ?_ ?_ ?_ ?_ underlying22 Hp rfl Tab (λ _=>rfl) (by intro y u hu;replace hu:u∈Uv y:=hu;simp[Uv,bH]at hu;rcases hu with rfl|rfl|rfl|rfl|rfl|rfl|rfl|rfl<;>rfl) ?_;exact Zcm;exact Zcm;exact ZdY;exact Zcm;exact Zfa;exact ZgH;exact ZgF;intro y s v' W A4 cj hxf;obtain⟨⟨A,n,c⟩,BV,MJ,_⟩:=A4.row.sl (B':=w.heap.size) WC;replace BV:v'=.slice A n c:=BV;replace MJ:n=1:=MJ;subst BV;have HI:=aa (show ItC ρ w ((x0,ByteArray.empty)::ys0) (kf::nm::l1) ys0.length (W.setCell ⟨w.heap.size+1,0,none⟩ (.slice A n c)) A n c [(x0,ByteArray.empty)] ys0 (c0::l0)from⟨A4,HM0.ae,rfl,MJ,aE⟩);clear A4 MJ HM0 HI0 Kl;simp only[Act.put,Uac];go_wp2_with fail;clear hxf cj;generalize W.setCell ⟨w.heap.size+1,0,none⟩ (.slice A n c)=W4 at*;generalize hXS:(x0,ByteArray.empty)::ys0=xs at*;have pC:=aa hXS;clear hXS;generalize ys0.length=kk at*;generalize [(x0,ByteArray.empty)]=aCI at*;generalize c0::l0=lc at*;go_loopg [] kk (λ k wr=>∃A n c acc ys l',ItC ρ w xs (kf::nm::l1) k wr A n c acc ys l');case atStart=>exact⟨_,_,_,_,_,_,HI.ae⟩
 case round=>
  obtain⟨Kx,n2,c2,acc,ys,l',hE⟩:=hrel;have hlen:acc.length<=64:=by have:=Nj.ae;rw[<-hE.aO,length_append]at this;omega
  have x0:=hE.at_.blk.cell 0;simp only[Uaa]at x0;have NA:=hE.at_.blk.lt;have HN:=aa hE.len;have HE:=aa hE;have Wv:=aa hlen;clear hE HI hlen;go_wp2_with fail;rcases HE.ae.more with⟨hc⟩|⟨hc,hit⟩
  ·refine(Calls.mono (P:=prog) (by rw[HN.ae];exact Kk hc acc.length Wv.ae ρ wr HE.ae.at_.did.at_) ?_);rintro e w8 ⟨rfl,d8⟩;have hA:=HE.ae.at_.FO ei d8;obtain⟨FP,aoz,hn8,NC⟩:=hA.row.sl (B':=w.heap.size+2) aE;clear hn8;have hax:acc=xs:=by have:=HE.ae.aO;rwa [append_nil]at this
   have WI:=aa (hA.done (m':= {items:=FP}) (d':= {items:=xs}) (by rw[aoz];rfl) {Qu.N0 w8 _ with items:=hax▸NC});clear NC aoz hA d8 hax hc;have YQ:=WI.ae.blk.lt;have bf:=ah w8 (.cells (bL [zb]) 9);have HQF:=aa (WI.ae.later bf);clear HE WI;go_wp2_with fail;refine(mQ HFN.ae ρ _ HQF.ae.did.at_ w8.heap.size (aB.new _ _ _) WC).mono ?_;rintro e w4 ⟨rfl,d4⟩;have Ao:=aa (HQF.ae.FO ei d4);clear HQF d4 bf;go_wp2_with fail;refine(cy ρ _ _ _ Ao.ae.did.at_ ⟨#[111,110,108,121]⟩ HK.ae).mono ?_;rintro e w5 ⟨rfl,d5⟩;have hQ3:=Ao.ae.FO ei d5;have O1:=aa (hQ3.set (m':= {items:=FP}) (d':= {items:=xs}) ei 2 (.bool false) rfl hQ3.at_);have hf2:=hQ3.blk.frozen 2;have hc2:=hQ3.blk.cell 2;clear hQ3 d5 Ao;go_wp2_with fail;clear hf2 hc2;generalize w5.setCell ⟨w.heap.size+1,2,none⟩ (.bool false)=W6 at*;refine(Ds HS.ae HO.ae ρ _ O1.ae.did.at_).mono ?_;rintro e w6 ⟨bU,aoB,rfl,d6⟩;have HF:=aa aoB;clear aoB;have hQ5:=O1.ae.FO ei d6;have Bn:=aa (hQ5.set (m':= {items:=FP,bU:=bU}) (d':= {items:=xs,bU:=bU}) ei 1 (.string bU) rfl {hQ5.at_ with bU:=rfl});have hf1:=hQ5.blk.frozen 1;have hc1:=hQ5.blk.cell 1;clear hQ5 d6 O1;go_wp2_with fail;clear hf1 hc1;generalize w6.setCell ⟨w.heap.size+1,1,none⟩ (.string bU)=W7 at*;refine(O5 (s:=⟨#[119,104,101,114,101]⟩) HL.ae ρ _ Bn.ae.did.at_).mono ?_;rintro e w7 ⟨⟨Hq,Hr,Hs⟩,rfl,hsw,d7⟩;have hs7:=Bn.ae.did.size;have hq7:=Bn.ae.blk.lt;have hQ7:=Bn.ae.FO ei d7;have Kf:=aa (hQ7.set (m':= {items:=FP,bU:=bU,bQ:=⟨Hq,Hr,Hs⟩}) (d':= {items:=xs,bU:=bU,bQ:=bQ}) ei 3 (.slice Hq Hr Hs) rfl {hQ7.at_ with bQ:=El.lies.more hsw WC});have hf3:=hQ7.blk.frozen 3;have hc3:=hQ7.blk.cell 3;clear hQ7 d7 hsw Bn;unfold oG at*;go_upto_if 42 with fail;clear hf3 hc3;generalize w7.setCell ⟨w.heap.size+1,3,none⟩ (.slice Hq Hr Hs)=W8 at*;refine(agA ⟨#[103,114,111,117,112]⟩ l2 ρ _ Kf.ae.did.at_).mono ?_;rintro e w8 ⟨bg,hbg,rfl,d8⟩;have HBG:=aa hbg;have Ut:=aa d8;clear hbg d8;go_upto_if 42 with fail;go_cut [] (λ wx=>∃sg,YT ρ w wx l3 {items:=FP,bU:=bU,bQ:=⟨Hq,Hr,Hs⟩,group:=sg} {items:=xs,bU:=bU,bQ:=bQ,group:=group})
   case first=>
    rcases A1.ae with⟨hg⟩|⟨hk,hb,hc,H⟩
    ·obtain rfl:bg=false:=HBG.ae.trans hg;have HQ9:=aa (Kf.ae.FO ei Ut.ae);clear Ut hg Kf;go_wp2_with fail;go_meet;exact⟨_,HQ9.ae⟩
    obtain rfl:bg=true:=HBG.ae.trans hk;have d8:=Ut.ae;replace hb:=aa hb;replace hc:=aa hc;have HQ9:=aa ((Kf.ae.FO ei d8).later (ah w8 (.cells (bL [QH]) 9)));have hw8:=d8.size;have hs8:=Kf.ae.did.size;clear d8 Ut hk Kf;go_wp2_with fail;refine(mQ hb.ae ρ _ HQ9.ae.did.at_ w8.heap.size (aB.new _ _ _) WC).mono ?_;rintro e w9 ⟨rfl,d9⟩;have zw:=aa (HQ9.ae.FO ei d9);clear d9 HQ9;go_wp2_with fail;refine(WY hc.ae H ρ _ zw.ae.did.at_).mono ?_;rintro e vy ⟨⟨sgA,GF,sgc⟩,rfl,hsg,d10⟩;have Kg:=zw.ae.blk.lt;have Dw:=zw.ae.FO ei d10;have Km:=aa (Dw.set (m':= {items:=FP,bU:=bU,bQ:=⟨Hq,Hr,Hs⟩,group:=⟨sgA,GF,sgc⟩}) (d':= {items:=xs,bU:=bU,bQ:=bQ,group:=[_]}) ei 4 (.slice sgA GF sgc) rfl {Dw.at_ with group:=El.lies.more hsg WC});have hf4:=Dw.blk.frozen 4;have hc4:=Dw.blk.cell 4;clear Dw d10 hsg zw;unfold oG;go_wp2_with fail;go_meet;exact⟨_,Km.ae⟩
   case rest=>
    obtain⟨sg,hQ⟩:=hcut;have HQ9:=aa hQ;clear hQ Kf Ut;go_wp2_with fail;refine(Ho (s:=⟨#[104,97,118,105,110,103]⟩) A2.ae ρ _ HQ9.ae.did.at_).mono ?_;rintro e w11 ⟨⟨ND,NF,NI⟩,rfl,hsh,d11⟩;have aCJ:=HQ9.ae.blk.lt;have Dw:=HQ9.ae.FO ei d11;have Km:=aa (Dw.set (m':= {items:=FP,bU:=bU,bQ:=⟨Hq,Hr,Hs⟩,group:=sg,having:=⟨ND,NF,NI⟩}) (d':= {items:=xs,bU:=bU,bQ:=bQ,group:=group}) ei 5 (.slice ND NF NI) rfl {Dw.at_ with having:=El.lies.more hsh WC});have hf5:=Dw.blk.frozen 5;have hc5:=Dw.blk.cell 5;clear Dw d11 hsh HQ9;unfold oG;go_upto_if 53 with fail;clear hf5 hc5;generalize w11.setCell ⟨w.heap.size+1,5,none⟩ (.slice ND NF NI)=W12 at*;refine(agA ⟨#[111,114,100,101,114]⟩ l3 ρ _ Km.ae.did.at_).mono ?_;rintro e w12 ⟨bo,Dx,rfl,d12⟩;have HBO:=aa Dx;have O7:=aa d12;clear Dx d12;go_upto_if 53 with fail;go_cut [] (λ wx=>∃so,YT ρ w wx l4 {items:=FP,bU:=bU,bQ:=⟨Hq,Hr,Hs⟩,group:=sg,having:=⟨ND,NF,NI⟩,order:=so} {items:=xs,bU:=bU,bQ:=bQ,group:=group,order:=order})
    case first=>
     rcases HJ.ae with⟨hg⟩|⟨hk,hb,hd,hc,H⟩
     ·obtain rfl:bo=false:=HBO.ae.trans hg;have Bq:=aa (Km.ae.FO ei O7.ae);clear O7 hg Km;go_wp2_with fail;go_meet;exact⟨_,Bq.ae⟩
     obtain rfl:bo=true:=HBO.ae.trans hk;have d12:=O7.ae;replace hb:=aa hb;replace hc:=aa hc;have HOD:=aa (Rn hd H);have Bq:=aa ((Km.ae.FO ei d12).later (ah w12 (.cells (bL [QH]) 9)));have aCM:=Km.ae.did.size;have aCN:=d12.size;clear d12 O7 hk hd H Km;go_wp2_with fail;refine(mQ hb.ae ρ _ Bq.ae.did.at_ w12.heap.size (aB.new _ _ _) WC).mono ?_;rintro e LG ⟨rfl,d13⟩;have O8:=Bq.ae.FO ei d13;have HP:=aa (show PuA tP 117 ρ w LG _ 6 (az) [] _ {items:=FP,bU:=bU,bQ:=⟨Hq,Hr,Hs⟩,group:=sg,having:=⟨ND,NF,NI⟩} {items:=xs,bU:=bU,bQ:=bQ,group:=group} from⟨ld.nil tP _ LG _,O8.did,O8.blk,O8.res,Qu.at_.keep (λ b hb=>⟨λ _=>rfl,hb.1,hb.2,by simp[Value.ownBlock]⟩) O8.at_,rfl⟩);clear O8 d13 Bq;go_wp2_with fail;refine Rq (E:=tP) (val:=orV) (T:=117) (q:=3) (d0:=57) (d1:=58) (d2:=59) (d3:=60) (d4:=61) (d5:=62) (d6:=63) (F:=180) 24 24 HP.ae ei Tad WC (λ w' KK=>HOD.ae ρ w' KK) Taa Taa Taa Taa rfl rfl ?_ ?_ ?_ ?_ ?_ ?_ ?_ underlying24 Rp rfl Tab (λ _=>rfl) (by intro y u hu;replace hu:u∈N8 y:=hu;simp[N8,bH]at hu;rcases hu with rfl|rfl|rfl|rfl|rfl|rfl|rfl|rfl<;>rfl) ?_;exact Zcm;exact Zcm;exact ZdY;exact Zcm;exact Zfa
     ·intro ρ' w' y' h';show _=Result.ok _ (w'.alloc (.cells (N8 y').toArray _));simp[go_sem,h',orV,N8,bH]
     exact ZgF;intro y s v' W A4 cj hxf;obtain⟨⟨A,n,c⟩,BV,MJ,NC⟩:=A4.row.sl (B':=w.heap.size+2) aE;replace BV:v'=.slice A n c:=BV;replace MJ:n=1:=MJ;subst BV MJ;have adK:=aa (A4.done (m':= {items:=FP,bU:=bU,bQ:=⟨Hq,Hr,Hs⟩,group:=sg,having:=⟨ND,NF,NI⟩,order:=⟨A,1,c⟩}) (d':= {items:=xs,bU:=bU,bQ:=bQ,group:=group,order:=[_]}) rfl {Qu.at_.keep (Nw aE) A4.at_ with order:=NC});clear A4 NC HP HOD;simp only[Act.put,Uac];go_wp2_with fail;clear hxf cj;generalize avn:W.setCell ⟨w.heap.size+1,6,none⟩ (.slice A 1 c)=W16 at*;clear avn;go_loopg [] 0 (λ k wr=>wr=W16);case atStart=>exact rfl
     case round=>subst hrel;have x6:=adK.ae.blk.cell 6;unfold Nr oG at x6;simp only[Uaa]at x6;go_wp2_with fail;refine(Kk hc.ae 1 WC ρ _ adK.ae.did.at_).mono ?_;rintro e w17 ⟨rfl,d17⟩;have avo:=aa (adK.ae.FO ei d17);clear d17 adK;go_wp2_with fail;go_meet;exact⟨_,avo.ae⟩
    case rest=>
     obtain⟨so,hQ⟩:=hcut;have Bq:=aa hQ;clear hQ Km O7;go_wp2_with fail;rcases pE.ae with⟨hg⟩|⟨hk,hn⟩
     refine(cy ρ _ _ _ Bq.ae.did.at_ ⟨#[108,105,109,105,116]⟩ hg).mono ?_;rintro e Rk ⟨rfl,d14⟩;have Ly:=aa (Bq.ae.FO ei d14);clear d14 hg Bq;open zh6 in exact ZgK
     refine(oZ ρ _ _ _ Bq.ae.did.at_ ⟨#[108,105,109,105,116]⟩ hk).mono ?_;rintro e LG ⟨rfl,d13⟩;have adL:=aa (Bq.ae.FO ei d13);replace hn:=aa hn;clear d13 hk Bq;go_wp2_with fail;refine(Ni hn.ae ρ _ adL.ae.did.at_).mono ?_;rintro e Rk ⟨k,hk,YK,Lw,rfl,d14⟩;replace hk:=aa hk;have b15:=ah Rk (.cells #[af k] 2);have O9:=(adL.ae.FO ei d14).later b15;have aon:=(adL.ae.FO ei d14).blk.lt;have hf7:=O9.blk.frozen 7;have hc7:=O9.blk.cell 7;have Ly:=aa (O9.set (m':= {items:=FP,bU:=bU,bQ:=⟨Hq,Hr,Hs⟩,group:=sg,having:=⟨ND,NF,NI⟩,order:=so,dA:=⟨some ⟨Rk.heap.size,0,none⟩,1,1⟩}) (d':= {items:=xs,bU:=bU,bQ:=bQ,group:=group,order:=order,dA:=[k]}) ei 7 (aL Rk.heap.size 1 1) rfl {O9.at_ with dA:=adI (aB.new Rk _ _) ⟨by omega,by simp⟩});clear O9 d14 b15 aon adL;open zh7 in exact ZgK
  obtain⟨x9,ys9,c9,l9,rfl,H9,ha9,hm9⟩:=hit.first;refine(Calls.mono (P:=prog) (by rw[HN.ae];exact O0 hc acc.length Wv.ae ρ wr HE.ae.at_.did.at_) ?_);rintro e w8 ⟨rfl,d8⟩;have HI9:=aa (Dv ha9 H9);have HM9:=aa hm9;have HA8:=aa (HE.ae.at_.FO ei d8);clear d8 hc hit H9 ha9 hm9;go_wp2_with fail;refine Rq (E:=sG) (val:=itV) (T:=48) (q:=3) (d0:=22) (d1:=23) (d2:=24) (d3:=25) (d4:=26) (d5:=27) (d6:=28) (F:=178) 22 22 HA8.ae ei Wv.ae WC (λ w' KK=>HI9.ae ρ w' KK) Taa Taa Taa Taa rfl rfl ?_ ?_ ?_ ?_ ?_ ?_ ?_ underlying22 Hp rfl Tab (λ _=>rfl) (by intro y u hu;replace hu:u∈Uv y:=hu;simp[Uv,bH]at hu;rcases hu with rfl|rfl|rfl|rfl|rfl|rfl|rfl|rfl<;>rfl) ?_;exact Zcm;exact Zcm;exact ZdY;exact Zcm;exact Zfa;exact ZgH;exact ZgF;intro y s v' W A4 cj hxf;obtain⟨⟨A9,n9,c10⟩,BV,MJ,_⟩:=A4.row.sl (B':=w.heap.size) WC;replace BV:v'=.slice A9 n9 c10:=BV;subst BV;have HI9:=aa (show ItC ρ w xs (kf::nm::l1) ys9.length (W.setCell ⟨w.heap.size+1,0,none⟩ (.slice A9 n9 c10)) A9 n9 c10 (acc++[(x9,ByteArray.empty)]) ys9 (c9::l9)from⟨A4,HM9.ae,by rw[append_assoc];exact HE.ae.aO,MJ,aE⟩);clear A4 MJ;simp only[Act.put,Uac];go_wp2_with fail;go_roundg ys9.length;case measure=>have:=HE.ae.le;rw[length_cons]at this;omega
  case rel=>exact⟨_,_,_,_,_,_,HI9.ae⟩):=h
theorem BX{bQ group:List Tr}{order:List (Tr×Bool)}(Bi:ju fF k0=true)(Ui:dL ze l=false)(hit:vB l xs (kf::nm::l1))(qT:xs.length<=64)(hfn:ju zb kf=true)(hz:ju aiu nm=false)(hS:nm.k=1)(hw:uq nm.s=false)(hl:adJ JQ l1 bQ l2)(hh:aiU l2 group l3)(M7:dL G5 l3=false)(hJ:aiV l3 order l4)(Pk:aiW l4 lim r)(ρ:dx)(w:t_)(h:ρ.at w (.good (k0::l)) false):
  ar 134 #[ρ.ptr] w λ e w'=>∃y:zy,e=.returned (quV y)/\Qu.at_ w' (jM w.heap.size w') {items:=xs,bU:=⟨nm.s.toArray⟩,bQ:=bQ,group:=group,order:=order,dA:=lim} y/\eQ ρ w w' (.good r) false:=by
 have ei:=h.Hk;obtain⟨x0,ys0,c0,l0,rfl,H0,ha0,Pl⟩:=hit.first
 open zcH in exact Zbf
end Go.Proofs.YtndgjggokjickaaGreatDoor.R
namespace Go.Proofs.YtndgjggokjickaaGreatDoor
open _root_.Go.Proofs.Tryz
set_option maxHeartbeats 90000000
set_option maxRecDepth 100000
open Go.ChangeShapes Go.WideShapes Go.ChangeAt Go.RowKit List
set_option linter.unusedVariables false
set_option linter.unusedSimpArgs false
theorem vo(y:Ex):(bH y).length=7:=rfl
theorem NJ(b o j:Nat):(Addr.add ⟨b,o,none⟩ j)=⟨b,o+j,none⟩:=by unfold Addr.add;split<;>simp_all
variable{α:Type}{f:α->xr}
theorem Dy{size:Nat}(hf:∀x,(f x).length=size)(h0:0<size):∀(l:List α) (j:Nat) (u:Value),(l.flatMap f)[j]?=some u->∃k r x,j=k*size+r/\r<size/\l[k]?=some x/\(f x)[r]?=some u
 |[],j,u,h=>by simp at h
 |y::l,j,u,h=>by rw[flatMap_cons]at h;by_cases hj:j<size;rw[getElem?_append_left (by rw[hf];exact hj)]at h;exact⟨0,j,y,by omega,hj,rfl,h⟩;rw[getElem?_append_right (by rw[hf];omega),hf]at h;obtain⟨k,r,x,h1,hr,h2,h3⟩:=Dy hf h0 l _ u h;exact⟨k+1,r,x,by rw[Nat.succ_mul];omega,hr,by simpa using h2,h3⟩
theorem agC:∀ys:v_,(ys.flatMap bH).length=ys.length*7
 |[]=>rfl
 |y::ys=>by rw[flatMap_cons,length_append,agC ys,vo,length_cons];omega
variable{w:t_}{r:Nat}{x:Ex}{u:Value}
theorem adM{b off:Nat}(h:cC w b off x)(hr:r<7)(hu:(bH x)[r]?=some u):w.cell? ⟨b,off+r,none⟩=some u:=by
 unfold cC at h;obtain⟨c0,c1,c2,c3,c4,c5,c6⟩:=h;unfold bH at hu
 match r,hr with
 |0,_=>rw[<-hu];exact c0
 |1,_=>rw[<-hu];exact c1
 |2,_=>rw[<-hu];exact c2
 |3,_=>rw[<-hu];exact c3
 |4,_=>rw[<-hu];exact c4
 |5,_=>rw[<-hu];exact c5
 |6,_=>rw[<-hu];exact c6
variable{B:Nat}
theorem RE.reads{A:xP}{ys:v_}(h:RE w B A ys):Reads w B 7 A ys.length (ys.flatMap bH):=by refine⟨agC ys,λ hn=>?_⟩;rcases h with h|⟨b,off,hA,hb,hc⟩;subst h;simp at hn;refine⟨⟨b,off,none⟩,hA,hb,λ j u hu=>?_⟩;obtain⟨k,r,x,rfl,hr,h2,h3⟩:=Dy vo WC ys j u hu;rw[NJ,<-Nat.add_assoc];exact adM (hc k x h2) hr h3
theorem Rs:∀(ys:v_),∀u∈ys.flatMap bH,u.oneCell'=true:=by intro ys u hu;obtain⟨y,_,hu⟩:=List.mem_flatMap.1 hu;simp[bH]at hu;rcases hu with rfl|rfl|rfl|rfl|rfl|rfl|rfl<;>rfl
structure uM where
 A:xP
 c:Nat
 ys:v_
def RL(w:t_)(B:Nat)(P:xP)(l:List uM):Prop:=∃b off,P=some ⟨b,off,none⟩/\b<B/\∀i x,l[i]?=some x->w.cell? ⟨b,off+i,none⟩=some (.slice x.A x.ys.length x.c)/\RE w B x.A x.ys
variable{w':t_}{P:xP}{l:List uM}
theorem RL.later(h:RL w w.heap.size P l)(hb:ai w w'):RL w' w'.heap.size P l:=by obtain⟨b,off,h1,h2,h3⟩:=h;exact⟨b,off,h1,eS h2 hb.size,λ i x hx=>⟨(hb.cell (p:=⟨b,off+i,none⟩) h2).trans (h3 i x hx).1,(h3 i x hx).2.later hb⟩⟩
def mh(l:List uM):Nat:=(l.map λ x=>x.ys.length).sum
theorem Ht(l:List uM)(x:uM):mh (l++[x])=mh l+x.ys.length:=by simp[mh]
theorem Hu(l:List uM)(k:Nat):mh (l.take k)<=mh l:=by
 have:mh l=mh (l.take k)+mh (l.drop k):=by unfold mh;rw[<-sum_append_nat,<-map_append,take_append_drop]
 omega
theorem vC(P:xP)(c:Nat)(l:List uM)(w:t_)(hn:l.length<=1000)(hl:mh l<=1000000)(Kx:RL w w.heap.size P l):
  ar 35 #[.slice P l.length c] w λ e w'=>∃v,e=.returned v/\aH bH 46 7 w' w.heap.size v (l.flatMap uM.ys)/\ai w w':=by
 have HR:=aa Kx;have Bh:=aa hl;clear Kx hl;go_enter func35,ntmps35;go_wp2_with fail;go_loop [3,11] (λ s KK=>∃i:Nat,i<=l.length/\KK=af i/\s=af (mh (l.take i):Nat)) (λ _ KK=>l.length-(intOf KK).toNat);case atStart=>exact⟨0,gE,rfl,rfl⟩
 case round=>
  obtain⟨i,hk,rfl,rfl⟩:=hrel;by_cases hlt:i<l.length
  ·obtain⟨b,off,rfl,hb,hc⟩:=id HR.ae;have hx:=(hc i l[i] (getElem?_eq_getElem hlt)).1;have nx:=aa (show mh (l.take (i+1))=mh (l.take i)+l[i].ys.length by rw[take_add_one,getElem?_eq_getElem hlt];exact Ht _ _);have h1:=Hu l (i+1);have h2:=nx.ae;have h3:=Bh.ae;generalize l[i]=x at*;have h4:mh (l.take i)+x.ys.length<=1000000:=by omega
   generalize mh (l.take i)=s0 at*;have t1:decide ((s0:Int)+(x.ys.length:Int)< 0)=false:=decide_eq_false WC;clear hc h1 h2 h3;go_wp2_with fail;go_round;case rel=>exact⟨i+1,hlt,by go_num,by rw[nx.ae];simp⟩
   case measure=>exact Za2
  have fX:i=l.length:=by omega
  subst fX;have mC:mh (l.take l.length)=mh l:=by rw[take_length]
  rw[mC];have hgr:=F9 (mh l) Bh.ae w;have cb:=aa hgr;clear hgr mC hlt hk;go_wp2_with fail;refine cb.ae.mono ?_;rintro e w1 ⟨v1,rfl,hR,XW⟩;have zB:=aa hR;have IH:=aa XW;clear hR XW cb;go_wp2_with fail;go_loopw [6,27] (λ v KK wr=>∃i:Nat,i<=l.length/\KK=af i/\aH bH 46 7 wr w.heap.size v ((l.take i).flatMap uM.ys)/\ai w wr) (λ _ KK _=>l.length-(intOf KK).toNat);case atStart=>exact⟨0,gE,rfl,zB.ae,IH.ae⟩
  case round=>
   clear zB IH;obtain⟨i,hk,rfl,hp,hb⟩:=hrel;have HP:=aa hp;clear hp;by_cases hlt:i<l.length
   ·have hRL:=HR.ae.later hb;obtain⟨b,off,rfl,ly,hc⟩:=hRL;have hx:=hc i l[i] (getElem?_eq_getElem hlt);have nx:=aa (show(l.take (i+1)).flatMap uM.ys=(l.take i).flatMap uM.ys++l[i].ys by rw[take_add_one,getElem?_eq_getElem hlt,flatMap_append];simp)
    have hle:((l.take i).flatMap uM.ys).length+l[i].ys.length<=1000000:=by
     have h1:=Hu l (i+1);have h2:mh (l.take (i+1))=mh (l.take i)+l[i].ys.length:=by rw[take_add_one,getElem?_eq_getElem hlt];exact Ht _ _
     have h3:=Bh.ae;have h4:((l.take i).flatMap uM.ys).length=mh (l.take i):=by rw[length_flatMap];rfl
     omega
    generalize l[i]=x at*;generalize (l.take i).flatMap uM.ys=ys at*;obtain⟨hx1,hx2⟩:=hx;have HRD:=aa hx2.reads;have hbase:=hb.size;clear hc hx2;obtain⟨i0,kB,hg4,pD,HZ⟩:=info_parts gh;have HI:=aa kB;have LI:=aa hg4;have Ie:=aa pD;have uv:=aa HZ;clear kB hg4 pD HZ;go_wp2_with (first
     |(at_builtin
       refine cN wr rfl (.tmp 31) (.tmp 32) 23 rfl w.heap.size 46 i0 _ 7 88 underlying23 HI.ae LI.ae Ie.ae uv.ae rfl WC _ ys.length (ys.flatMap bH) rfl HP.ae wr.heap.size x.A x.ys.length x.c (x.ys.flatMap bH) rfl HRD.ae (Rs _) Tam WC hbase ?_;intro v4 w4 o4 g4 _;have b4:=bj HP.ae g4 hbase;have O4:=aa o4;clear o4 g4 HP))
    go_roundw;case rel=>refine⟨i+1,hlt,by go_num,?_,hb.trans b4⟩;rw[nx.ae];unfold aH;rw[length_append,flatMap_append];exact O4.ae
    case measure=>exact Za2
   have fX:i=l.length:=by omega
   subst fX;rw[take_length]at HP;go_wp2_with fail;go_ret;exact⟨_,rfl,HP.ae,hb⟩
end Go.Proofs.YtndgjggokjickaaGreatDoor
namespace Go.Proofs.YtndgjggokjickaaGreatDoor.R
open _root_.Go.Proofs.Tryz
set_option maxHeartbeats 90000000
set_option maxRecDepth 100000
open Go.ChangeShapes Go.WideShapes Go.ChangeAt Go.RowKit List
set_option linter.unusedVariables false
set_option linter.unusedSimpArgs false
theorem tY(m:N3):(tX m).toArray.size=28:=rfl
theorem Rt(m:N3):(tX m).toArray.all (·.oneCell')=true:=by simp[tX,Nr,N6,oG,Value.oneCell']
theorem qB:(prog.info? 64).map (·.size)=some 28:=by exact Zhr
section
variable{w wr wr':t_}{S:Nat->Prop}{v v':Value}{acc l:List Tr}{B:Nat}
end
section
variable{P:Program}{J:xr->t_->Prop}{w0:t_}{Q:y_}{a0:Act}{id:Nat}{o0 o1 o2 o3 o4 o5 o6 o7 o8 o9 rJ:Oper}{q s d0 d1 d2 d3 d4 d5 d6 d7 d8 d9:Tmp}{pq v0 p1 p2 p3 s1 s2 s3:Value}{A1 A2 A3:Addr}
end
end Go.Proofs.YtndgjggokjickaaGreatDoor.R
namespace Go.Proofs.YtndgjggokjickaaGreatDoor
open _root_.Go.Proofs.Tryz
open List
set_option maxHeartbeats 90000000
set_option maxRecDepth 100000
open Go.RowKit
set_option linter.unusedVariables false
def P0(o0 o1 o2 o3 o4 o5 o6 o7 o8 o9:Oper)(q s d0 d1 d2 d3 d4 d5 d6 d7 d8 d9:Tmp):Bool:=
 (tmpsOf o0== [s])&&(cY [o0,o1,o2,o3,o4,o5,o6,o7,o8,o9] o0 s==none)&&(tmpsOf o1== [q])&&(cY [o0,o1,o2,o3,o4,o5,o6,o7,o8,o9] o1 q==none)&&(tmpsOf o2== [d1])&&(cY [o0,o1,o2,o3,o4,o5,o6,o7,o8,o9] o2 d1==some 1)&&(tmpsOf o3== [d0,d2])&&(cY [o0,o1,o2,o3,o4,o5,o6,o7,o8,o9] o3 d0==some 0)&&(cY [o0,o1,o2,o3,o4,o5,o6,o7,o8,o9] o3 d2==some 2)&&(tmpsOf o4== [q])&&(cY [o0,o1,o2,o3,o4,o5,o6,o7,o8,o9] o4 q==none)&&(tmpsOf o5== [d4])&&(cY [o0,o1,o2,o3,o4,o5,o6,o7,o8,o9] o5 d4==some 4)&&(tmpsOf o6== [d3,d5])&&(cY [o0,o1,o2,o3,o4,o5,o6,o7,o8,o9] o6 d3==some 3)&&(cY [o0,o1,o2,o3,o4,o5,o6,o7,o8,o9] o6 d5==some 5)&&(tmpsOf o7== [q])&&(cY [o0,o1,o2,o3,o4,o5,o6,o7,o8,o9] o7 q==none)&&(tmpsOf o8== [d7])&&(cY [o0,o1,o2,o3,o4,o5,o6,o7,o8,o9] o8 d7==some 7)&&(tmpsOf o9== [d6,d8])&&(cY [o0,o1,o2,o3,o4,o5,o6,o7,o8,o9] o9 d6==some 6)&&(cY [o0,o1,o2,o3,o4,o5,o6,o7,o8,o9] o9 d8==some 8)&&(o0.dst==some d0)&&(o1.dst==some d1)&&(o2.dst==some d2)&&(o3.dst==some d3)&&(o4.dst==some d4)&&(o5.dst==some d5)&&(o6.dst==some d6)&&(o7.dst==some d7)&&(o8.dst==some d8)&&(o9.dst==some d9)&&o0.guard.isNone&&o1.guard.isNone&&o2.guard.isNone&&o3.guard.isNone&&o4.guard.isNone&&o5.guard.isNone&&o6.guard.isNone&&o7.guard.isNone&&o8.guard.isNone&&o9.guard.isNone
section
variable{P:Program}{J:xr->t_->Prop}{w0:t_}{Q:y_}{a0:Act}{id:Nat}{o0 o1 o2 o3 o4 o5 o6 o7 o8 o9 rJ:Oper}{q s d0 d1 d2 d3 d4 d5 d6 d7 d8 d9:Tmp}{pq v0 p1 p2 p3 s1 s2 s3:Value}{A1 A2 A3:Addr}
theorem NK(t:TypeId)
  (oJ:∀vs w,J vs w->J vs w.drew) (hJ:J [] w0)
  (hm:P.follows .mixedOrders=true) (bc:dC [o0,o1,o2,o3,o4,o5,o6,o7,o8,o9] a0.tmps.size [o0,o1,o2,o3,o4,o5,o6,o7,o8,o9] 0=true) (hz:eD ([o0,o1,o2,o3,o4,o5,o6,o7,o8,o9]++[rJ]) [rJ] 10=true) (hch:lZ [o0,o1,o2,o3,o4,o5,o6,o7,o8,o9] [3,6,9]=true) (Dn:P0 o0 o1 o2 o3 o4 o5 o6 o7 o8 o9 q s d0 d1 d2 d3 d4 d5 d6 d7 d8 d9=true)
  (hq:a0.eval (.tmp q)=pq) (h0:a0.eval (.tmp s)=v0)
  (FM:∀ρ w,ρ (.tmp s)=v0->(execOp ρ o0).run P w=.ok (.value v0) w)
  (hfa:∀ρ w,ρ (.tmp q)=pq->(execOp ρ o1).run P w=.ok (.value p1) w) (L1:∀ρ w,ρ (.tmp q)=pq->(execOp ρ o4).run P w=.ok (.value p2) w) (hf3:∀ρ w,ρ (.tmp q)=pq->(execOp ρ o7).run P w=.ok (.value p3) w)
  (Kx:∀vs w,J vs w->w.cell? A1=some s1/\w.cell? A2=some s2/\w.cell? A3=some s3)
  (fI:∀ρ w,ρ (.tmp d1)=p1->w.cell? A1=some s1->(execOp ρ o2).run P w=.ok (.value s1) w) (hl2:∀ρ w,ρ (.tmp d4)=p2->w.cell? A2=some s2->(execOp ρ o5).run P w=.ok (.value s2) w) (uW:∀ρ w,ρ (.tmp d7)=p3->w.cell? A3=some s3->(execOp ρ o8).run P w=.ok (.value s3) w)
  (avs:∀ρ w v x v' w',ρ (.tmp d0)=v->ρ (.tmp d2)=x->(Builtin.append_ #[t,t] t #[v,x]).run P w=.ok v' w'->(execOp ρ o3).run P w=.ok (.value v') w')
  (avt:∀ρ w v x v' w',ρ (.tmp d3)=v->ρ (.tmp d5)=x->(Builtin.append_ #[t,t] t #[v,x]).run P w=.ok v' w'->(execOp ρ o6).run P w=.ok (.value v') w')
  (avu:∀ρ w v x v' w',ρ (.tmp d6)=v->ρ (.tmp d8)=x->(Builtin.append_ #[t,t] t #[v,x]).run P w=.ok v' w'->(execOp ρ o9).run P w=.ok (.value v') w')
  (ha1:∀w,J [] w->∃v' w',(Builtin.append_ #[t,t] t #[v0,s1]).run P w=.ok v' w'/\J [v'] w')
  (ha2:∀a w,J [a] w->∃v' w',(Builtin.append_ #[t,t] t #[a,s2]).run P w=.ok v' w'/\J [a,v'] w')
  (ha3:∀a b w,J [a,b] w->∃v' w',(Builtin.append_ #[t,t] t #[b,s3]).run P w=.ok v' w'/\J [a,b,v'] w')
  (mO:∀a b c W,J [a,b,c] W->wpList P [o0,o1,o2,o3,o4,o5,o6,o7,o8,o9,rJ].toArray Q [rJ] ((((((((((a0.put (some d0) v0).put (some d1) p1).put (some d2) s1).put (some d3) a).put (some d4) p2).put (some d5) s2).put (some d6) b).put (some d7) p3).put (some d8) s3).put (some d9) c) W):
  (Code.region id [o0,o1,o2,o3,o4,o5,o6,o7,o8,o9,rJ].toArray true).wp P Q a0 w0:=by
 simp only[P0,Bool.and_eq_true,beq_iff_eq,Option.isNone_iff_eq_none]at Dn;obtain⟨⟨⟨⟨⟨⟨⟨⟨⟨⟨⟨⟨⟨⟨⟨⟨⟨⟨⟨⟨⟨⟨⟨⟨⟨⟨⟨⟨⟨⟨⟨⟨⟨⟨⟨⟨⟨⟨⟨⟨⟨⟨t2,m0⟩,t0⟩,s0⟩,t1⟩,m2⟩,t3⟩,m3⟩,m3'⟩,t6⟩,s6⟩,t4⟩,s4⟩,Lw⟩,m6⟩,m6'⟩,t7⟩,m7⟩,t8⟩,m8⟩,t9⟩,m9⟩,s5'⟩,e0⟩,e1⟩,e2⟩,e3⟩,e4⟩,e5⟩,e6⟩,e7⟩,e8⟩,e9⟩,g2⟩,g0⟩,LT⟩,g3⟩,g6⟩,Ly⟩,g4⟩,g7⟩,g8⟩,g5⟩:=Dn;refine pS [rJ] [o0,o1,o2,o3,o4,o5,o6,o7,o8,o9] rfl (λ i=>if i=0 then v0 else if i=1 then p1 else if i=2 then s1 else if i=4 then p2 else if i=5 then s2 else if i=7 then p3 else s3) [3,6,9] J oJ hJ hm bc hz hch Tab rfl ?_ ?_
 ·refine⟨ZdO,ZdM,?_,?_,ZdP,?_,?_,?_,?_,?_,trivial⟩
  ·intro ρ w vs hc hG hr;rw[t1]at hr;have r0:=hr.1;simp only[m2]at r0;exact⟨LT,fI ρ w r0 (Kx _ _ hG).1⟩
  intro ρ w vs hc hG hr;rw[t3]at hr;have r0:=hr.1;simp only[m3]at r0;have r1:=hr.2.1;simp only[m3']at r1;refine⟨g3,?_⟩;show vs.length=0->_;intro hl;obtain rfl:=eq_nil_of_length_eq_zero hl;obtain⟨v',w',hrun,hj⟩:=ha1 w hG;exact aq (avs ρ w _ _ v' w' r0 r1 hrun) hj;intro ρ w vs hc hG hr;rw[t4]at hr;have r0:=hr.1;simp only[s4]at r0;exact⟨Ly,hl2 ρ w r0 (Kx _ _ hG).2.1⟩
  ·intro ρ w vs hc hG hr;rw[Lw]at hr;have r0:=hr.1;simp only[m6]at r0;have r1:=hr.2.1;simp only[m6']at r1;refine⟨g4,?_⟩;show vs.length=1->_;intro hl
   match vs,hl with
   |[a],_=>have r0:some a=some (ρ (.tmp d3)):=r0;injection r0 with r0;obtain⟨v',w',hrun,hj⟩:=ha2 a w hG;exact aq (avt ρ w _ _ v' w' r0.symm r1 hrun) hj
  intro ρ w vs hc hG hr;rw[t7]at hr;have r0:=hr.1;simp only[m7]at r0;exact⟨g7,hf3 ρ w (r0.trans hq)⟩;intro ρ w vs hc hG hr;rw[t8]at hr;have r0:=hr.1;simp only[m8]at r0;exact⟨g8,uW ρ w r0 (Kx _ _ hG).2.2⟩;intro ρ w vs hc hG hr;rw[t9]at hr;have r0:=hr.1;simp only[m9]at r0;have r1:=hr.2.1;simp only[s5']at r1;refine⟨g5,?_⟩;show vs.length=2->_;intro hl
  match vs,hl with
  |[a,b],_=>have r0:some b=some (ρ (.tmp d6)):=r0;injection r0 with r0;obtain⟨v',w',hrun,hj⟩:=ha3 a b w hG;exact aq (avu ρ w _ _ v' w' r0.symm r1 hrun) hj
 intro vs w hl hG
 match vs,hl with
 |[a,b,c],_=>simp only[bw,e0,e1,e2,e3,e4,e5,e6,e7,e8,e9];intro a0' z0 a1 z1 a2 z2 a3 z3 a4 LE a5 KK a6 z4 a7 z7 a8 z8 a9 z5;have z0:a0'=v0:=z0;have z1:a1=p1:=z1;have z2:a2=s1:=z2;have z3:some a=some a3:=z3;have LE:a4=p2:=LE;have KK:a5=s2:=KK;have z4:some b=some a6:=z4;have z7:a7=p3:=z7;have z8:a8=s3:=z8;have z5:some c=some a9:=z5;injection z3 with z3;injection z4 with z4;injection z5 with z5;rw[z0,z1,z2,<-z3,LE,KK,<-z4,z7,z8,<-z5];exact mO a b c w hG
end
end Go.Proofs.YtndgjggokjickaaGreatDoor
namespace Go.Proofs.YtndgjggokjickaaGreatDoor.R
open _root_.Go.Proofs.Tryz
set_option maxHeartbeats 90000000
set_option maxRecDepth 100000
open Go.ChangeShapes Go.WideShapes Go.ChangeAt Go.RowKit List
set_option linter.unusedVariables false
set_option linter.unusedSimpArgs false
def st0:x_:=(tX {}).toArray
section
variable{ρ:dx}{w wr w2:t_}{big:Bool}{P:Ps St}{σ Al:cw}{q b:Nat}{m:N3}{d:St}
end
section
variable{ρ:dx}{w wr w2:t_}{big:Bool}{P:Ps St}{σ Al:cw}{q b:Nat}{m:N3}{d:St}
end
theorem Hv(w:t_)(q:Nat)(cs:x_):w.grownBy (w.setRow q cs) (some q):=
 ⟨rfl,rfl,rfl,by simp,λ i hi hne=>setRow_other w q i cs (λ e=>hne Ta5)⟩
variable{B q:Nat}
theorem Uz(w:t_)(hq:q<B)(cs:x_):∀b,jM B w b->(∀o,(w.setRow q cs).cell? ⟨b,o,none⟩=w.cell? ⟨b,o,none⟩)/\jM B (w.setRow q cs) b:=λ b hb=>
 ⟨cell_of_heap (setRow_other w q b cs (by have:=hb.1;omega)),hb.1,by rw[size_setRow];exact hb.2⟩
variable{w:t_}{T:TypeId}{old:x_}
theorem _root_.Go.Proofs.YtndgjggokjickaaGreatDoor.aB.row(h:aB w q T old)(cs:x_):aB (w.setRow q cs) q T cs:=setRow_heap w q old cs T (0,0) h
theorem _root_.Go.Proofs.YtndgjggokjickaaGreatDoor.aB.adO{b:Nat}(h:aB w b T old)(hq:b≠q)(cs:x_):aB (w.setRow q cs) b T old:=(setRow_other w q b cs hq).trans h
variable{P:Program}{fn:Func}{u v:Tmp}{ty:TypeId}
theorem Kn{p:Tmp}(h:fn.results= #[.cell p ty,.tmp u,.tmp v])(tmps:x_)(w:t_)(g:Nat)(t:TypeId)(cs:x_)(fr:Nat×Nat)(d:TypeDesc)(x y:Value)
  (hp:tmps.getD p undef=aw g) (hg:w.heap[g]?=some (.cells cs t fr))
  (hu:P.underlying ty=some d) (hd:(match d with|.struct _|.array _ _=>true|_=>false)=true) (hi:(P.info? ty).map (·.size)=some cs.size) (hx:tmps.getD u undef=x) (hy:tmps.getD v undef=y):
  (results fn tmps).run P w=.ok (.tuple #[.agg cs,x,y]) w:=by
 have hp':tmps[p]?.getD undef=aw g:=by simpa using hp
 have hx':tmps[u]?.getD undef=x:=by simpa using hx
 have hy':tmps[v]?.getD undef=y:=by simpa using hy
 simp[results,h,hp',hx',hy',asAddr,Sem.run_bind,run_loadVar_row w g t ty cs fr d hg hu hd hi,Result.andThen]
variable{ρ:dx}{W:t_}{σ:cw}{big:Bool}
theorem eQ.row(h:eQ ρ W w σ big)(hW:ρ.g<W.heap.size)(hq:W.heap.size<=q)(cs:x_):eQ ρ W (w.setRow q cs) σ big:=
 h.own hW (Hv w q cs) (λ G e=>by injection e with e;omega)
variable{l:List sB}
theorem dx.start{gl c:Nat}(Br:gl<w.heap.size)(hc:∀k t,l[k]?=some t->w.cell? ⟨gl,k*4,none⟩=some (ag t.w.k)/\w.cell? ⟨gl,k*4+1,none⟩=some (.string ⟨t.w.s.toArray⟩)/\w.cell? ⟨gl,k*4+2,none⟩=some (af t.w.n)/\w.cell? ⟨gl,k*4+3,none⟩=some (af t.p))
  (he:Ah (l.map (·.w))) (hlen:l.length<=4097) (hwd:∀t∈l,adG t.w):
  (⟨w.heap.size,gl,c,l⟩:dx).at (w.alloc (.cells #[aL gl l.length c,af 0,af (-1),.bool false] 169)) (.good (l.map (·.w))) false:=by
 have hb:=aB.new w 169 #[aL gl l.length c,af 0,af (-1),.bool false];refine⟨?_,Br,?_,⟨suffix_refl _,he⟩,?_,λ t ht=>(hwd t ht).1⟩
 ·have e:(⟨w.heap.size,gl,c,l⟩:dx).cells (.good (l.map (·.w))) false= #[aL gl l.length c,af 0,af (-1),.bool false]:=by simp[dx.cells,dx.n,dx.bad,cw.left]
  rw[e];exact hb
 ·intro k t hk;have c:=λ o=>World.cell?_alloc_lt w (.cells #[aL gl l.length c,af 0,af (-1),.bool false] 169) ⟨gl,o,none⟩ Br
  obtain⟨h1,h2,h3,h4⟩:=hc k t hk;exact⟨(c _).trans h1,(c _).trans h2,(c _).trans h3,(c _).trans h4⟩
 show l.length<=5000;omega
theorem NL(w:t_)(o:Obj)(cs:x_):∀b,jM B w b->(∀i,((w.alloc o).setRow w.heap.size cs).cell? ⟨b,i,none⟩=w.cell? ⟨b,i,none⟩)/\jM B ((w.alloc o).setRow w.heap.size cs) b:=λ b hb=>
 ⟨cell_of_heap ((setRow_other _ w.heap.size b cs (by have:=hb.2;omega)).trans (Below.heap_alloc w o b hb.2)),hb.1,by rw[size_setRow];have:=hb.2;simp;omega⟩
section
variable{t:Wd}{r:dI}
end
section
variable{α:Type}{E:El α}{T:TypeId}{lng:α->Bool}{el:Ps α}{ρ:dx}{w wr w8:t_}{big bg:Bool}{P:Ps St}{σ0 σ Al:cw}{q b i k:Nat}{m:N3}{d:St}{w1 gU w2 W:t_}{y:E.β}{v v':Value}{acc:List α}{cs:x_}
end
end Go.Proofs.YtndgjggokjickaaGreatDoor.R
namespace Go.Proofs.YtndgjggokjickaaGreatDoor
open _root_.Go.Proofs.Tryz
variable{p:Sort _}
set_option maxHeartbeats 90000000
set_option maxRecDepth 100000
open Go.ChangeShapes Go.WideShapes Go.ChangeAt Go.RowKit List
set_option linter.unusedVariables false
set_option linter.unusedSimpArgs false
def Hw(v:R.Val):Val:=⟨v.k,v.n,v.s⟩
mutual
def rD:R.Tr->Tr
 |.mk op v name width args=>.mk op (Hw v) name width (ij args)
def ij:List R.Tr->vI
 |[]=>[]
 |t::ts=>rD t::ij ts
end
def FQ(y:R.Ex):Ex:=⟨y.op,Hw y.v,y.name,y.width,y.A,y.n,y.c⟩
theorem mj:∀ts:List R.Tr,(ij ts).length=ts.length
 |[]=>by simp[ij]
 |t::ts=>by simp[ij,mj ts]
variable{w:t_}{S:Nat->Prop}
theorem agD{A:xP}{ys:List R.Ex}(h:R.RL R.bH 7 w S A ys):ZA w S A (ys.map FQ):=by
 rcases h with rfl|⟨b,off,Kx,h2,h3⟩;exact .inl rfl;refine .inr ⟨b,off,Kx,h2,λ i x h1=>?_⟩;rw[getElem?_map]at h1;cases hy:ys[i]? with
 |none=>rw[hy]at h1;cases h1
 |some y=>rw[hy]at h1;injection h1 with h1;subst h1;have k:=h3 i y;exact⟨k 0 _ hy rfl,k 1 _ hy rfl,k 2 _ hy rfl,k 3 _ hy rfl,k 4 _ hy rfl,k 5 _ hy rfl,k 6 _ hy rfl⟩
mutual
theorem UC{w:t_}{S:Nat->Prop}:∀(t:R.Tr) (y:R.Ex),t.at_ w S y->(rD t).at_ w S (FQ y)
 |.mk op v name width args,y,h=>by unfold R.Tr.at_ at h;obtain⟨h1,h2,h3,h4,h5,ys,h6,h7⟩:=h;unfold rD Tr.at_;exact⟨h1,by rw[<-h2];rfl,h3,h4,by rw[mj];exact h5,ys.map FQ,agD h6,zC args ys h7⟩
theorem zC{w:t_}{S:Nat->Prop}:∀(ts:List R.Tr) (ys:List R.Ex),R.Tr.aO w S ts ys->Tr.aO w S (ij ts) (ys.map FQ)
 |[],ys,h=>by unfold R.Tr.aO at h;subst h;unfold ij Tr.aO;rfl
 |t::ts,ys,h=>by unfold R.Tr.aO at h;obtain⟨y,ys',rfl,h1,h2⟩:=h;unfold ij Tr.aO;exact⟨FQ y,ys'.map FQ,rfl,UC t y h1,zC ts ys' h2⟩
end
theorem NM:∀{ts:List R.Tr}{ys:List R.Ex},R.nA (R.Tr.at_ w S) ts ys->R.Tr.aO w S ts ys
 |_,_,.nil=>by unfold R.Tr.aO;rfl
 |_,_,.cons h k=>by unfold R.Tr.aO;exact⟨_,_,rfl,h,NM k⟩
theorem Dz{A:xP}{n:Nat}{l:List R.Tr}(h:R.JW.lies w (Old w) A n l):ib w (ij l) A n:=by obtain⟨h1,ys,h2,h3⟩:=h;exact⟨by rw[mj];exact h1,ys.map FQ,agD h2,zC l ys (NM h3)⟩
variable{γ:Type}
theorem UD(g:γ->Value):∀{l:List (R.Tr×γ)}{ys:List (R.Ex×γ)},R.nA (λ x y=>x.1.at_ w S y.1/\y.2=x.2) l ys->Tr.aO w S ((l.map λ x=>(rD x.1,g x.2)).map (·.1)) ((ys.map λ y=>(FQ y.1,g y.2)).map (·.1))/\(ys.map λ y=>(FQ y.1,g y.2)).map (·.2)=(l.map λ x=>(rD x.1,g x.2)).map (·.2)
 |_,_,.nil=>⟨by simp only[map_nil];unfold Tr.aO;rfl,rfl⟩
 |_,_,.cons h k=>by obtain⟨k1,k2⟩:=UD g k;simp only[map_cons];refine⟨?_,by rw[k2,h.2]⟩;unfold Tr.aO;exact⟨_,_,rfl,UC _ _ h.1,k1⟩
theorem P3(g:γ->Value){A:xP}{n:Nat}{l:List (R.Tr×γ)}{ys:List (R.Ex×γ)}(hn:n=l.length)(h:R.RL (λ y:R.Ex×γ=>R.bH y.1++[g y.2]) 8 w (Old w) A ys)(h2:R.nA (λ x y=>x.1.at_ w (Old w) y.1/\y.2=x.2) l ys):fh w (l.map λ x=>(rD x.1,g x.2)) A n:=by
 obtain⟨k1,k2⟩:=UD g h2;refine⟨by rw[length_map];exact hn,ys.map λ y=>(FQ y.1,g y.2),?_,k2,k1⟩;rcases h with rfl|⟨b,off,Kx,h2,h3⟩;exact .inl rfl;refine .inr ⟨b,off,Kx,h2,λ i x h1=>?_⟩;rw[getElem?_map]at h1;cases hy:ys[i]? with
 |none=>rw[hy]at h1;cases h1
 |some y=>rw[hy]at h1;injection h1 with h1;subst h1;have k:=h3 i y;exact⟨⟨k 0 _ hy rfl,k 1 _ hy rfl,k 2 _ hy rfl,k 3 _ hy rfl,k 4 _ hy rfl,k 5 _ hy rfl,k 6 _ hy rfl⟩,k 7 _ hy rfl⟩
theorem UE:∀{l:List Int}{ys:List Int},R.nA (λ x y=>y=x) l ys->ys=l
 |_,_,.nil=>rfl
 |_,_,.cons h k=>by rw[h,UE k]
def fG(d:R.Qu):Qy:=⟨d.items.map λ x=>(rD x.1,x.2),d.bU,d.only,ij d.bQ,ij d.group,ij d.having,d.order.map λ x=>(rD x.1,x.2),d.dA⟩
def Ru(y:R.zy):QL:=⟨⟨y.items.A,y.items.n,y.items.c⟩,⟨y.bQ.A,y.bQ.n,y.bQ.c⟩,⟨y.group.A,y.group.n,y.group.c⟩,⟨y.having.A,y.having.n,y.having.c⟩,⟨y.order.A,y.order.n,y.order.c⟩,⟨y.dA.A,y.dA.n,y.dA.c⟩⟩
variable{d:R.Qu}
theorem UF{y:R.zy}(h:d.at_ w (Old w) y):su w (fG d) (Ru y)/\R.quV y=oF (fG d) (Ru y):=by
 refine⟨⟨?_,Dz h.bQ,Dz h.group,Dz h.having,?_,?_⟩,?_⟩;obtain⟨h1,ys,h2,h3⟩:=h.items;have k:=P3 (λ s:u_=>Value.string s) h1 h2 h3;unfold fG;rw[map_map];exact k;obtain⟨h1,ys,h2,h3⟩:=h.order;have k:=P3 (λ s:Bool=>Value.bool s) h1 h2 h3;unfold fG;rw[map_map];exact k
 ·obtain⟨h1,ys,h2,h3⟩:=h.dA;have k:=UE h3;subst k;refine⟨h1,?_⟩;rcases h2 with h2|⟨b,off,h2,h3,h4⟩
  ·exact .inl h2
  refine .inr ⟨b,off,h2,h3,λ i x hx=>?_⟩;have:=h4 i x 0 _ hx rfl;rw[show off+i*R.TZ.size+0=off+i by show off+i*1+0=off+i;omega]at this;exact this
 unfold R.quV R.Nr oF fG Ru R.oG;rw[h.bU,h.only]
def dh(q:Nat):xr:=[aw q]
theorem P5:(prog.info? 145).map (λ i=>(i.zero,i.size,i.bytes))=some (some (.pointer none),1,8):=by exact Zhr
structure dK (w:t_) (B:Nat) (qs:List Nat) (ss:List St):Prop where
 len:qs.length=ss.length
 at_:∀(i:Nat) (q:Nat) (s:St),qs[i]?=some q->ss[i]?=some s->cE w q s
 low:∀q∈qs,B<=q/\q<w.heap.size
 apart:qs.Nodup
variable{B:Nat}
theorem dK.nil:dK w B [] []:=⟨rfl,(λ i q s h _=>by simp at h),(λ q h=>by cases h),List.Pairwise.nil⟩
variable{w':t_}{qs:List Nat}{ss:List St}
theorem dK.keep(h:dK w B qs ss)(hs:w.heap.size<=w'.heap.size)(hk:∀q∈qs,w'.heap[q]?=w.heap[q]?):dK w' B qs ss:=
 ⟨h.len,λ i q s hq hs2=>(hk q (mem_of_getElem? hq)).trans (h.at_ i q s hq hs2),λ q hq=>⟨(h.low q hq).1,eS (h.low q hq).2 hs⟩,h.apart⟩
theorem dK.later(h:dK w B qs ss)(hb:ai w w'):dK w' B qs ss:=
 h.keep hb.size λ q hq=>hb.block q (h.low q hq).2
variable{q:Nat}
theorem dK.snoc{s:St}(h:dK w B qs ss)(hs:cE w q s)(hB:B<=q)(hq:q∉qs)(hl:q<w.heap.size):dK w B (qs++[q]) (ss++[s]):=by
 refine⟨by simp[h.len],λ i r t hr ht=>?_,λ r hr=>?_,?_⟩
 ·rcases gR i qs.length with hi|hi
  ·rw[getElem?_append_left hi]at hr;rw[getElem?_append_left TaM]at ht;exact h.at_ i r t hr ht
  rw[getElem?_append_right hi]at hr;rw[getElem?_append_right TaM,<-h.len]at ht;have h0:i-qs.length=0:=by rcases gR 0 (i-qs.length)with h1|h1;rw[getElem?_eq_none (by simp only[length_singleton];omega)]at hr;cases hr;omega
  rw[h0]at hr ht;simp at hr ht;subst hr ht;exact hs
 ·rcases List.mem_append.1 hr with hr|hr
  ·exact h.low r hr
  rw[mem_singleton]at hr;subst hr;exact⟨hB,hl⟩
 rw[nodup_append];exact⟨h.apart,by simp,λ a ha b hb e=>by rw[mem_singleton]at hb;subst hb e;exact hq ha⟩
variable{base:Nat}{v:Value}{l:List Nat}
theorem dK.ne(h:dK w B qs ss)(ho:aH dh 145 1 w base v l):∀q∈qs,v.ownBlock≠some q:=λ q hq=>by obtain⟨i,hi,he⟩:=getElem_of_mem hq;have h1:=h.at_ i q (ss[i]' TaM) TaB (getElem?_eq_getElem _);exact ho.other h1 Tab
theorem dK.own(h:dK w B qs ss)(ho:aH dh 145 1 w base v l)(hg:w.grownBy w' v.ownBlock):dK w' B qs ss:=
 h.keep hg.size λ q hq=>hg.block q (h.low q hq).2 (Ne.symm (h.ne ho q hq))
variable{u:Value}
theorem dK.set{g i:Nat}(h:dK w B qs ss)(hg:g∉qs):dK (w.setCell ⟨g,i,none⟩ u) B qs ss:=
 h.keep Tad λ q hq=>Below.heap_setCell w ⟨g,i,none⟩ u q (λ e=>hg (by have e2:q=g:=e;rw[<-e2];exact hq))
theorem Hx(gp:Nat)(ys:v_)(AA:xP)(ac:Nat)(KA:xP)(kn kc:Nat)(w:t_)(hn:ys.length<=1000000)(qZ:gp<w.heap.size)(hpa:w.cell? ⟨gp,9,none⟩=some (.slice AA ys.length ac))(hA:RE w w.heap.size AA ys)(hag:∀y∈ys,isAgg y.op=true):
  ar 63 #[aw gp,.slice KA kn kc] w λ e w'=>∃g sv qs,e=.returned (aw g)/\w.heap.size<=g/\g∉qs/\aB w' g 141 #[.slice KA kn kc,sv]/\aH dh 145 1 w' w.heap.size sv qs/\dK w' w.heap.size qs (ys.map λ y=>fC y.op)/\ai w w':=by
 have HX:=aB.new w 141 #[.slice KA kn kc,az];have hb0:=ah w (.cells #[.slice KA kn kc,az] 141);have HPA:=aa ((hb0.cell (p:=⟨gp,9,none⟩) qZ).trans hpa);have LF:=aa (eS qZ hb0.size);have HA:=aa hA;have HAG:=aa hag;have HSW:=aa (show w.heap.size <(w.alloc (.cells #[.slice KA kn kc,az] 141)).heap.size by rw[World.size_alloc];omega);clear qZ hpa hA hag;go_enter func63,ntmps63;go_upto_region 2 with fail;generalize w.alloc _=W1 at*;obtain⟨g,hg⟩:∃g,g=w.heap.size:=⟨_,rfl⟩;rw[<-hg]at HX⊢;have xF:=aa hg;have CQ:=aa hb0;have Ly:=aa HX;clear hg hb0 HX;have hpa:=HPA.ae;go_wp2_with fail;clear hpa;go_loopw [18] (λ Lw wr=>∃(i:Nat) (sv:Value) (qs:List Nat),i<=ys.length/\Lw=af i/\g∉qs/\aB wr g 141 #[.slice KA kn kc,sv]/\aH dh 145 1 wr W1.heap.size sv qs/\dK wr W1.heap.size qs ((ys.take i).map λ y=>fC y.op)/\ai w wr/\W1.heap.size<=wr.heap.size) (λ Lw _=>ys.length-(intOf Lw).toNat);case atStart=>exact⟨0,_,[],gE,rfl,by simp,Ly.ae,aH.nil,.nil,CQ.ae,aE⟩
 case round=>
  obtain⟨i,sv,qs,hk,rfl,Ko,hG,hO,hS,hb,hs⟩:=hrel;have Bv:=aa hO;have V5:=aa hS;have HGQ:=aa Ko;have Oo:=aa hG;clear hO hS Ko hG Ly CQ;by_cases hlt:i<ys.length
  ·obtain⟨b,off,rfl,ly,hex⟩:=(HA.ae.below hb).at_ hlt;have hag:=HAG.ae ys[i] (getElem_mem hlt);have nx:=aa (show(ys.take (i+1)).map (λ y=>fC y.op)=(ys.take i).map (λ y=>fC y.op)++[fC ys[i].op] by rw[take_add_one,getElem?_eq_getElem hlt,map_append];rfl);have NA:qs.length<=1000000:=by have:=V5.ae.len;simp at this;omega
   generalize ys[i]=y at*;generalize (ys.take i).map (λ y=>fC y.op)=ss at*;unfold cC at hex;go_upto_region 5 with fail;have k1:=aB.new wr 46 (ay y);have Oe:=ah wr (.cells (ay y) 46);have HG:=k1.cell 0;simp only[getElem?_toArray,getElem?_cons_zero]at HG;have HNW:=aa (ade y.op (wr.alloc (.cells (ay y) 46)) hag);have bJ:g<wr.heap.size:=Oo.ae.lt;generalize wr.alloc _=W2 at*;obtain⟨g8,F3⟩:∃g8,g8=wr.heap.size:=⟨_,rfl⟩;rw[<-F3]at HG⊢;clear F3 k1 hex hag;go_wp2_with fail;refine HNW.ae.mono ?_;rintro e w6 ⟨p,hp,rfl,hst,b1⟩;have b6:=aj.then Oe b1;have Fo:wr.heap.size<=p:=fK Oe.size hp;clear Oe b1 HNW HG hp;go_upto_region 6 with fail;have bN:=ah w6 (.cells #[aw p] 145);have hGN:=aB.new w6 145 #[aw p];have hL:=aj.then b6 bN;have NW:=aa (Bv.ae.later hL);have Fs:=aa (V5.ae.later hL);have DB:=aa (Oo.ae.later hL);have tZ:=aa (aB.later hst bN);have NN:=aa (aj.then hb hL);have hbase:W1.heap.size<=(w6.alloc (.cells #[aw p] 145)).heap.size:=fK hs hL.size;have DD:=aa hGN;have hne:=NW.ae.other DB.ae Tab;have hnp:=NW.ae.other tZ.ae Tab;have oD:=aa hne;have HNP:=aa hnp;have hpl:=tZ.ae.lt;have QY:=aa hpl;have hc1:=(Oo.ae.later b6).cell 1;simp only[Uaa]at hc1;have Uo:p≠g:=WC;have Tv:p∉qs:=λ h=>by have:=(V5.ae.low p h).2;omega
   have HPG:=aa Uo;have HPQ:=aa Tv;have HWP:=aa (fK hs Fo);clear hGN hne hnp hpl bN b6 hL V5 Oo hst Uo Tv Bv bJ;go_wp2_with (first
    |(at_builtin
      refine aV rfl (.tmp 32) (.tmp 34) 139 rfl _ 8 underlying139 P5 rfl WC p rfl Ta0 rfl NW.ae w6.heap.size rfl DD.ae WC WC hbase ?_;intro v4 w4 Xs g4;obtain⟨A4,Sd,hv4,_⟩:=Xs.reads;rw[length_append,length_singleton]at hv4;subst hv4;have G4:=aa (DB.ae.grown g4 (Ne.symm oD.ae));have gc:=G4.ae.cell 1;have gf:=G4.ae.frozen 1;simp only[Uaa]at gc;have S4:=aa (Fs.ae.own NW.ae g4);have P4:=aa (aB.grown tZ.ae g4 (Ne.symm HNP.ae));have B4:=aa (bj NW.ae g4 hbase);have s4:=aa g4.size;have O4:=aa Xs;clear Xs g4))
   go_roundw
   case rel=>
    have hq4:g∉qs++[p]:=by rw[mem_append,mem_singleton];rintro(h|h);exact HGQ.ae h;exact HPG.ae h.symm
    have hn4:=O4.ae.other G4.ae Tab;refine⟨i+1,_,qs++[p],hlt,by go_num,hq4,G4.ae.aW 1 _,O4.ae.keep λ KK Kx=>Below.heap_setCell w4 ⟨g,1,none⟩ _ KK (λ e=>hn4 TaX),?_,(NN.ae.trans (B4.ae.mono (Nat.le_of_lt HSW.ae))).setCell TaV _,?_⟩;rw[nx.ae];exact(S4.ae.snoc P4.ae HWP.ae HPQ.ae (aB.lt P4.ae)).set hq4;have h1:=s4.ae;rw[World.size_setCell];exact fK hbase h1
   case measure=>exact Za2
  have fX:i=ys.length:=by omega
  subst fX;rw[take_length]at V5;go_wp2_with fail;go_ret;exact⟨g,sv,qs,rfl,by rw[xF.ae];exact aE,HGQ.ae,Oo.ae,Bv.ae.down (Nat.le_of_lt HSW.ae),⟨V5.ae.len,V5.ae.at_,λ q hq=>⟨fK (Nat.le_of_lt HSW.ae) (V5.ae.low q hq).1,(V5.ae.low q hq).2⟩,V5.ae.apart⟩,hb⟩
def Xa(base:Nat)(l:w_)(w:t_)(e:Ending)(w':t_):Prop:=∃v,e=.returned v/\aH aX 44 3 w' base v l/\ai w w'
theorem val_one(l:w_):∀u∈l.flatMap aX,u.oneCell'=true:=by intro u hu;obtain⟨v,_,hv⟩:=List.mem_flatMap.1 hu;simp[aX]at hv;rcases hv with rfl|rfl|rfl<;>rfl
theorem Xb(w:t_)(base:Nat)(hb:base<=w.heap.size):aH aX 44 3 (w.alloc (.cells #[] 44)) base (aL w.heap.size 0 0) []:=
 ⟨by simp,.inr ⟨w.heap.size,0,#[],rfl,hb,heap_alloc_new w _,aE,by simp,by simp,by simp⟩⟩
theorem vD(A:xP)(c:Nat)(l:w_)(w:t_)(h:RV w w.heap.size A l)(hl:l.length<=1000):
  ar 37 #[.slice A l.length c] w (Xa w.heap.size l w):=by
 have HR:=aa h;clear h;cases A with
 |none=>
   have hl0:l=[]:=by rcases HR.ae with h|⟨b,off,h,_⟩;exact h;cases h
   subst hl0;have hnil:(binOp .eql 38 (.slice none 0 c) (az)).run prog w=.ok (.bool true) w:=Go.Lib.run_eql_slice_nil w 38 44 none 0 c 0 0 underlying38;go_enter func37,ntmps37;exact ZiD
 |some ad=>
   have hnil:(binOp .eql 38 (.slice (some ad) l.length c) (az)).run prog w=.ok (.bool false) w:=Go.Lib.run_eql_slice_nil w 38 44 (some ad) l.length c 0 0 underlying38;obtain⟨i0,kB,hg4,pD,HZ⟩:=info_parts mD;have bb:=ah w (.cells #[] 44);have HO:=aa (Xb w w.heap.size aE);have UG:=aa (HR.ae.later bb).reads;have hsz:w.heap.size<=(w.alloc (.cells #[] 44)).heap.size:=bb.size;have HI:=aa kB;have LI:=aa hg4;have Ie:=aa pD;have uv:=aa HZ;clear kB hg4 pD HZ;go_enter func37,ntmps37;go_wp2_with (first
    |(at_builtin
      refine cN _ rfl (.tmp 5) (.tmp 6) 38 rfl w.heap.size 44 i0 _ 3 32 underlying38 HI.ae LI.ae Ie.ae uv.ae rfl WC _ 0 [] rfl HO.ae _ (some ad) l.length c (l.flatMap aX) rfl UG.ae (val_one l) Tam WC hsz ?_;intro v2 w2 o2 g2 _;have O2:=aa o2;have G2:=aa g2;clear o2 g2))
   have b2:=bj HO.ae G2.ae hsz;have O3:aH aX 44 3 w2 w.heap.size v2 l:=by have:=O2.ae;unfold aH;simpa using this
   go_ret;exact⟨_,rfl,O3,bb.trans b2⟩
theorem sM:(prog.info? 113).map (λ i=>(i.zero,i.size,i.bytes))=some (some (.agg #[au,ag 0]),2,24):=by exact Zhr
theorem agE:∀ys:List aZ,(ys.flatMap aU).length=ys.length*2
 |[]=>rfl
 |y::ys=>by rw[flatMap_cons,length_append,agE ys,length_cons];show 2+_=_;omega
theorem RC.reads{A:xP}{l:List aZ}(h:RC w B A l):Reads w B 2 A l.length (l.flatMap aU):=by
 refine⟨agE l,λ hn=>?_⟩;rcases h with h|⟨b,off,hA,hb,hc⟩;subst h;simp at hn;refine⟨⟨b,off,none⟩,hA,hb,λ j u hu=>?_⟩;obtain⟨k,r,x,rfl,hr,h2,h3⟩:=Dy (f:=aU) (size:=2) (λ _=>rfl) WC l j u hu;rw[NJ,<-Nat.add_assoc];have hx:=hc k x h2;unfold qW at hx;unfold aU at h3
 match r,hr with
 |0,_=>rw[<-h3];exact hx.1
 |1,_=>rw[<-h3];exact hx.2
def Kq(base:Nat)(l:List aZ)(w:t_)(e:Ending)(w':t_):Prop:=∃v,e=.returned v/\aH aU 113 2 w' base v l/\ai w w'
theorem adQ(l:List aZ):∀u∈l.flatMap aU,u.oneCell'=true:=by intro u hu;obtain⟨v,_,hv⟩:=List.mem_flatMap.1 hu;simp[aU]at hv;rcases hv with rfl|rfl<;>rfl
theorem Xc(w:t_)(base:Nat)(hb:base<=w.heap.size):aH aU 113 2 (w.alloc (.cells #[] 113)) base (aL w.heap.size 0 0) []:=
 ⟨by simp,.inr ⟨w.heap.size,0,#[],rfl,hb,heap_alloc_new w _,aE,by simp,by simp,by simp⟩⟩
theorem Kr(A:xP)(c:Nat)(l:List aZ)(w:t_)(h:RC w w.heap.size A l)(hl:l.length<=1000):
  ar 55 #[.slice A l.length c] w (Kq w.heap.size l w):=by
 have HR:=aa h;clear h;cases A with
 |none=>
   have hl0:l=[]:=by rcases HR.ae with h|⟨b,off,h,_⟩;exact h;cases h
   subst hl0;have hnil:(binOp .eql 28 (.slice none 0 c) (az)).run prog w=.ok (.bool true) w:=Go.Lib.run_eql_slice_nil w 28 113 none 0 c 0 0 underlying28;go_enter func55,ntmps55;exact ZiD
 |some ad=>
   have hnil:(binOp .eql 28 (.slice (some ad) l.length c) (az)).run prog w=.ok (.bool false) w:=Go.Lib.run_eql_slice_nil w 28 113 (some ad) l.length c 0 0 underlying28;obtain⟨i0,kB,hg4,pD,HZ⟩:=info_parts sM;have bb:=ah w (.cells #[] 113);have HO:=aa (Xc w w.heap.size aE);have UG:=aa (HR.ae.later bb).reads;have hsz:w.heap.size<=(w.alloc (.cells #[] 113)).heap.size:=bb.size;have HI:=aa kB;have LI:=aa hg4;have Ie:=aa pD;have uv:=aa HZ;clear kB hg4 pD HZ;go_enter func55,ntmps55;go_wp2_with (first
    |(at_builtin
      refine cN _ rfl (.tmp 5) (.tmp 6) 28 rfl w.heap.size 113 i0 _ 2 24 underlying28 HI.ae LI.ae Ie.ae uv.ae rfl WC _ 0 [] rfl HO.ae _ (some ad) l.length c (l.flatMap aU) rfl UG.ae (adQ l) Tam WC hsz ?_;intro v2 w2 o2 g2 _;have O2:=aa o2;have G2:=aa g2;clear o2 g2))
   have b2:=bj HO.ae G2.ae hsz;have O3:aH aU 113 2 w2 w.heap.size v2 l:=by have:=O2.ae;unfold aH;simpa using this
   go_ret;exact⟨_,rfl,O3,bb.trans b2⟩
def Mine(w:t_)(base:Nat)(cl:List aK):Prop:=∀r∈cl,aH aX 44 3 w base r.v r.l
variable{cl:List aK}
theorem Mine.later(h:Mine w base cl)(hb:ai w w'):Mine w' base cl:=λ r hr=>(h r hr).later hb
variable{base':Nat}{cl':List aK}{ov:Value}
theorem Mine.grown(h:Mine w base cl)(ho:aH bh 38 1 w base' ov cl')(hg:w.grownBy w' ov.ownBlock):Mine w' base cl:=λ r hr=>by refine(h r hr).keep λ q hq=>?_;obtain⟨h1,h2,cur,h3⟩:=(h r hr).lt hq;exact hg.block q h1 λ e=>ho.other (show aB w q 44 cur from h3) Tab e.symm
theorem UH(h:aH bh 38 1 w base v cl)(hm:Mine w base cl):∃A c,v=.slice A cl.length c/\RR w w.heap.size A cl:=by obtain⟨A,c,hv,hc⟩:=ey (f:=bh) (size:=1) (λ _=>rfl) h;refine⟨A,c,hv,?_⟩;rcases hc with hc|⟨g,hA,hg,hc⟩;exact .inl hc;refine .inr ⟨g,0,hA,hg,λ i r hr=>⟨?_,?_⟩⟩;have:=hc i r 0 _ hr WC rfl;exact ZfH;obtain⟨A2,c2,e1,e2⟩:=Jj (hm r (mem_of_getElem? hr));unfold aK.v at e1;injection e1 with e1;rw[e1];exact e2
theorem qC(h:w.grownBy w' none):ai w w':=⟨h.os,h.tape,h.output,h.size,λ k hk=>h.block k hk Tad⟩
def zf6.Kbx(h:p:=by
 have KK:cl.length<=1000000:=by have h1:=congrArg List.length HE.ae;simp only[length_map,length_take]at h1;omega
 generalize aG[i]=r at*;have HRD:=aa (uw.more hB.size).reads;have hbase:=hB.size;obtain⟨i0,kB,hz0,hz1,hz2⟩:=info_parts mD;have HI:=aa kB;have HZ0:=aa hz0;have wj:=aa hz1;have uv:=aa hz2;have hnil:wr.ownsRow w.heap.size 44 3 (az) 0 []:=⟨rfl,.inl ⟨rfl,rfl⟩⟩;have J3:=aa hnil;clear kB hz0 hz1 hz2 uw hnil;go_wp2_with (first
  |(at_builtin
    refine cN wr rfl (.const (az)) (.tmp 15) 38 rfl w.heap.size 44 i0 _ 3 32 underlying38 HI.ae HZ0.ae wj.ae uv.ae rfl WC _ 0 [] rfl J3.ae wr.heap.size r.A r.l.length r.c (r.l.flatMap aX) rfl HRD.ae (val_one r.l) Tam WC hbase ?_;intro v2 w2 o2 g2 _;have b2:=qC g2;have O2:aH aX 44 3 w2 w.heap.size v2 r.l:=by unfold aH;simpa using o2
    obtain⟨A2,c2,hv2,_⟩:=O2.reads;subst hv2;have O2H:=aa O2;have B2:=aa b2;clear o2 g2 O2 b2)
  |(at_builtin
    refine aV rfl (.tmp 11) (.tmp 17) 29 rfl _ 24 underlying29 iG rfl WC (⟨A2,r.l,c2⟩:aK) rfl Tar rfl ((HC.ae.later B2.ae).later (ah w2 _)) w2.heap.size rfl (aB.new w2 _ _) WC WC (fK hbase (fK B2.ae.size (ah w2 _).size)) ?_;intro v4 w4 o4 g4;have M4:=aa (Mine.grown (Mine.later (Mine.later HM.ae B2.ae) (ah w2 _)) ((HC.ae.later B2.ae).later (ah w2 _)) g4);have N4:=aa (Mine.grown (cl:=[(⟨A2,r.l,c2⟩:aK)]) (λ q hq=>by rw[mem_singleton]at hq;subst hq;exact O2H.ae.later (ah w2 _)) ((HC.ae.later B2.ae).later (ah w2 _)) g4);have b4:=bj ((HC.ae.later B2.ae).later (ah w2 _)) g4 (fK hbase (fK B2.ae.size (ah w2 _).size));have B4:=aa ((aj.then (aj.then hB B2.ae) (ah w2 _)).trans b4);have O4:=aa o4;clear o4 g4 b4))
 go_roundw
 case rel=>
  refine⟨i+1,cl++[⟨A2,r.l,c2⟩],hlt,by go_num,O4.ae,λ q hq=>?_,?_,B4.ae⟩
  ·rcases List.mem_append.1 hq with h|h
   ·exact M4.ae q h
   exact N4.ae q h
  rw[map_append,HE.ae,HT.ae];rfl
 case measure=>exact Za2):=h
theorem adR(aG:List aK)(RA:xP)(rc:Nat)(w:t_)(hn:aG.length<=1000000)(hl:∀r∈aG,r.l.length<=1000000)(hR:RR w w.heap.size RA aG):
  ar 12 #[.slice RA aG.length rc] w λ e w'=>∃v cl,e=.returned v/\aH bh 38 1 w' w.heap.size v cl/\Mine w' w.heap.size cl/\cl.map (·.l)=aG.map (·.l)/\ai w w':=by
 have HR:=aa hR;have Bh:=aa hl;clear hR hl;go_enter func12,ntmps12;go_wp2_with fail;go_loopw [3,4] (λ v Kx wr=>∃(i:Nat) (cl:List aK),i<=aG.length/\Kx=af i/\aH bh 38 1 wr w.heap.size v cl/\Mine wr w.heap.size cl/\cl.map (·.l)=(aG.take i).map (·.l)/\ai w wr) (λ _ Kx _=>aG.length-(intOf Kx).toNat);case atStart=>exact⟨0,[],gE,rfl,aH.nil,(λ r hr=>by cases hr),rfl,cX⟩
 case round=>
  obtain⟨i,cl,hk,rfl,cj,hO,hM,hB⟩:=hrel;have HC:=aa cj;have HM:=aa hO;have HE:=aa hM;clear cj hO hM;by_cases hlt:i<aG.length
  ·open zf6 in exact Zes
  have fX:i=aG.length:=by omega
  subst fX;rw[take_length]at HE;go_wp2_with fail;exact bodyPost_ret (v:=u3) (by simp[results,results12,go_sem]) rfl ⟨_,rfl,cl,HC.ae,HM.ae,HE.ae,hB⟩
theorem bI{b:Nat}(h:w'.heap[b]?=w.heap[b]?)(o:Nat):w'.cell? ⟨b,o,none⟩=w.cell? ⟨b,o,none⟩:=by unfold World.cell?;dsimp only;rw[h]
def Kp(w:t_)(gp:Nat)(us:xr)(b:Nat):Prop:=b<w.heap.size/\b≠gp/\∀u∈us,u.ownBlock≠some b
def Mv(w:t_)(u u':Value):Prop:=u'.ownBlock=u.ownBlock\/∀q,u'.ownBlock=some q->w.heap.size<=q
theorem Mv.refl(w:t_)(u:Value):Mv w u u:=.inl rfl
variable{w1:t_}{u1 u2:Value}
theorem Mv.trans(h:Mv w u u1)(k:Mv w1 u1 u2)(hs:w.heap.size<=w1.heap.size):Mv w u u2:=by
 rcases k with k|k
 ·rcases h with h|h
  ·exact .inl (k.trans h)
  exact .inr λ q hq=>h q (k▸hq)
 exact .inr λ q hq=>fK hs (k q hq)
variable{u':Value}
theorem Mv.ne{b:Nat}(h:Mv w u u')(hb:b<w.heap.size)(hu:u.ownBlock≠some b):u'.ownBlock≠some b:=λ e=>by rcases h with h|h;exact hu (h▸e);have:=h b e;omega
structure ik (gp:Nat) (w:t_) (u v:Value) (w':t_) (u' v':Value):Prop where
 os:w'.os=w.os
 tape:w'.tape=w.tape
 output:w'.output=w.output
 size:w.heap.size<=w'.heap.size
 block:∀k,Kp w gp [u,v] k->w'.heap[k]?=w.heap[k]?
 mu:Mv w u u'
 mv:Mv w v v'
variable{gp:Nat}
theorem eG{b:Nat}:Kp w gp [u,v] b↔b<w.heap.size/\b≠gp/\u.ownBlock≠some b/\v.ownBlock≠some b:=by unfold Kp;simp
variable{v':Value}
theorem ik.kp{b:Nat}(h:ik gp w u v w' u' v')(hb:Kp w gp [u,v] b):Kp w' gp [u',v'] b:=by rw[eG]at*;exact⟨eS hb.1 h.size,hb.2.1,h.mu.ne hb.1 hb.2.2.1,h.mv.ne hb.1 hb.2.2.2⟩
theorem ik.refl(gp:Nat)(w:t_)(u v:Value):ik gp w u v w u v:=⟨rfl,rfl,rfl,aE,λ _ _=>rfl,.inl rfl,.inl rfl⟩
variable{w2:t_}{v1 v2:Value}
theorem ik.trans(h:ik gp w u v w1 u1 v1)(k:ik gp w1 u1 v1 w2 u2 v2):ik gp w u v w2 u2 v2:=
 ⟨k.os.trans h.os,k.tape.trans h.tape,k.output.trans h.output,fK h.size k.size,λ b hb=>(k.block b (h.kp hb)).trans (h.block b hb),h.mu.trans k.mu h.size,h.mv.trans k.mv h.size⟩
theorem ik.later(h:ik gp w u v w1 u1 v1)(hb:ai w1 w2):ik gp w u v w2 u1 v1:=
 h.trans ⟨hb.os,hb.tape,hb.output,hb.size,λ k hk=>hb.block k hk.1,.inl rfl,.inl rfl⟩
theorem ik.own(h:ik gp w u v w1 u1 v1)(hb:w1.grownBy w2 (some q))(hq:w.heap.size<=q):ik gp w u v w2 u1 v1:=
 ⟨hb.os.trans h.os,hb.tape.trans h.tape,hb.output.trans h.output,fK h.size hb.size,λ k hk=>(hb.block k (eS hk.1 h.size) λ e=>by injection e with e;have:=hk.1;omega).trans (h.block k hk),h.mu,h.mv⟩
variable{r:Value}
theorem ik.avx(h:ik gp w u v w1 u1 v1)(hb:w1.grownBy w2 r.ownBlock)(hq:∀q,r.ownBlock=some q->w.heap.size<=q):ik gp w u v w2 u1 v1:=
 ⟨hb.os.trans h.os,hb.tape.trans h.tape,hb.output.trans h.output,fK h.size hb.size,λ k hk=>(hb.block k (eS hk.1 h.size) λ e=>by have:=hq k e.symm;have:=hk.1;omega).trans (h.block k hk),h.mu,h.mv⟩
theorem ik.low(h:ik gp w u v w' u' v')(hB:B<=w.heap.size)(hg:B<=gp)(hu:∀q,u.ownBlock=some q->B<=q)(hv:∀q,v.ownBlock=some q->B<=q):Below B w w':=
 ⟨h.os,h.tape,h.output,h.size,λ k hk=>h.block k (eG.2 ⟨by omega,by omega,λ e=>by have:=hu k e;omega,λ e=>by have:=hv k e;omega⟩)⟩
variable{y:Ex}
theorem ik.tree{t:Tr}(h:ik gp w u v w' u' v')(ht:t.at_ w (λ b=>S b/\Kp w gp [u,v] b) y):t.at_ w' (λ b=>S b/\Kp w' gp [u',v'] b) y:=
 Tr.at_.keep (λ b hb=>⟨λ o=>bI (h.block b hb.2) o,hb.1,h.kp hb.2⟩) t y ht
theorem ik.trees{t:vI}{y:v_}(h:ik gp w u v w' u' v')(ht:Tr.aO w (λ b=>S b/\Kp w gp [u,v] b) t y):Tr.aO w' (λ b=>S b/\Kp w' gp [u',v'] b) t y:=
 Tr.aO.keep (λ b hb=>⟨λ o=>bI (h.block b hb.2) o,hb.1,h.kp hb.2⟩) t y ht
variable{α:Type}{f:α->xr}{e:TypeId}
theorem ik.avy{size:Nat}{l:List α}(h:ik gp w u v w' u' v')(ho:aH f e size w base r l)(hr:∀q,r.ownBlock=some q->Kp w gp [u,v] q):aH f e size w' base r l:=ho.keep λ g hg=>h.block g (hr g hg)
variable{t:TypeId}{cs:x_}
theorem ik.blk{g:Nat}(h:ik gp w u v w' u' v')(ho:aB w g t cs)(hr:Kp w gp [u,v] g):aB w' g t cs:=(h.block g hr).trans ho
variable{us:xr}
theorem P6{t:Tr}(h:t.at_ w (λ b=>S b/\Kp w gp us b) y):t.at_ w (Old w) y:=Tr.at_.keep (λ b hb=>⟨λ _=>rfl,hb.2.1⟩) t y h
theorem Tr.all_append:∀{ts us:vI}{ys zs:v_},Tr.aO w S ts ys->Tr.aO w S us zs->Tr.aO w S (ts++us) (ys++zs)
 |[],us,ys,zs,h,k=>by unfold Tr.aO at h;subst h;exact k
 |t::ts,us,ys,zs,h,k=>by unfold Tr.aO at h;obtain⟨y,ys',rfl,h1,h2⟩:=h;rw[cons_append,cons_append];unfold Tr.aO;exact⟨y,ys'++zs,rfl,h1,Tr.all_append h2 k⟩
theorem Tr.gw{t:Tr}(h:t.at_ w S y):Tr.aO w S [t] [y]:=by unfold Tr.aO;refine⟨y,[],rfl,h,?_⟩;unfold Tr.aO;rfl
variable{P:Program}{ops:Array Oper}{rest:List Oper}{o:Oper}{Q:y_}
theorem eT{size:Nat}{l:List α}{a:Act}(hgd:o.guard=none)(s x:Operand)(t:TypeId)
  (ho:o.op=.call {callee:=.builtin .append,args:= #[s,x],argTypes:= #[t,t]})
  (z:Value) (bytes:Nat) (ht:P.underlying t=some (.slice e)) (jQ:(P.info? e).map (λ i=>(i.zero,i.size,i.bytes))=some (some z,size,bytes)) (hzs:z.cells.size=size) (hsz:0<size)
  (y:α) (hf:(f y).length=size) (h1:∀u∈f y,u.oneCell'=true)
  (hs:a.eval s=v) (hown:aH f e size w base v l)
  (g:Nat) (hx:a.eval x=aL g 1 1) (hg:aB w g e (f y).toArray)
  (hlen:(l.length+1)*bytes<=140737488355328) (nI:l.length+1<=140737488355328) (hbase:base<=w.heap.size)
  (h:∀v' w',aH f e size w' base v' (l++[y])->w.grownBy w' v.ownBlock->Mv w v v'->wpList P ops Q rest (a.put o.dst v') w'):wpList P ops Q (o::rest) a w:=by
 obtain⟨i0,kB,hz0,hz1,hz2⟩:=info_parts jQ;refine cN w hgd s x t ho base e i0 z size bytes ht kB hz0 hz1 hz2 hzs hsz v l.length (l.flatMap f) hs hown (g+1) (some ⟨g,0,none⟩) 1 1 (f y) hx ⟨by omega,λ _=>⟨_,rfl,Nat.lt_succ_self _,?_⟩⟩ h1 Tam hlen hbase ?_;exact ZfD;intro v' w' h2 h3 h4;refine h v' w' Zid h3 ZgC
def adS(k:Int)(q:Qy)(L:QL):x_:= #[ag k,au,az,au,af 0,au,af 0,.slice L.i.A L.i.n L.i.c,.string q.bU,.bool q.only,.slice L.w.A L.w.n L.w.c,.slice L.g.A L.g.n L.g.c,.slice L.h.A L.h.n L.h.c,.slice L.o.A L.o.n L.o.c,.slice L.l.A L.l.n L.l.c,ag 0,au,af 0,af 0,az,az,az,ag 0,af 0,au,ag 0,af 0,au]
def Pr(q:Qy)(L:QL):x_:= #[ag 0,au,az,au,af 0,au,af 0,.slice L.i.A L.i.n L.i.c,.string q.bU,.bool q.only,.slice L.w.A L.w.n L.w.c,.slice L.g.A L.g.n L.g.c,.slice L.h.A L.h.n L.h.c,.slice L.o.A L.o.n L.o.c,.slice L.l.A L.l.n L.l.c,ag 0,au,af 0,af 0,az,az,az,ag 0,af 0,au,ag 0,af 0,au]
structure lf (w:t_) (g:Nat) (cs:x_) (v:Value) (l:v_) (wr:t_):Prop where
 own:aH bH 46 7 wr w.heap.size v l
 blk:aB wr g 27 cs
 low:ai w wr
variable{wr:t_}
theorem lf.later{g:Nat}{l:v_}(h:lf w g cs v l wr)(hb:ai wr w'):lf w g cs v l w':=⟨h.own.later hb,h.blk.later hb,Below.trans h.low (hb.mono h.low.size)⟩
def exK(w:t_)(g:Nat)(cs:x_)(v0:Value)(acc l1 l2 l3:v_):xr->t_->Prop
 |[],wr=>lf w g cs v0 acc wr
 |[a],wr=>lf w g cs a (acc++l1) wr
 |[_,b],wr=>lf w g cs b (acc++l1++l2) wr
 |[_,_,c],wr=>lf w g cs c (acc++l1++l2++l3) wr
 |_,_=>False
theorem P7(w:t_)(g:Nat)(cs:x_)(v0:Value)(acc l1 l2 l3:v_):∀vs wr,exK w g cs v0 acc l1 l2 l3 vs wr->exK w g cs v0 acc l1 l2 l3 vs wr.drew
 |[],wr,h=>lf.later h cX.drew
 |[a],wr,h=>lf.later h cX.drew
 |[_,b],wr,h=>lf.later h cX.drew
 |[_,_,c],wr,h=>lf.later h cX.drew
 |_::_::_::_::_,wr,h=>h.elim
variable{v0:Value}{acc l1 l2 l3:v_}
theorem Ks{g:Nat}:∀vs wr,exK w g cs v0 acc l1 l2 l3 vs wr->aB wr g 27 cs
 |[],wr,h=>h.blk
 |[a],wr,h=>h.blk
 |[_,b],wr,h=>h.blk
 |[_,_,c],wr,h=>h.blk
 |_::_::_::_::_,wr,h=>h.elim
variable{m:v_}
theorem mR{g:Nat}{l:v_}{A:xP}{c:Nat}(h:lf w g cs v l wr)(hm:RE wr wr.heap.size A m)(hl:l.length+m.length<=4400000):
  ∃v' w',(Builtin.append_ #[23,23] 23 #[v,.slice A m.length c]).run prog wr=.ok v' w'/\lf w g cs v' (l++m) w':=by obtain⟨i0,kB,hz0,hz1,hz2⟩:=info_parts gh;obtain⟨v',w',h1,h2,h3,_⟩:=gF (P:=prog) wr w.heap.size 23 23 46 i0 _ 7 88 underlying23 kB hz0 hz1 hz2 rfl WC v l.length (l.flatMap bH) h.own _ A m.length c (m.flatMap bH) hm.reads (Rs m) Tam WC h.low.size;refine⟨v',w',h1,?_,h.blk.grown h3 (λ e=>h.own.other h.blk Tab e.symm),Below.trans h.low (bj h.own h3 h.low.size)⟩;exact ZiI
theorem P8{l:List (Tr×Value)}{A:xP}{n:Nat}(h:fh w l A n):∃ys:List (Ex×Value),n=ys.length/\RI w w.heap.size A ys/\Tr.aO w (Old w) (l.map (·.1)) (ys.map (·.1)):=by obtain⟨hn,ys,h1,h2,h3⟩:=h;refine⟨ys,?_,h1,h3⟩;have:=congrArg List.length h2;simp at this;omega
variable{ts:vI}
theorem Kt{A:xP}{n:Nat}(h:ib w ts A n):∃ys,n=ys.length/\RE w w.heap.size A ys/\Tr.aO w (Old w) ts ys:=by obtain⟨hn,ys,h1,h2⟩:=h;refine⟨ys,by rw[hn,Tr.aO.length h2],?_,h2⟩;exact Zdh
theorem vE{k:Int}(q:Qy)(L:QL)(w:t_)(hq:su w q L)(hlen:q.items.length+q.bQ.length+q.aG.length+q.fE.length+q.ord.length<=1100000):
  ar 23 #[.agg (adS k q L)] w λ e w'=>∃v ys,e=.returned v/\aH bH 46 7 w' w.heap.size v ys/\Tr.aO w (Old w) q.all ys/\ai w w':=by
 obtain⟨zi,ni,Bi,ti⟩:=P8 hq.i;obtain⟨zo,no,Ui,eP⟩:=P8 hq.o;obtain⟨yw,nw,qT,tw⟩:=Kt hq.w;obtain⟨yg,ng,hfn,tg⟩:=Kt hq.g;obtain⟨yh,nh,hz,th⟩:=Kt hq.h;have hS:zi.length+yw.length+yg.length+yh.length+zo.length<=1100000:=by have a1:=Tr.aO.length ti;have a2:=Tr.aO.length eP;have a3:=Tr.aO.length tw;have a4:=Tr.aO.length tg;have a5:=Tr.aO.length th;simp at a1 a2;omega
 have Dg:=aa (show Tr.aO w (Old w) q.all (zi.map (·.1)++yw++yg++yh++zo.map (·.1)) by
  unfold Qy.all;have e1:q.items.map (·.1)=(q.items.map λ x=>(x.1,Value.string x.2)).map (·.1):=by rw[map_map];rfl
  have e2:q.ord.map (·.1)=(q.ord.map λ x=>(x.1,Value.bool x.2)).map (·.1):=by rw[map_map];rfl
  rw[e1,e2,<-append_assoc,<-append_assoc];exact Tr.all_append (Tr.all_append (Tr.all_append (Tr.all_append ti tw) tg) th) eP)
 have ox:=aa Bi;have iT:=aa Ui;have Nj:=aa qT;have HFN:=aa hfn;have HK:=aa hz;have HS:=aa hS;obtain⟨i0,kB,hg4,pD,HZ⟩:=info_parts gh;have HI:=aa kB;have LI:=aa hg4;have Ie:=aa pD;have uv:=aa HZ;clear kB hg4 pD HZ;unfold adS;rw[ni,no,nw,ng,nh];have b1:=ah w (.cells #[ag k,au,az,au,af 0,au,af 0,.slice L.i.A zi.length L.i.c,.string q.bU,.bool q.only,.slice L.w.A yw.length L.w.c,.slice L.g.A yg.length L.g.c,.slice L.h.A yh.length L.h.c,.slice L.o.A zo.length L.o.c,.slice L.l.A L.l.n L.l.c,ag 0,au,af 0,af 0,az,az,az,ag 0,af 0,au,ag 0,af 0,au] 64);have k1:=aB.new w 64 #[ag k,au,az,au,af 0,au,af 0,.slice L.i.A zi.length L.i.c,.string q.bU,.bool q.only,.slice L.w.A yw.length L.w.c,.slice L.g.A yg.length L.g.c,.slice L.h.A yh.length L.h.c,.slice L.o.A zo.length L.o.c,.slice L.l.A L.l.n L.l.c,ag 0,au,af 0,af 0,az,az,az,ag 0,af 0,au,ag 0,af 0,au];have eZ:=aa b1;have c7:=k1.cell 7;have c8:=k1.cell 8;have c9:=k1.cell 9;have c10:=k1.cell 10;have c11:=k1.cell 11;have c12:=k1.cell 12;have Zi:=k1.cell 13;have c14:=k1.cell 14;have Th:=k1.cell 19;have Ti:=k1.cell 20;have c21:=k1.cell 21;simp only[Uaa]at c7 c8 c9 c10 c11 c12 Zi c14 Th Ti c21;clear hq hlen ni no nw ng nh Bi Ui qT hfn hz ti eP tw tg th hS b1 k1;go_enter func23,ntmps23;go_upto_region 1 with fail;generalize w.alloc _=W1 at*;go_wp2_with fail;go_loopw [3,4] (λ v iv wr=>v=az/\iv=af 0/\wr=W1) (λ _ _ _=>0);case atStart=>exact ZiF
 case round=>
  obtain⟨rfl,rfl,rfl⟩:=hrel;go_wp2_with fail;go_loopw [3,5] (λ v iv wr2=>v=az/\iv=af 0/\wr2=wr) (λ _ _ _=>0);case atStart=>exact ZiF
  case round=>
   obtain⟨rfl,rfl,rfl⟩:=hrel;go_upto_region 12 with fail;clear c7 c8 c9 c10 c11 c12 Zi c14 Th Ti c21;have b2:=ah wr (.cells #[.slice L.i.A zi.length L.i.c,.string q.bU,.bool q.only,.slice L.w.A yw.length L.w.c,.slice L.g.A yg.length L.g.c,.slice L.h.A yh.length L.h.c,.slice L.o.A zo.length L.o.c,.slice L.l.A L.l.n L.l.c] 27);have k2:=aB.new wr 27 #[.slice L.i.A zi.length L.i.c,.string q.bU,.bool q.only,.slice L.w.A yw.length L.w.c,.slice L.g.A yg.length L.g.c,.slice L.h.A yh.length L.h.c,.slice L.o.A zo.length L.o.c,.slice L.l.A L.l.n L.l.c];have HX:=aa (lf.mk aH.nil k2 (Below.trans eZ.ae (b2.mono eZ.ae.size)):lf w wr.heap.size _ (az) [] _);generalize wr.alloc (.cells #[.slice L.i.A zi.length L.i.c,.string q.bU,.bool q.only,.slice L.w.A yw.length L.w.c,.slice L.g.A yg.length L.g.c,.slice L.h.A yh.length L.h.c,.slice L.o.A zo.length L.o.c,.slice L.l.A L.l.n L.l.c] 27)=W2 at*;obtain⟨gq,Ko⟩:∃gq,gq=wr.heap.size:=⟨_,rfl⟩;rw[<-Ko]at HX⊢;clear b2 k2 Ko eZ;go_wp2_with fail;generalize wr=wz at*;go_loopw [3,7] (λ v iv wr=>∃(k:Nat),k<=zi.length/\iv=af k/\lf w gq #[.slice L.i.A zi.length L.i.c,.string q.bU,.bool q.only,.slice L.w.A yw.length L.w.c,.slice L.g.A yg.length L.g.c,.slice L.h.A yh.length L.h.c,.slice L.o.A zo.length L.o.c,.slice L.l.A L.l.n L.l.c] v ((zi.take k).map (·.1)) wr) (λ _ iv _=>zi.length-(intOf iv).toNat);case atStart=>exact⟨0,gE,rfl,HX.ae⟩
   case round=>
    obtain⟨k,hk,rfl,hX⟩:=hrel;have YU:=aa hX;have Kx:=hX.blk.cell 0;simp only[getElem?_toArray,getElem?_cons_zero]at Kx;have hk9:k<=1100000:=by have:=HS.ae;omega
    clear hX HX;by_cases hx:k<zi.length
    ·obtain⟨b,off,hA,ly,hex⟩:∃b off,L.i.A=some ⟨b,off,none⟩/\b<w.heap.size/\cC w b (off+k*8) zi[k].1:=by rcases ox.ae with h|⟨b,off,h1,h2,h3⟩;rw[h]at hx;simp at hx;exact Ziu
     have ja:=hex.keep (λ o=>YU.ae.low.cell (p:=⟨b,o,none⟩) ly);have nx:=aa (show(zi.take (k+1)).map (·.1)=(zi.take k).map (·.1)++[zi[k].1] by rw[take_add_one,getElem?_eq_getElem hx,map_append];rfl);have yK:((zi.take k).map (·.1)).length=k:=by rw[length_map,length_take];omega
     generalize zi[k].1=y at*;generalize (zi.take k).map (·.1)=acc at*;unfold cC at ja;obtain⟨A3,c3,hv3,_⟩:=YU.ae.own.reads;rw[yK]at hv3;subst hv3;rw[hA]at Kx;clear hA;have bN:=ah wr (.cells (ay y) 46);have hG:=aB.new wr 46 (ay y);have lz:=aa (YU.ae.later bN);have HG:=aa hG;have hbase:=lz.ae.low.size;clear bN hG hex ly;go_wp2_with (first
      |(at_builtin
        refine aV (f:=bH) rfl (.tmp 52) (.tmp 59) 23 rfl _ 88 underlying23 gh rfl WC y rfl (by intro u hu;simp[bH]at hu;rcases hu with rfl|rfl|rfl|rfl|rfl|rfl|rfl<;>rfl) rfl lz.ae.own wr.heap.size rfl HG.ae WC WC hbase ?_;intro v4 w4 o4 g4;have O4:=aa (lf.mk o4 (lz.ae.blk.grown g4 (λ e=>lz.ae.own.other lz.ae.blk Tab e.symm)) (Below.trans lz.ae.low (bj lz.ae.own g4 hbase)));clear o4 g4))
     exact ZgU
    have fX:k=zi.length:=by omega
    subst fX;have Xd:=aa (show lf w gq _ u3 (zi.map (·.1)) wr by have h1:=YU.ae;rwa [take_length]at h1);have hlz:(zi.map (·.1)).length=zi.length:=length_map _;have HLZ:=aa hlz;obtain⟨acc,adt⟩:∃acc,acc=zi.map (·.1):=⟨_,rfl⟩;rw[<-adt]at Xd HLZ Dg;clear adt;obtain⟨A3,c3,hv3,_⟩:=Xd.ae.own.reads;subst hv3;clear YU hlz;go_upto_region 16 with fail;clear Kx;obtain⟨cs,hcs⟩:∃cs:x_,cs= #[.slice L.i.A zi.length L.i.c,.string q.bU,.bool q.only,.slice L.w.A yw.length L.w.c,.slice L.g.A yg.length L.g.c,.slice L.h.A yh.length L.h.c,.slice L.o.A zo.length L.o.c,.slice L.l.A L.l.n L.l.c]:=⟨_,rfl⟩;have hk3:cs[3]?=some (.slice L.w.A yw.length L.w.c):=by rw[hcs];rfl
    have hk4:cs[4]?=some (.slice L.g.A yg.length L.g.c):=by rw[hcs];rfl
    have hk5:cs[5]?=some (.slice L.h.A yh.length L.h.c):=by rw[hcs];rfl
    have rp:=aa (show lf w gq cs (.slice A3 acc.length c3) acc wr by rw[hcs];exact Xd.ae);have MJ:=aa hcs;clear hcs Xd;refine NK (P:=prog) (J:=exK w gq cs (.slice A3 acc.length c3) acc yw yg yh) (q:=6) (s:=3) (d0:=61) (d1:=62) (d2:=63) (d3:=64) (d4:=65) (d5:=66) (d6:=67) (d7:=68) (d8:=69) (d9:=70) (pq:=aw gq) (v0:=.slice A3 acc.length c3) (p1:=aY gq 3) (p2:=aY gq 4) (p3:=aY gq 5) (s1:=.slice L.w.A yw.length L.w.c) (s2:=.slice L.g.A yg.length L.g.c) (s3:=.slice L.h.A yh.length L.h.c) (A1:=⟨gq,3,none⟩) (A2:=⟨gq,4,none⟩) (A3:=⟨gq,5,none⟩) 23 (P7 _ _ _ _ _ _ _ _) rp.ae Taa Taa Taa Taa Taa rfl rfl ?_ ?_ ?_ ?_ (λ vs w' h=>⟨((Ks vs w' h).cell 3).trans hk3,((Ks vs w' h).cell 4).trans hk4,((Ks vs w' h).cell 5).trans hk5⟩) ?_ ?_ ?_ ?_ ?_ ?_ ?_ ?_ ?_ ?_;exact Zcm;exact Zcm;exact Zcm;exact Zcm;exact ZdY;exact ZdY;exact ZdY;exact ZhG;exact ZhG;exact ZhG;intro w5 KK;exact mR KK ((Nj.ae.below (show lf w gq cs _ acc w5 from KK).low).more (show lf w gq cs _ acc w5 from KK).low.size) (by have:=HS.ae;have:=HLZ.ae;omega);intro a w5 KK;have KK:lf w gq cs a (acc++yw) w5:=KK;exact mR KK ((HFN.ae.below KK.low).more KK.low.size) (by have:=HS.ae;have:=HLZ.ae;rw[length_append];omega);intro a b w5 KK;have KK:lf w gq cs b (acc++yw++yg) w5:=KK;exact mR KK ((HK.ae.below KK.low).more KK.low.size) (by have:=HS.ae;have:=HLZ.ae;rw[length_append,length_append];omega);intro va vb vc W7 hX7;have UI:=aa (show lf w gq cs vc (acc++yw++yg++yh) W7 from hX7);clear hX7 rp hk3 hk4 hk5;have BK:=aa (show(acc++yw++yg++yh).length=zi.length+yw.length+yg.length+yh.length by simp only[length_append,HLZ.ae]);obtain⟨Rv,agF⟩:∃Rv,Rv=acc++yw++yg++yh:=⟨_,rfl⟩;rw[<-agF]at UI BK Dg;clear agF;have A4:cs[6]?=some (.slice L.o.A zo.length L.o.c):=by rw[MJ.ae];rfl
    have HC6:=aa A4;clear A4 MJ;simp only[Act.put,Uac];go_wp2_with fail;generalize wr=wy at*;go_loopw [3,8] (λ v iv wr=>∃(k:Nat),k<=zo.length/\iv=af k/\lf w gq cs v (Rv++(zo.take k).map (·.1)) wr) (λ _ iv _=>zo.length-(intOf iv).toNat);case atStart=>exact⟨0,gE,rfl,by rw[take_zero,map_nil,append_nil];exact UI.ae⟩
    case round=>
     clear UI;obtain⟨k,hk,rfl,hX⟩:=hrel;have YU:=aa hX;have c6:=(hX.blk.cell 6).trans HC6.ae;have hk9:k<=1100000:=by have:=HS.ae;omega
     clear hX;by_cases hx:k<zo.length
     ·obtain⟨b,off,hA,ly,hex⟩:∃b off,L.o.A=some ⟨b,off,none⟩/\b<w.heap.size/\cC w b (off+k*8) zo[k].1:=by rcases iT.ae with h|⟨b,off,h1,h2,h3⟩;rw[h]at hx;simp at hx;exact Ziu
      have ja:=hex.keep (λ o=>YU.ae.low.cell (p:=⟨b,o,none⟩) ly);have nx:=aa (show Rv++(zo.take (k+1)).map (·.1)=Rv++(zo.take k).map (·.1)++[zo[k].1] by rw[take_add_one,getElem?_eq_getElem hx,map_append,append_assoc];rfl);have yK:(Rv++(zo.take k).map (·.1)).length<=2200000:=by have:=BK.ae;have:=HS.ae;rw[length_append,length_map,length_take];omega
      generalize zo[k].1=y at*;generalize Rv++(zo.take k).map (·.1)=acc at*;unfold cC at ja;obtain⟨A3,c3,hv3,_⟩:=YU.ae.own.reads;subst hv3;rw[hA]at c6;clear hA;have bN:=ah wr (.cells (ay y) 46);have hG:=aB.new wr 46 (ay y);have lz:=aa (YU.ae.later bN);have HG:=aa hG;have hbase:=lz.ae.low.size;clear bN hG hex ly;go_wp2_with (first
       |(at_builtin
         refine aV (f:=bH) rfl (.tmp 78) (.tmp 85) 23 rfl _ 88 underlying23 gh rfl WC y rfl (by intro u hu;simp[bH]at hu;rcases hu with rfl|rfl|rfl|rfl|rfl|rfl|rfl<;>rfl) rfl lz.ae.own wr.heap.size rfl HG.ae WC WC hbase ?_;intro v4 w4 o4 g4;have O4:=aa (lf.mk o4 (lz.ae.blk.grown g4 (λ e=>lz.ae.own.other lz.ae.blk Tab e.symm)) (Below.trans lz.ae.low (bj lz.ae.own g4 hbase)));clear o4 g4))
      exact ZgU
     have fX:k=zo.length:=by omega
     subst fX;rw[take_length]at YU;go_wp2_with fail;go_ret;exact⟨_,_,rfl,YU.ae.own,Dg.ae,YU.ae.low⟩
def NP(w:t_)(B:Nat)(A:xP)(gs:List Nat):Prop:=gs=[]\/∃g,A=some ⟨g,0,none⟩/\g<B/\∀(i:Nat) q,gs[i]?=some q->w.cell? ⟨g,i,none⟩=some (aw q)
theorem NP.later{A:xP}(h:NP w w.heap.size A l)(hb:ai w w'):NP w' w'.heap.size A l:=by rcases h with h|⟨g,h1,h2,h3⟩;exact Zis;exact .inr ⟨g,h1,eS h2 hb.size,λ i x hx=>(hb.cell (p:=⟨g,i,none⟩) h2).trans (h3 i x hx)⟩
variable{k:Nat}
theorem NP.at_{A:xP}(h:NP w B A l)(hk:k<l.length):∃g,A=some ⟨g,0,none⟩/\g<B/\w.cell? ⟨g,k,none⟩=some (.pointer (some ⟨l[k],0,none⟩)):=by rcases h with h|⟨g,h1,h2,h3⟩;subst h;simp at hk;exact⟨g,h1,h2,h3 k l[k] (getElem?_eq_getElem hk)⟩
variable{gs:List Nat}
theorem xJ(h:aH dh e 1 w base v gs):∃A c,v=.slice A gs.length c/\gs.length<=c/\NP w w.heap.size A gs:=by obtain⟨A0,c0,e0,_,hle,_⟩:=h.reads;obtain⟨A,c,rfl,h1⟩:=ey (f:=dh) (size:=1) (λ _=>rfl) h;injection e0 with _ _ e0;refine⟨A,c,rfl,by rw[e0];exact hle,?_⟩;rcases h1 with h1|⟨g,h1,h2,h3⟩;exact .inl h1;refine .inr ⟨g,h1,h2,λ i q hq=>?_⟩;have:=h3 i q 0 _ hq WC rfl;exact ZfH
theorem Rw(gg:Nat)(KA tA:xP)(k t:w_)(kc tc:Nat)(w:t_)(hg:gg<w.heap.size)(hk:w.cell? ⟨gg,0,none⟩=some (.slice KA k.length kc))(hK:RV w w.heap.size KA k)(hT:RV w w.heap.size tA t)(hl:k.length<=1000)(ht:t.length<=1000):
  ar 65 #[aw gg,.slice tA t.length tc] w λ e w'=>e=.returned (af (bT k t))/\ai w w':=by have HR:=wX KA kc k tA tc t w hK hT hl ht;clear hK hT hl ht;go_enter func65,ntmps65;go_wp2_with fail;refine HR.mono ?_;rintro e w1 ⟨rfl,b1⟩;clear HR hk;go_wp2_with fail;go_ret;exact⟨rfl,b1⟩
def DF(n:Nat)(c:Nat->Int)(w:t_)(e:Ending)(w':t_):Prop:=∃k:Nat,k<=n/\e=.returned (.tuple #[af k,.bool (decide (k<n)&&decide (c k=0))])/\(∀i,i<k->c i<0)/\(∀i,k<=i->i<n->0<=c i)/\ai w w'
def zcW.Kay(h:p:=by
 have FN:jp<gs.length:=Tbr;obtain⟨g,rfl,hg,Kx⟩:=HA.ae.at_ FN;have hz:=(hb.cell (p:=⟨g,jp,none⟩) hg).trans Kx;have hex:=HE.ae jp FN _ hb;have HML:=aa FN;generalize gs[jp]=q at*;clear Kx hg FN;go_wp2_with fail;refine hex.mono ?_;rintro e w1 ⟨rfl,b1⟩;have hb1:=aj.then hb b1;clear hex hz b1 hb;by_cases hc:c jp<0
 ·go_wp2_with fail;go_roundw;case rel=>exact⟨jp+1,j,by omega,hj,by go_num,rfl,λ t ht=>HL.ae t jp WC HML.ae hc,HF.ae,hb1⟩
  case measure=>exact Za2
 go_wp2_with fail;go_roundw;case rel=>exact⟨i,jp,by omega,by omega,rfl,rfl,H2.ae,λ t h1 h2=>Int.not_lt.1 λ h=>absurd (HL.ae jp t h1 Tbr h) WC,hb1⟩
 case measure=>exact Za2):=h
theorem Rx(gs:List Nat)(SA tA:xP)(sc tn tc:Nat)(c:Nat->Int)(w:t_)(hn:gs.length<=1000000)(hA:NP w w.heap.size SA gs)
  (hE:∀i (h:i<gs.length),∀W,ai w W->ar 65 #[.pointer (some ⟨gs[i],0,none⟩),.slice tA tn tc] W λ e w'=>e=.returned (af (c i))/\ai W w')
  (hm:∀i j,i<=j->j<gs.length->c j<0->c i<0):
  ar 64 #[.slice SA gs.length sc,.slice tA tn tc,.func (.func 65) #[] #[]] w (DF gs.length c w):=by
 have HA:=aa hA;have HE:=aa hE;have HL:=aa hm;clear hA hE hm;obtain⟨n,pY⟩:∃n,n=gs.length:=⟨_,rfl⟩;have HN:=aa pY;rw[<-pY]at hn⊢;clear pY;go_enter func64,ntmps64;go_wp2_with fail;go_loopw [9,10] (λ lo hi wr=>∃i j:Nat,i<=j/\j<=n/\lo=af i/\hi=af j/\(∀t,t<i->c t<0)/\(∀t,j<=t->t<n->0<=c t)/\ai w wr) (λ lo hi _=>(intOf hi).toNat-(intOf lo).toNat);case atStart=>exact⟨0,n,gE,aE,rfl,rfl,λ t h=>by omega,λ t h1 h2=>by omega,cX⟩
 case round=>
  obtain⟨i,j,kE,hj,rfl,rfl,hs,hF,hb⟩:=hrel;have H2:=aa hs;have HF:=aa hF;clear hs hF;by_cases hlt:i<j
  ·go_upto_region 5 with fail;open zcW in exact Zbi
  have Ku:j=i:=by omega
  subst Ku;by_cases AJ:j<n
  ·have FN:j<gs.length:=by have:=HN.ae;omega
   obtain⟨g,rfl,hg,Kx⟩:=HA.ae.at_ FN;have hz:=(hb.cell (p:=⟨g,j,none⟩) hg).trans Kx;have hex:=HE.ae j FN _ hb;generalize gs[j]=q at*;clear Kx hg FN hlt;go_wp2_with fail;refine hex.mono ?_;rintro e w1 ⟨rfl,b1⟩;have hb1:=aj.then hb b1;clear hex hz b1 hb;by_cases hc:c j=0
   ·have t1:(c j==0)=true:=by simp[hc]
    go_wp2_with fail;exact bodyPost_ret (v:=.tuple #[af j,.bool true]) TaL rfl ⟨j,hj,by rw[decide_eq_true AJ,decide_eq_true hc];rfl,H2.ae,HF.ae,hb1⟩
   have t1:(c j==0)=false:=by simp[hc]
   go_wp2_with fail;exact bodyPost_ret (v:=.tuple #[af j,.bool false]) TaL rfl ⟨j,hj,by rw[decide_eq_true AJ,decide_eq_false hc];rfl,H2.ae,HF.ae,hb1⟩
  clear hlt;go_wp2_with fail;exact bodyPost_ret (v:=.tuple #[af j,.bool false]) TaL rfl ⟨j,hj,by rw[decide_eq_false AJ];rfl,H2.ae,HF.ae,hb⟩
structure qD (w w':t_) (qs:List Nat):Prop where
 os:w'.os=w.os
 tape:w'.tape=w.tape
 output:w'.output=w.output
 size:w.heap.size<=w'.heap.size
 block:∀k,k<w.heap.size->k∉qs->w'.heap[k]?=w.heap[k]?
theorem qD.refl(w:t_)(qs:List Nat):qD w w qs:=⟨rfl,rfl,rfl,aE,λ _ _ _=>rfl⟩
theorem qD.below(h:qD w w1 qs)(hb:ai w1 w2):qD w w2 qs:=
 ⟨hb.os.trans h.os,hb.tape.trans h.tape,hb.output.trans h.output,fK h.size hb.size,λ k hk hn=>(hb.block k (eS hk h.size)).trans (h.block k hk hn)⟩
theorem qD.grown(h:qD w w1 qs)(hq:q∈qs)(hb:w1.grownBy w2 (some q)):qD w w2 qs:=
 ⟨hb.os.trans h.os,hb.tape.trans h.tape,hb.output.trans h.output,fK h.size hb.size,λ k hk hn=>(hb.block k (eS hk h.size) λ e=>by injection e with e;subst e;exact hn hq).trans (h.block k hk hn)⟩
theorem qD.blk{g:Nat}(h:qD w w' qs)(hg:aB w g t cs)(hn:g∉qs):aB w' g t cs:=(h.block g hg.lt hn).trans hg
theorem qD.low(h:qD w w' qs)(hB:B<=w.heap.size)(hq:∀q∈qs,B<=q):Below B w w':=
 ⟨h.os,h.tape,h.output,h.size,λ k hk=>h.block k (eS hk hB) λ hm=>by have:=hq k hm;omega⟩
structure RVq (w:t_) (qs:List Nat) (A:xP) (l:w_):Prop where
 rv:RV w w.heap.size A l
 off:∀a,A=some a->a.block∉qs
theorem RVq.turn{A:xP}{l:w_}(h:RVq w qs A l)(ht:qD w w' qs):RV w' w'.heap.size A l:=by rcases h.rv with h0|⟨b,off,rfl,hb,hc⟩;exact .inl h0;refine .inr ⟨b,off,rfl,eS hb ht.size,λ i x hx=>(hc i x hx).keep λ o=>bI (ht.block b hb (h.off _ rfl)) o⟩
def fk(A:xP)(c n:Nat):xP:=if c=n then A else A.map (·.add (n*3))
theorem RV.UJ{A:xP}{l:w_}(h:RV w B A l)(n c:Nat)(hc:l.length<=c):RV w B (fk A c n) (l.drop n):=by
 unfold fk;rcases h with h0|⟨b,off,rfl,hb,hx⟩;subst h0;exact .inl Tad;split
 ·left;rw[drop_eq_nil_iff];omega
 refine .inr ⟨b,off+n*3,by simp[dX],hb,λ i x hi=>?_⟩;rw[getElem?_drop]at hi;have:=hx (n+i) x hi;rw[show off+n*3+i*3=off+(n+i)*3 by omega];exact this
theorem RV.Q0{A:xP}{l:w_}(h:RV w B A l)(n:Nat):RV w B A (l.take n):=by rcases h with h0|⟨b,off,rfl,hb,hx⟩;subst h0;exact .inl Tad;refine .inr ⟨b,off,rfl,hb,λ i x hi=>?_⟩;rw[getElem?_take]at hi;split at hi;exact hx i x hi;cases hi
theorem zD{A:xP}{c n:Nat}(h:∀a,A=some a->a.block∉qs):∀a,fk A c n=some a->a.block∉qs:=by
 intro a ha;unfold fk at ha;split at ha;exact h a ha;cases A with
 |none=>cases ha
 |some ad=>simp only[Option.map_some,Option.some.injEq]at ha;rw[<-ha,wG];exact h ad rfl
theorem DG(u:t_):(sizeOf (prog.elem 38)).run prog u=.ok 3 u:=by exact Zhr
theorem ua(a:Addr):a.add 0=a:=by obtain⟨b,o,s⟩:=a;unfold Addr.add;split<;>simp_all
theorem ub(A1:xP)(n c1 k:Nat)(hk:k<=n)(u:t_):(Instr.slice 38 (.slice A1 n c1) (some (af k)) none none).run prog u=.ok (.slice (fk A1 c1 k) (n-k) (c1-k)) u:=by unfold fk;rw[run_slice_l u 38 A1 n c1 underlying38 .i64 k WC WC,DG];simp[sliced]
theorem Xe(A1:xP)(n c1 k:Nat)(hk:k<=c1)(u:t_):(Instr.slice 38 (.slice A1 n c1) none (some (af k)) none).run prog u=.ok (.slice A1 k c1) u:=by rw[run_slice_h u 38 A1 n c1 underlying38 .i64 k WC WC,DG];exact Zih
theorem Hy(A1:xP)(n c1 k m:Nat)(hk:k<=m)(hm:m<=c1)(u:t_):(Instr.slice 38 (.slice A1 n c1) none (some (af k)) (some (af m))).run prog u=.ok (.slice A1 k m) u:=by rw[run_slice_hm u 38 A1 n c1 underlying38 .i64 .i64 k m WC WC WC,DG];exact Zih
theorem FT(w:t_)(ty:TypeId)(g:Nat)(t:TypeId)(cur:x_)(A:xP)(l:w_)(c dl dc:Nat)(hg:aB w g t cur)(qE:l.length*3<=cur.size)(hl:l.length<=dl)(hR:Reads w w.heap.size 3 A l.length (l.flatMap aX)):
  (Builtin.copy_ #[38,38] ty #[aL g dl dc,.slice A l.length c]).run prog w=.ok (goInt l.length) (w.setRow g (l.flatMap aX++cur.toList.drop (l.length*3)).toArray):=by
 have hn:Nat.min l.length dl=l.length:=Nat.min_eq_left hl;have Jn:=Mu l;have hst:=run_storeCells_at prog g 0 t (l.flatMap aX) 0 cur w hg (by rw[Jn];simpa using qE) (val_one l);simp only[Nat.zero_add,take_zero,nil_append,Jn]at hst;have hsz:∀u:t_,(sizeOf 44).run prog u=.ok 3 u:=λ u=>by kernel_rfl
 cases A with
 |none=>
   have h0:l=[]:=by
    cases l with
    |nil=>rfl
    |cons x xs=>obtain⟨a,ha,_⟩:=hR.2 Tad;cases ha
   subst h0;simp[Builtin.copy_,run_underlying underlying38,Builtin.lenOf,Builtin.firstCells,hsz,storeCells];rw[setRow_self w g cur t (0,0) hg]
 |some a=>
   have hld:=run_loadCells_list (P:=prog) w a (l.flatMap aX) (by
    intro j v hj;cases l with
    |nil=>simp at hj
    |cons x xs=>
      obtain⟨a2,ha,hb,hc⟩:=hR.2 Tad;injection ha with ha;subst ha;exact hc j v hj)
   rw[Jn]at hld;simp[Builtin.copy_,run_underlying underlying38,Builtin.lenOf,Builtin.firstCells,hsz,hn,hld,hst]
def lT(l:w_):Val×Val:=(l.getD 0 aM,l.getD 1 aM)
variable{h:Nat}{ds:x_}
theorem lJ{g:Nat}{u:TypeId}(hg:aB w g t cs)(hh:aB w h u ds)(hn:t≠u):g≠h:=λ e=>by subst e;have h1:w.heap[g]?=some (.cells cs t (0,0)):=hg;have h2:w.heap[g]?=some (.cells ds u (0,0)):=hh;rw[h1]at h2;injection h2 with h2;injection h2 with _ h2 _;exact hn h2
def nY:x_:= #[ag 0,af 0,au,ag 0,af 0,au]
def DI(a b:Val):x_:= #[ag a.k,af a.n,.string a.s,ag b.k,af b.n,.string b.s]
theorem Bu{a:Act}(hgd:o.guard=none)(d s:Operand)
  (ho:o.op=.call {callee:=.builtin .copy,args:= #[d,s],argTypes:= #[38,38]}) (g:Nat) (A:xP) (l:w_) (c dc n:Nat) (hd:a.eval d=aL g 2 dc) (hs:a.eval s=.slice A n c) (hn:n=l.length)
  (hg:aB w g 187 nY) (hl:l.length<=2) (hR:RV w w.heap.size A l)
  (h:∀w' u,aB w' g 187 (DI (lT l).1 (lT l).2)->w.grownBy w' (some g)->wpList prog ops Q rest (a.put o.dst u) w'):wpList prog ops Q (o::rest) a w:=by
 subst hn;refine wpList_plain hgd λ K hK=>?_;have hrun:=FT w o.type g 187 nY A l c 2 dc hg (by show l.length*3<=6;omega) hl hR.reads;unfold Oper.wp;simp[execOp,ho,resolve,invoke,builtin,hd,hs,hrun,Result.andThen];refine hK _ _ (h _ _ ?_ ⟨rfl,rfl,rfl,by simp[World.setRow],λ k hk hne=>setRow_other w g k _ (λ e=>hne Ta5)⟩);have:=setRow_heap w g nY (l.flatMap aX++nY.toList.drop (l.length*3)).toArray 187 (0,0) hg;refine Eq.trans this ?_
 match l,hl with
 |[],_=>rfl
 |[x],_=>rfl
 |[x,y],_=>rfl
def mS:List Nat->w_->List (Val×Val)
 |[],_=>[]
 |n::ns,l=>lT (l.take n)::mS ns (l.drop n)
def NQ:List Nat->Nat
 |[]=>0
 |n::ns=>n+NQ ns
def eK(ss:List St)(ps:List (Val×Val)):List St:=List.zipWith (λ s p=>s.feed p.1 p.2) ss ps
theorem dK.put{s:St}(h:dK w B qs ss)(hq:qs[k]?=some q)(hg:w.grownBy w' (some q))(hs:cE w' q s):dK w' B qs (ss.set k s):=by
 have BJ:k<qs.length:=by rcases gR k qs.length with h1|h1;exact h1;rw[getElem?_eq_none h1]at hq;cases hq
 refine⟨by rw[length_set];exact h.len,λ i r t hr ht=>?_,λ r hr=>⟨(h.low r hr).1,eS (h.low r hr).2 hg.size⟩,h.apart⟩;by_cases hik:i=k;subst hik;rw[hq]at hr;injection hr with hr;rw[getElem?_set_self (by rw[<-h.len];exact BJ)]at ht;injection ht with ht;subst hr ht;exact hs;rw[getElem?_set_ne (Ne.symm hik)]at ht;have hne:q≠r:=λ e=>by
  subst e;have qQ:i<qs.length:=by rcases gR i qs.length with h1|h1;exact h1;rw[getElem?_eq_none h1]at hr;cases hr
  rw[getElem?_eq_getElem qQ]at hr;rw[getElem?_eq_getElem BJ]at hq;injection hr with hr;injection hq with hq;rcases gR i k with hlt|wI;exact List.pairwise_iff_getElem.1 h.apart i k qQ BJ hlt (hr.trans hq.symm);exact List.pairwise_iff_getElem.1 h.apart k i BJ qQ WC (hq.trans hr.symm)
 exact(hg.block r (h.low r (mem_of_getElem? hr)).2 (λ e=>by injection e with e;exact hne e.symm)).trans (h.at_ i r t hr ht)
theorem dK.uN{g:Nat}(h:dK w B qs ss)(hg:aB w g t cs)(ht:t≠199):g∉qs:=λ hm=>by obtain⟨i,hi,he⟩:=getElem_of_mem hm;have h1:=h.at_ i g (ss[i]' TaM) TaB (getElem?_eq_getElem _);unfold cE aB at h1;unfold aB at hg;rw[hg]at h1;injection h1 with h1;injection h1 with _ h1 _;exact ht h1
def d4V(g7 g8 m c1 n yc:Nat)(A1 yA:xP):Nat->t_->Value->Prop
 |0,_,v=>v=aL g8 2 2
 |1,_,v=>v=.slice A1 m c1
 |2,_,v=>v=aY g7 6
 |3,_,v=>v=.slice yA n yc
 |4,_,v=>v=af n
 |5,_,v=>v=.slice A1 n c1
 |_,_,_=>False
theorem Xf(g7 g8 m c1 n yc:Nat)(A1 yA:xP):∀i w w' v,d4V g7 g8 m c1 n yc A1 yA i w v->aj w w'->d4V g7 g8 m c1 n yc A1 yA i w' v:=by
 intro i w w' v h hl
 match i with
 |0|1|2|3|4|5=>exact h
 |n+6=>exact h
def d6V(gg g8 sb sn sc k q:Nat)(a b:Val):Nat->t_->Value->Prop
 |0,_,v=>v=aw gg
 |1,_,v=>v=aw gg
 |2,_,v=>v=aY gg 1
 |3,_,v=>v=aL sb sn sc
 |4,_,v=>v=af k
 |5,_,v=>v=aY sb k
 |6,_,v=>v=aw q
 |7,_,v=>v=aw g8
 |8,_,v=>v=.agg (aC a)
 |9,_,v=>v=aY g8 3
 |10,_,v=>v=.agg (aC b)
 |_,_,_=>False
theorem Xg(gg g8 sb sn sc k q:Nat)(a b:Val):∀i w w' v,d6V gg g8 sb sn sc k q a b i w v->aj w w'->d6V gg g8 sb sn sc k q a b i w' v:=by exact ZdT
def zcI.Kav(h:p:=by
 have aoJ:=aa (λ q hq=>(Lw.low q hq).1);clear pd Vn Lw hR hc fq bc hv Bi Ui qT hfn hz hS hw hl M7 hJ hcw Pk;go_enter func67,ntmps67;go_wp2_with fail;clear hh;go_loopw [2,14] (λ v KK wr=>∃(i:Nat) (MY:xP) (c1:Nat) (rem:w_),i<=ys.length/\KK=af i/\v=.slice MY rem.length c1/\RVq w qs MY rem/\rem.length<=c1/\rem.length<=1000000/\(∀v∈rem,v.Ok)/\mS ((ys.map Ex.n).drop i) rem=ps.drop i/\NQ ((ys.map Ex.n).drop i)<=rem.length/\dK wr B qs ((eK ss ps).take i++ss.drop i)/\qD w wr qs) (λ _ KK _=>ys.length-(intOf KK).toNat);case atStart=>exact⟨0,A0,LE,l,gE,rfl,rfl,HR.ae,HC.ae,pE.ae,HV.ae,ud.ae,Ry.ae,HS0.ae,qD.refl _ _⟩
 case round=>
  clear HS0 ud Ry HR HC HV pE;obtain⟨i,MY,c1,rem,hk,rfl,rfl,hR,hc,Pk,hv,pd,Vn,Lw,hT⟩:=hrel;have Ly:=aa Lw;have HT:=aa hT;have HR:=aa hR;have HC:=aa hc;have HV:=aa hv;have ud:=aa pd;have Ry:=aa Vn;have pE:=aa Pk;clear Lw hT hR hc hv pd Vn Pk;by_cases hlt:i<ys.length
  ·obtain⟨b,off,rfl,ly,hex⟩:=(ox.ae.below (HT.ae.low HJ.ae aoJ.ae)).at_ hlt;have fq:=HY2.ae ys[i] (getElem_mem hlt);have hdr:(ys.map Ex.n).drop i=ys[i].n::(ys.map Ex.n).drop (i+1):=by rw[drop_eq_getElem_cons Tao];simp
   rw[hdr]at ud Ry;have hp0:ps.drop i=lT (rem.take ys[i].n)::mS ((ys.map Ex.n).drop (i+1)) (rem.drop ys[i].n):=ud.ae.symm;have BL:ps[i]?=some (lT (rem.take ys[i].n)):=by have h1:=congrArg (λ l=>l[0]?) hp0;simpa using h1
   have Il:mS ((ys.map Ex.n).drop (i+1)) (rem.drop ys[i].n)=ps.drop (i+1):=by have h1:=congrArg List.tail hp0;rw[tail_drop]at h1;exact h1.symm
   have avC:ys[i].n+NQ ((ys.map Ex.n).drop (i+1))<=rem.length:=Ry.ae;have hkq:i<qs.length:=by have:=HO.ae;omega
   have qV:i<ss.length:=by have:=HL.ae;omega
   have aqn:=Ly.ae.at_ i qs[i] ss[i] (getElem?_eq_getElem hkq) (by
    rw[getElem?_append_right Taz,length_take];have hm:min i (eK ss ps).length=i:=by
     refine Nat.min_eq_left (Nat.le_of_lt ?_);unfold eK;rw[length_zipWith];have qQ:i<ps.length:=by rcases gR i ps.length with h|h;exact h;rw[getElem?_eq_none h]at BL;cases BL
     omega
    rw[hm,Nat.sub_self,getElem?_drop,Nat.add_zero,getElem?_eq_getElem qV])
   have bc:=HG.ae ss[i] (getElem_mem qV);have Pz:((eK ss ps).take i++ss.drop i).set i (ss[i].feed (lT (rem.take ys[i].n)).1 (lT (rem.take ys[i].n)).2)=(eK ss ps).take (i+1)++ss.drop (i+1):=by
    have qQ:i<ps.length:=by exact ZgR
    have Jn:i <(eK ss ps).length:=by unfold eK;rw[length_zipWith];omega
    have hfk:(eK ss ps)[i]'Jn=ss[i].feed (lT (rem.take ys[i].n)).1 (lT (rem.take ys[i].n)).2:=by
     have h1:(eK ss ps)[i]?=some (ss[i].feed (lT (rem.take ys[i].n)).1 (lT (rem.take ys[i].n)).2):=by unfold eK;rw[getElem?_zipWith,getElem?_eq_getElem qV,BL]
     rw[getElem?_eq_getElem Jn]at h1;injection h1
    rw[take_add_one,getElem?_eq_getElem Jn,hfk];have rB:((eK ss ps).take i).length=i:=Taz;rw[set_append_right _ _ WC,rB,Nat.sub_self,drop_eq_getElem_cons qV,set_cons_zero,append_assoc];rfl
   have lQ:=getElem_mem hkq;have hqk:qs[i]?=some qs[i]:=getElem?_eq_getElem hkq;obtain⟨lb,hSA,hsb,hsc⟩:∃lb,SA=some ⟨lb,0,none⟩/\lb<w.heap.size/\w.cell? ⟨lb,i,none⟩=some (.pointer (some ⟨qs[i],0,none⟩)):=by rcases HS.ae with h|⟨g,h1,h2,h3⟩;rw[h]at hkq;simp at hkq;refine⟨g,h1,h2,?_⟩;have:=h3 i qs[i] 0 _ hqk WC rfl;exact ZfH
   subst hSA;have hsq:=λ h=>HK.ae lb h rfl;have hGw:=HT.ae.blk iT.ae HFN.ae;have hsw:wr.heap[lb]?=w.heap[lb]?:=HT.ae.block lb hsb hsq;have fE:=(bI hsw i).trans hsc;have hP:=eS hsb HT.ae.size;have hRw:=HR.ae.turn HT.ae;have azL:=HO.ae;generalize ys[i]=y at*;generalize qs[i]=q at*;generalize ss[i]=s at*;unfold cC at hex;have HNX:=aa (show NQ ((ys.map Ex.n).drop (i+1))<=(rem.drop y.n).length by rw[length_drop];omega);have hI0:y.n<=rem.length:=WC;have iJ:=aa Il;have HQN:=aa Pz;have ajL:=aa lQ;have HB:=aa hqk;have XE:=aa fE;have Ae:=aa hP;have V2:=aa aqn;have LJ:=aa bc;have HG0:=aa fq;have HI0:=aa hI0;have HHL:=aa hkq;clear hdr ud Ry hp0 BL Il avC qV aqn bc Pz lQ hqk hsb hsc hsq hsw fE hP fq hI0 hkq;go_upto_region 4 with fail;have k1:=aB.new wr 46 (ay y);have Oe:=ah wr (.cells (ay y) 46);generalize hW1:wr.alloc (.cells (ay y) 46)=W1 at*;have HZ:=aB.new W1 187 nY;have b2:=ah W1 (.cells nY 187);unfold nY at HZ b2;generalize hW2:W1.alloc _=W2 at*;have k1:=k1.later b2;have bb:=aj.then Oe b2;obtain⟨g7,Pu⟩:∃g7,g7=wr.heap.size:=⟨_,rfl⟩;have hs1:W1.heap.size=g7+1:=by rw[<-hW1,World.size_alloc,Pu]
   rw[<-Pu]at k1⊢;rw[hs1]at HZ;obtain⟨g8,hg8⟩:∃g8,g8=g7+1:=⟨_,rfl⟩;rw[<-hg8]at HZ⊢;have oD:g7≠g8:=WC;have HT2:=aa (HT.ae.below bb);have UG:=aa (hRw.later bb);have Bv:=aa (hGw.later bb);have Oo:=aa (Ly.ae.later bb);have aoS:=aa (show cE W2 q s from aB.later V2.ae bb);have aoT:=aa ((bb.cell (p:=⟨lb,i,none⟩) Ae.ae).trans XE.ae);have ajc:=aa (eS Ae.ae bb.size);have YV:=aa (show wr.heap.size<=g8 by omega);have HGS:=aa (show lb≠g8 by have:=Ae.ae;omega);clear hGw hRw Ly V2 XE Ae Oe b2 bb hW1 hW2 hs1 Pu hg8 hex;obtain⟨m,hm⟩:∃m,m=rem.length:=⟨_,rfl⟩;rw[<-hm];have HM:=aa hm;have hYR:y.n<=m:=by rw[hm];exact HI0.ae
   have hC1:m<=c1:=by rw[hm];exact HC.ae
   clear hm;have HZH:=aa HZ;have V5:=aa k1;clear HZ k1;refine bD 6 (d4V g7 g8 m c1 y.n y.c MY y.A) (Xf _ _ _ _ _ _ _ _) Taa Taa Taa ?_ ?_
   ·simp only[take_succ_cons,take_zero];refine⟨Zaa,Zaa,Zaa,?_,Zaa,?_,trivial⟩
    ·intro ρ W4 hc hL hr;have h0:_=_:=hr.1;have c0:=(V5.ae.later hL).cell 6;exact ZaW
    intro ρ W4 hc hL hr;have h0:_=_:=hr.1;have h1:_=_:=hr.2.1;have hs:=Xe MY m c1 y.n WC W4;exact Zde
   intro W3 hL;simp only[Uab];rintro _ rfl a1-a2-a3-a4-_ rfl;simp only[bw,Act.put,Uac];have Rz:=aa (show aB W3 g8 187 nY from HZH.ae.later hL);have HR3:=aa (((UG.ae.later hL).Q0 y.n));have HLT:=aa (show(rem.take y.n).length=y.n by rw[length_take];have:=HI0.ae;omega);have NW:=aa (Bv.ae.later hL);have Fs:=aa (V5.ae.later hL);have DB:=aa (Oo.ae.later hL);have aoW:=aa (show cE W3 q s from aB.later aoS.ae hL);have aoX:=aa ((hL.cell (p:=⟨lb,i,none⟩) ajc.ae).trans aoT.ae);have aje:=aa (eS ajc.ae hL.size);have HT3:=aa (HT2.ae.below hL);clear hL HZH V5 Bv Oo aoS aoT ajc HT2 UG;have fW:=λ u=>ub MY m c1 y.n hYR u;refine Bu rfl (.tmp 19) (.tmp 24) rfl g8 MY (rem.take y.n) c1 2 y.n rfl rfl HLT.ae.symm Rz.ae (by rw[HLT.ae];exact HG0.ae) HR3.ae ?_;intro Kx u4 hz4 hg4;have tZ:=aa (NW.ae.grown hg4 (λ e=>by injection e with e;exact lJ NW.ae Rz.ae Tab e));have HX:=Fs.ae.grown hg4 (λ e=>by injection e with e;exact oD e);have x6:=HX.cell 6;simp only[Uaa]at x6;have Kf:=aa (DB.ae.uN Rz.ae Tab);have IH:=aa (DB.ae.keep hg4.size λ q hq=>hg4.block q (DB.ae.low q hq).2 (λ e=>by injection e with e;subst e;exact Kf.ae hq));have PD:=aa (show cE Kx q s from aB.grown aoW.ae hg4 (λ e=>by injection e with e;subst e;exact Kf.ae ajL.ae));have Oj:=aa ((bI (hg4.block lb aje.ae (λ e=>by injection e with e;exact HGS.ae e)) i).trans aoX.ae);have Vg:=aa (eS aje.ae hg4.size);have avF:=aa (show w.heap.size<=g8 from fK HT.ae.size YV.ae);have HT4:=aa (show qD w Kx qs from⟨hg4.os.trans HT3.ae.os,hg4.tape.trans HT3.ae.tape,hg4.output.trans HT3.ae.output,fK HT3.ae.size hg4.size,λ i hk hn=>(hg4.block i (eS hk HT3.ae.size) (λ e=>by injection e with e;have:=avF.ae;omega)).trans (HT3.ae.block i hk hn)⟩);have YW:=aa hz4;clear hz4 hg4 NW Fs DB aoW aoX aje HT3 Rz HR3 HX;go_wp2_with fail;have K1:=tZ;have zu:=IH;have HYB:=PD;have Za:=Oj;have YN:=Vg;have Ie:=YW;have HT5:=HT4;have HAB:=aa (show(lT (rem.take y.n)).1.Ok/\(lT (rem.take y.n)).2.Ok by
    have bc:∀j,((rem.take y.n).getD j aM).Ok:=λ j=>by
     rw[getD_eq_getElem?_getD];cases hj:(rem.take y.n)[j]? with
     |none=>exact ed
     |some v=>exact HV.ae v (mem_of_mem_take (mem_of_getElem? hj))
    exact⟨bc 0,bc 1⟩)
   obtain⟨a,ha⟩:∃a,a=(lT (rem.take y.n)).1:=⟨_,rfl⟩;obtain⟨b2,hb2⟩:∃b2,b2=(lT (rem.take y.n)).2:=⟨_,rfl⟩;rw[<-ha,<-hb2]at HAB Ie HQN;clear tZ IH PD Oj Vg YW HT4 x6 ha hb2 fW;refine bD 11 (d6V gg g8 lb qs.length sc i q a b2) (Xg _ _ _ _ _ _ _ _ _) Taa Taa Taa ?_ ?_
   ·simp only[take_succ_cons,take_zero];refine⟨Zaa,Zaa,Zaa,?_,Zaa,?_,Zgx,Zaa,?_,?_,?_,trivial⟩
    ·intro ρ W4 hc hL hr;have h0:_=_:=hr.1;have c0:=(K1.ae.later hL).cell 1;exact ZaW
    ·intro ρ W4 hc hL hr;have h0:_=_:=hr.1;have h1:_=_:=hr.2.1;have Ml:=HHL.ae;exact aq (w':=W4) (by simp[go_sem,h0,h1,Ml,dX];done) ⟨aj.refl _,rfl⟩
    intro ρ W4 hc hL hr;have h0:_=_:=hr.1;have cL:=Ie.ae.later hL;have y0:=cL.cell 0;have y1:=cL.cell 1;have c2:=cL.cell 2;exact Zgz
    ·intro ρ W4 hc hL hr;have h0:_=_:=hr.1;exact aq (w':=W4) (by simp[go_sem,h0,hc.const,dX];done) ⟨aj.refl _,rfl⟩
    intro ρ W4 hc hL hr;have h0:_=_:=hr.1;have cL:=Ie.ae.later hL;have y0:=cL.cell 3;have y1:=cL.cell 4;have c2:=cL.cell 5;exact Zgz
   intro W5 hL;simp only[Uab];rintro a0-a1-a2-a3-a4-a5-_ rfl a7-_ rfl a9-_ rfl;simp only[bw,Act.put,Uac];have HS6:=aa (zu.ae.later hL);have apg:=aa (show cE W5 q s from aB.later HYB.ae hL);have yC:=aa (HT5.ae.below hL);clear hL K1 zu HYB Za YN Ie HT5;go_wp2_with fail;refine(C6 q s a b2 W5 apg.ae LJ.ae.1 LJ.ae.2 HAB.ae.1).mono ?_;rintro e w7 ⟨rfl,hst,Pu⟩;have HS7:=aa (HS6.ae.put HB.ae Pu hst);have HT7:=aa (yC.ae.grown ajL.ae Pu);clear hst Pu HS6 apg yC;go_wp2_with fail;go_roundw
   case rel=>
    refine⟨i+1,fk MY c1 y.n,c1-y.n,rem.drop y.n,hlt,by go_num,?_,⟨?_,zD HR.ae.off⟩,?_,?_,?_,iJ.ae,HNX.ae,?_,HT7.ae⟩;rw[length_drop,<-HM.ae];exact HR.ae.rv.UJ y.n c1 (by have:=HC.ae;omega);rw[length_drop];have:=HC.ae;omega;rw[length_drop];have:=pE.ae;omega;exact λ v hv=>HV.ae v (mem_of_mem_drop hv);rw[<-HQN.ae];exact HS7.ae
   case measure=>exact Za2
  have fX:i=ys.length:=by omega
  subst fX;have Jn:(eK ss ps).length=ss.length:=by have h1:=QY.ae;have h2:=HL.ae;unfold eK;rw[length_zipWith];omega
  have hst:=Ly.ae;rw[take_of_length_le (by rw[Jn];have:=HL.ae;omega),drop_eq_nil_of_le (by have:=HL.ae;omega),append_nil]at hst;have HST:=aa hst;clear hst Jn Ly;go_wp2_with fail;go_end0;exact⟨rfl,HST.ae,HT.ae⟩):=h
theorem Au(gp gg B base:Nat)(ys:v_)(AA:xP)(ac:Nat)(kv sv:Value)(qs:List Nat)(ss:List St)(l:w_)(A0:xP)(LE:Nat)(w:t_)
  (hn:ys.length<=1000000) (M7:gp<B) (hJ:B<=w.heap.size) (hh:w.cell? ⟨gp,9,none⟩=some (.slice AA ys.length ac)) (Bi:RE w B AA ys) (Ui:aB w gg 141 #[kv,sv]) (qT:aH dh 145 1 w base sv qs)
  (Lw:dK w B qs ss) (hw:qs.length=ys.length) (hR:RVq w qs A0 l) (hc:l.length<=LE) (Vn:NQ (ys.map Ex.n)<=l.length) (fq:∀y∈ys,y.n<=2) (bc:∀s∈ss,s.Ok/\s.all<4611686018427387904) (hv:∀v∈l,v.Ok) (Pk:l.length<=1000000):
  ar 67 #[aw gp,aw gg,.slice A0 l.length LE] w λ e w'=>e=.returned (.tuple #[])/\dK w' B qs (eK ss (mS (ys.map Ex.n) l))/\qD w w' qs:=by
 have hfn:=Lw.uN Ui Tab;have hz:=Lw.ne qT;have hl:ss.length=ys.length:=by rw[<-Lw.len];exact hw
 obtain⟨SA,sc,rfl,hS⟩:=ey (f:=dh) (size:=1) (λ _=>rfl) qT;have hcw:=Ui.cell 1;obtain⟨ps,pd⟩:∃ps,ps=mS (ys.map Ex.n) l:=⟨_,rfl⟩;rw[<-pd];have QY:=aa (show ps.length=ys.length by
  have hp:∀(ns:List Nat) (l:w_),(mS ns l).length=ns.length:=by
   intro ns
   induction ns with
   |nil=>intro l;rfl
   |cons n ns ih=>intro l;show(mS ns (l.drop n)).length+1=_;rw[ih];rfl
  rw[pd,hp,length_map])
 have ud:=aa (show mS ((ys.map Ex.n).drop 0) l=ps.drop 0 from pd.symm);have Ry:=aa (show NQ ((ys.map Ex.n).drop 0)<=l.length from Vn);have HS0:=aa (show dK w B qs ((eK ss ps).take 0++ss.drop 0)from Lw);have LT:=aa (show(eK ss ps).length<=ss.length by unfold eK;rw[length_zipWith];omega);have HR:=aa hR;have HC:=aa hc;have HY2:=aa fq;have HG:=aa bc;have HV:=aa hv;open zcI in exact Zbf
end Go.Proofs.YtndgjggokjickaaGreatDoor
