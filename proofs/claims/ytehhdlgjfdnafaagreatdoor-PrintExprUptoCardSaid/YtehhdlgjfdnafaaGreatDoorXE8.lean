/- Parts of the proof. -/
import Derived.Test.YtehhdlgjfdnafaaGreatDoorXE6
import Derived.Test.YtehhdlgjfdnafaaGreatDoorXE7
namespace Go.Proofs.YtehhdlgjfdnafaaGreatDoor
variable{p:Prop}
set_option maxHeartbeats 90000000
set_option maxRecDepth 100000
open Go.Lib (hid)
open Go.ChangeShapes Go.WideShapes Go.ChangeAt Go.RowKit Go.Shelf List
set_option linter.unusedVariables false
set_option linter.unusedSimpArgs false
theorem Sk:∀(l:List UInt8) (v:Nat),v*10 ^ l.length<=l.foldl (λ v c=>v*10+(c.toNat - 48)) v
 | [],v=>by simp
 | c::l,v=>by
   have:=Sk l (v*10+(c.toNat - 48));simp only[foldl_cons,length_cons,Nat.pow_succ];have h:v*10*10 ^ l.length<=(v*10+(c.toNat - 48))*10 ^ l.length:=Nat.mul_le_mul_right _ Taa;have e:v*(10 ^ l.length*10)=v*10*10 ^ l.length:=by rw[Nat.mul_comm (10 ^ l.length),Nat.mul_assoc]
   rw[e];omega
theorem Sm{l:List UInt8}(hd:∀c∈l,aH c=true)(hl:19 < l.length)(h0:l.head?≠some 48):9223372036854775807 < gh l:=by
 match l with
 | []=>simp at hl
 | c::r=>
   have hc:=hd c mem_cons_self;simp[aH,UInt8.le_iff_toNat_le] at hc;have QP:c.toNat≠48:=λ e=>h0 (by rw[show c=48 from UInt8.toNat_inj.1 e];rfl)
   have h1:=Sk r (0*10+(c.toNat - 48));have h2:10 ^ 19<=10 ^ r.length:=Nat.pow_le_pow_right Tac (by simp at hl;omega);have h3:1*10 ^ r.length<=(0*10+(c.toNat - 48))*10 ^ r.length:=Nat.mul_le_mul_right _ Taa;show _ < List.foldl _ _ _;rw[foldl_cons];have h4:(10:Nat)^ 19=10000000000000000000:=by decide
   omega
variable{i:Nat}{c:UInt8}
theorem Sn{l:List UInt8}  (h:l[i]?=some c):gh (l.take (i+1))=gh (l.take i)*10+(c.toNat - 48):=by rw[take_add_one,h];exact Gn _ _
theorem Kl (l:List UInt8)(i:Nat):gh (l.take i)<=gh l:=by
 conv=>rhs;rw[<- take_append_drop i l]
 unfold gh;rw[foldl_append];exact Gp _ _
theorem Sp(h:aH c=true):48<=c.toNat/\c.toNat<=57:=by simpa [aH,UInt8.le_iff_toNat_le] using h
def lI (q:List UInt8)(w:World)(e:Ending)(w':World):Prop:=(if pd q=true then e=.returned (.tuple #[.int .i64 (gh q),.bool true])else e=.returned (.tuple #[.int .i64 0,.bool false]))/\w=w'
variable{q:List UInt8}{w:World}{e:Ending}
theorem Km(h:pd q=false)(he:e=.returned (.tuple #[.int .i64 0,.bool false])):lI q w e w:=by unfold lI;rw[h,if_neg Tac];exact⟨he,rfl⟩
theorem Xg(h:pd q=true)(he:e=.returned (.tuple #[.int .i64 (gh q),.bool true])):lI q w e w:=by unfold lI;rw[if_pos h];exact⟨he,rfl⟩
theorem xO (s:ByteArray)(w:World)(hd:∀c∈s.data.toList,aH c=true)(h0:0 < s.size)(hs:s.size<=4294967280):Calls Tryz.prog 157 #[.string s] w (lI s.data.toList w):=by
 have HLEN:=hid (show s.data.toList.length=s.size by simp);have HDG:=hid hd;have Zq:s.data.toList.head?=some s[0]:=by rw[head?_eq_getElem?];exact byte_at s 0 h0
 have HH:=hid Zq;clear hd Zq;by_cases hz:1 < s.size/\s[0]=48
 ·have t1:(((s[0].toNat:Nat):Int)==48)=true:=by rw[hz.2];rfl
  have HB:=hid (show pd s.data.toList=false by
   have:¬s.data.toList.length<=1:=by rw[HLEN.out];omega
   simp only[pd,HH.out,hz.2,this]
   rfl)
  have hz1:=hz.1;exact ZfN
 ·by_cases aco:19 < s.size
  ·have t1:(((s[0].toNat:Nat):Int)==48)=false:=by rw[beq_eq_false_iff_ne];intro h;exact hz ⟨by omega,UInt8.toNat_inj.1 Tbi⟩
   have HB:=hid (show pd s.data.toList=false by
    have h1:=Sm HDG.out (by rw[HLEN.out];exact aco) (by rw[HH.out];intro e;injection e with e;exact hz ⟨by omega,e⟩)
    have h2:¬gh s.data.toList<=9223372036854775807:=by omega
    simp only[pd,h2]
    simp)
   exact ZfN
  ·have HF:=hid (show(decide (s.data.toList.length<=1)|| !(s.data.toList.head?==some 48))=true by
    rw[HLEN.out,HH.out]
    by_cases h1:s.size<=1
    ·simp[h1]
    ·have:s[0]≠48:=λ e=>hz ⟨by omega,e⟩
     simp[h1,this])
   have hz2:¬(1 < s.size)\/(1 < s.size/\(((s[0].toNat:Nat):Int)==48)=false):=by
    by_cases h1:1 < s.size
    ·refine .inr ⟨h1,?_⟩;rw[beq_eq_false_iff_ne];intro h;exact hz ⟨h1,UInt8.toNat_inj.1 Tbi⟩
    ·exact .inl h1
   clear hz
   rcases hz2 with hz2 |⟨hz1,hz2⟩;all_goals
    go_enter Tryz.func157,Tryz.ntmps157;go_wp2_with fail;go_loop [4,5] (λ v u=>∃i:Nat,i<=s.size/\u=.int .i64 i/\v=.int .i64 (gh (s.data.toList.take i):Nat)/\gh (s.data.toList.take i)<=9223372036854775807) (λ _ u=>s.size - (intOf u).toNat);case atStart=>exact⟨0,by omega,rfl,rfl,by simp[gh]⟩
    case round=>
     obtain⟨i,hi,rfl,rfl,hv⟩:=hrel;by_cases hlt:i < s.size
     ·have HB:=hid (byte_at s i hlt);obtain⟨d1,d2⟩:=Sp (HDG.out s[i] (mem_of_getElem? HB.out));have HV:=hid (Sn HB.out);have Ej:=hid (Kl s.data.toList (i+1));generalize Rn:gh (s.data.toList.take i)=v at*;have HVV:=hid Rn;clear Rn;by_cases nV:v*10+(s[i].toNat - 48)<=9223372036854775807
      ·have n1:=decide_eq_false (show¬((9223372036854775807 - ((s[i].toNat:Int) - 48))/ 10 <(v:Int)) by omega);go_wp2_with fail;go_round;case rel=>
        refine⟨i+1,hlt,by go_num,?_,by rw[HV.out];exact nV⟩;rw[HV.out];have:((v*10+(s[i].toNat - 48):Nat):Int)=(v:Int)*10+((s[i].toNat:Int) - 48):=by omega
        rw[this]
       case measure=>simp[intOf];omega
      ·have n1:=decide_eq_true (show((9223372036854775807 - ((s[i].toNat:Int) - 48))/ 10 <(v:Int)) by omega);go_wp2_with fail;go_ret2;refine Km ?_ rfl;have h1:=Ej.out;rw[HV.out] at h1;have h2:¬gh s.data.toList<=9223372036854775807:=by omega
       simp only[pd,h2];simp
     ·go_wp2_with fail;go_ret2;have e1:s.data.toList.take i=s.data.toList:=take_of_length_le Tao;rw[e1] at hv ⊢;exact Xg (by rw[pd,HF.out];simpa using hv) rfl
theorem zgS.Kca(h:p:=by go_wp2_with (go_at_call 92;refine(eW s[k] _).mono ?_;rintro e w' ⟨rfl,rfl⟩;rw[HLB.out]);exact Zcg):p:=h
theorem zgT.Kca(h:p:=by
 go_wp2_with (go_at_call 92;refine(eW s[k] _).mono ?_;rintro e w' ⟨rfl,rfl⟩;rw[HLB.out]);refine bodyPost_ret (v:=.tuple #[.agg #[.int .u8 0,.string ⟨#[]⟩,.int .i64 0,.int .i64 0],.int .i64 0,.int .i64 30]) Zb2 rfl ?_
 ·rw[HR.out];exact ZdY):p:=h
theorem zdI.KaV(h:p:=by
 cases yC:pd ((s.data.toList.drop at_).takeWhile aH)
 ·have OU:=hid yC;clear yC;go_wp2_with (go_at_call 93;refine(fU s[k] _).mono ?_;rintro e w' ⟨rfl,rfl⟩;rw[HD.out]);exact Zce
 ·have OU:=hid yC;clear yC;cases hlb:bB s[k]
  ·have HLB:=hid hlb;have HR:=hid (show R=.ok (⟨2,[],gh ((s.data.toList.drop at_).takeWhile aH)⟩,(s.data.toList.drop at_).dropWhile aH) by
    rw[kh.out,OU.out,MH.out,drop_at HB.out]
    simp[hlb])
   open zgS in exact ZeP
  ·have HLB:=hid hlb;have HR:=hid (show R=.error 30 by
    rw[kh.out,OU.out,MH.out,drop_at HB.out]
    simp[hlb])
   open zgT in exact ZeP):p:=h
theorem zdJ.KaV(h:p:=by
 cases yC:pd ((s.data.toList.drop at_).takeWhile aH)
 ·have OU:=hid yC;clear yC;go_wp2_with fail;exact Zce
 ·have OU:=hid yC;clear yC;have HR:=hid (show R=.ok (⟨2,[],gh ((s.data.toList.drop at_).takeWhile aH)⟩,(s.data.toList.drop at_).dropWhile aH) by
   rw[kh.out,OU.out,MH.out,drop_eq_nil_of_le Tao]
   rfl)
  go_wp2_with fail;refine HN.out.mono ?_;unfold lI;rw[HE.out,OU.out];rintro e w1 ⟨he,rfl⟩;rw[if_pos rfl] at he;subst he;go_wp2_with fail;exact Zcg):p:=h
theorem zgk.KbV(h:p:=by
 generalize w.alloc (.cells #[.int .u8 0,.string ⟨#[]⟩,.int .i64 0,.int .i64 0] 81)=W at*;go_loop [8] (λ u=>∃k:Nat,at_<=k/\k<=s.size/\u=.int .i64 k/\dR aH s.data.toList at_=dR aH s.data.toList k) (λ u=>s.size - (intOf u).toNat);case atStart=>exact⟨at_,Nat.le_refl _,by omega,rfl,rfl⟩
 case round=>
  obtain⟨k,yu,hk2,rfl,hf⟩:=hrel;have HF:=hid hf;clear hf;by_cases hlt:k < s.size
  ·have HB:=hid (byte_at s k hlt);cases hd:aH s[k]
   ·have HD:=hid hd;have xJ:=hid (show dR aH s.data.toList at_=k by rw[HF.out];exact yN HB.out hd);clear hd;open zdI in exact Zbw
   ·have HD:=hid hd;have xJ:=hid (show dR aH s.data.toList at_=dR aH s.data.toList (k+1) by rw[HF.out];exact pj HB.out hd);clear hd;go_wp2_with (go_at_call 93;refine(fU s[k] _).mono ?_;rintro e w' ⟨rfl,rfl⟩;rw[HD.out]);exact Zd2
  ·have xJ:=hid (show dR aH s.data.toList at_=k by rw[HF.out];exact uV Tao);open zdJ in exact Zbw):p:=h
theorem one_num (s:ByteArray)(at_:Nat)(w:World)(ha:at_ < s.size)(hl:bB s[at_]=false)(hc:aH s[at_]=true)(hs:s.size<=4294967280):
  Calls Tryz.prog 125 #[.string s,.int .i64 at_] w (yB s at_ w (dF (s.data.toList.drop at_))):=by
 have hd:=drop_at (byte_at s at_ ha);have dx:dF (s.data.toList.drop at_)=if pd ((s.data.toList.drop at_).takeWhile aH)&& !(((s.data.toList.drop at_).dropWhile aH).head?.any bB)then .ok (⟨2,[],gh ((s.data.toList.drop at_).takeWhile aH)⟩,(s.data.toList.drop at_).dropWhile aH)else .error 30:=by rw[hd];simp only[dF,hl,if_pos hc];rfl
 have JL:0 <((s.data.toList.drop at_).takeWhile aH).length:=by rw[hd,takeWhile_cons,if_pos hc];simp
 generalize dF (s.data.toList.drop at_)=R at*;have kh:=hid dx;have acB:=hid JL;have HC:=hid hc;have HL0:=hid hl;have HLEN:=hid (show s.data.toList.length=s.size by simp);clear dx hd hc hl JL;go_enter Tryz.func125,Tryz.ntmps125;go_wp2_with (first
  |(go_at_call 92;refine(eW s[at_] _).mono ?_;rintro e w' ⟨rfl,rfl⟩;rw[HL0.out])
  |(go_at_call 93;refine(fU s[at_] _).mono ?_;rintro e w' ⟨rfl,rfl⟩;rw[HC.out]))
 open zgk in exact Zec
variable{s:ByteArray}{a:Nat}{x:List UInt8}
theorem OV(hb:a+x.length<=s.size):((s.extract a (a+x.length)).toList==x)=x.isPrefixOf (s.data.toList.drop a):=by
 rw[ByteArray.toList_eq,mH,drop_take,Nat.add_sub_cancel_left];rw[Bool.eq_iff_iff,beq_iff_eq,isPrefixOf_iff_prefix];constructor
 ·intro h;refine⟨(s.data.toList.drop a).drop x.length,?_⟩;have:=take_append_drop x.length (s.data.toList.drop a);rwa [h] at this
 ·rintro⟨r,h⟩;rw[<- h];simp
theorem OW(hb:¬a+x.length<=s.size)(ha:a<=s.size):x.isPrefixOf (s.data.toList.drop a)=false:=by rw[Bool.eq_false_iff];intro h;rw[isPrefixOf_iff_prefix] at h;have:=h.length_le;rw[length_drop] at this;simp at this;omega
theorem zid.KcM(h:p:=by
 have hG:av ((w.alloc (.cells #[.int .u8 0,.string ⟨#[]⟩,.int .i64 0,.int .i64 0] 81)).alloc (.cells (signs.map λ l=>Value.string ⟨l.toArray⟩).toArray 9)) (w.heap.size+1) 9 (signs.map λ l=>Value.string ⟨l.toArray⟩).toArray:=by have:=av.new (w.alloc (.cells #[.int .u8 0,.string ⟨#[]⟩,.int .i64 0,.int .i64 0] 81)) 9 (signs.map λ l=>Value.string ⟨l.toArray⟩).toArray;simpa using this
 have bb:Below w.heap.size w ((w.alloc (.cells #[.int .u8 0,.string ⟨#[]⟩,.int .i64 0,.int .i64 0] 81)).alloc (.cells (signs.map λ l=>Value.string ⟨l.toArray⟩).toArray 9)):=((Below.refl _ _).alloc (Nat.le_refl _) _).alloc Tae _;have HG:=hid hG;clear hG t0;simp only[signs,map_cons,map_nil] at HZ HG bb;generalize (w.alloc (.cells #[.int .u8 0,.string ⟨#[]⟩,.int .i64 0,.int .i64 0] 81)).alloc _=W at*;go_loopw [13] (λ u wr=>∃i n:Nat,i<=15/\u=.int .i64 i/\wr=W.drewN n/\gV signs (s.data.toList.drop at_)=gV (signs.drop i) (s.data.toList.drop at_)) (λ u _=>15 - (intOf u).toNat);case atStart=>exact⟨0,0,by omega,rfl,rfl,rfl⟩
 case round=>
  obtain⟨i,n,hi,rfl,rfl,Zi⟩:=hrel;have Zj:=hid Zi;clear Zi;have HZn:=hid (HZ.out.drewN n);have bbn:=bb.trans ((cu W n).mono bb.size);by_cases RA:i < 15
  ·obtain⟨x,hx,Zk,hx1,hx2⟩:=Mn RA
   have hcell:(W.drewN n).cell? ⟨w.heap.size+1,i,none⟩=some (.string ⟨x.toArray⟩):=by
    rw[(HG.out.drewN n).cell i];have:(signs.map λ l=>Value.string ⟨l.toArray⟩).toArray[i]?=some (.string ⟨x.toArray⟩):=by simp[hx]
    exact this
   generalize hWn:W.drewN n=Wn at*;have HWN:=hid hWn;have NV:=hid Zk;clear hWn hx Zk;by_cases hto:at_+x.length<=s.size
   ·have n1:=decide_eq_true (show((at_:Int)+(x.length:Int))<=(s.size:Int) by omega);have HT:=hid (OV hto);cases hp:x.isPrefixOf (s.data.toList.drop at_)
    ·have HP:=hid hp;have t1:((s.extract at_ (at_+x.length)).toList==x)=false:=HT.out.trans hp;have ja:=λ W':World=>mO s at_ (at_+x.length) (at_:Int) ((at_:Int)+(x.length:Int)) rfl Taa Taa hto W'
     clear hp;exact Zea
    ·have HP:=hid hp;have t1:((s.extract at_ (at_+x.length)).toList==x)=true:=HT.out.trans hp;have ja:=λ W':World=>mO s at_ (at_+x.length) (at_:Int) ((at_:Int)+(x.length:Int)) rfl Taa Taa hto W'
     clear hp;go_wp2_with fail;go_quiet (fail);obtain⟨z0,z1,z2,z3,y0,y1,y2,y3⟩:=aI (HZn.out.drewN nq);have bq:=bbn.trans ((cu Wn nq).mono bbn.size);have iB:(Wn.drewN nq).cell? ⟨w.heap.size+1,i,none⟩=some (.string ⟨x.toArray⟩):=hcell;generalize Wn.drewN nq=Wq at*;clear hcell;go_wp2_with fail;refine bodyPost_ret (v:=.tuple #[.agg #[.int .u8 4,.string ⟨x.toArray⟩,.int .i64 0,.int .i64 at_],.int .i64 ((at_:Int)+(x.length:Int)),.int .i64 0]) Zb2 rfl ?_
     ·have e1:gV signs (s.data.toList.drop at_)=some x:=by rw[Zj.out,NV.out,gV,if_pos HP.out]
      rw[kh.out,e1];unfold yB;simp only;have e2:s.size - ((s.data.toList.drop at_).drop x.length).length=at_+x.length:=by rw[drop_drop,length_drop,HLEN.out];omega
      rw[e2];exact⟨rfl,vI bq (Nat.le_refl _) _ _ _ _⟩
   ·have n1:=decide_eq_false (show¬((at_:Int)+(x.length:Int))<=(s.size:Int) by omega);have HP:=hid (OW hto Taa);exact Zea
  ·obtain rfl:i=15:=by omega
   obtain⟨z0,z1,z2,z3,y0,y1,y2,y3⟩:=aI HZn.out;generalize W.drewN n=Wn at*;go_wp2_with fail;refine bodyPost_ret (v:=.tuple #[.agg #[.int .u8 0,.string ⟨#[]⟩,.int .i64 0,.int .i64 0],.int .i64 0,.int .i64 30]) Zb2 rfl ?_
   ·rw[kh.out,Zj.out];exact⟨rfl,vI bbn (Nat.le_refl _) _ _ _ _⟩):p:=h
theorem zfU.KbL(h:p:=by open zid in exact Zg7):p:=h
theorem SU (s:ByteArray)(at_:Nat)(w:World)(ha:at_ < s.size)(hl:bB s[at_]=false)(P9:aH s[at_]=false)(hq:s[at_]≠39)(hs:s.size<=4294967280):
  Calls Tryz.prog 125 #[.string s,.int .i64 at_] w (yB s at_ w (dF (s.data.toList.drop at_))):=by
 have hd:=drop_at (byte_at s at_ ha)
 have dx:dF (s.data.toList.drop at_)=match gV signs (s.data.toList.drop at_)with
   | some x=> .ok (⟨4,x,0⟩,(s.data.toList.drop at_).drop x.length)
   | none=> .error 30:=by
  rw[hd];simp only[dF,hl,P9,if_neg hq];rfl
 generalize dF (s.data.toList.drop at_)=R at*;have t0:(((s[at_].toNat:Nat):Int)==39)=false:=by rw[beq_eq_false_iff_ne];intro h;exact hq (UInt8.toNat_inj.1 (by simpa using(by omega:s[at_].toNat=39)))
 open zfU in exact ZdT
theorem Xs (s:ByteArray)(at_:Nat)(w:World)(ha:at_ < s.size)(hs:s.size<=4294967280):
  Calls Tryz.prog 125 #[.string s,.int .i64 at_] w (yB s at_ w (dF (s.data.toList.drop at_))):=by
 cases hl:bB s[at_]
 ·cases hd:aH s[at_]
  ·by_cases hq:s[at_]=39
   ·exact SS s at_ w ha hl hd hq hs
   ·exact SU s at_ w ha hl hd hq hs
  ·exact one_num s at_ w ha hl hd hs
 ·exact SR s at_ w ha hl hs
structure Tc (s:ByteArray) (w:World) (a:Nat) (v:Value) (acc:List mA) (wr:World):Prop where
 QQ:Below w.heap.size w wr
 own:Az wr w.heap.size v acc
 le:a<=s.size
 len:acc.length<=a
 skip:bG false (s.data.toList.drop a)=s.data.toList.drop a
 more:LX s.size s.data.toList=pre acc (LX s.size (s.data.toList.drop a))
theorem zfF.KbE(h:p:=by exact⟨rfl,fV.out.QQ.trans ((hb.mono KF).trans ((aa w2 _).mono (by have:=hb.size;omega)))⟩):p:=h
theorem zf1.KbO(h:p:=by
 have ahM:s.size - rest.length<=dD s (s.size - rest.length):=by unfold dD;rw[HQ.out];have:=jy false rest;omega
 clear hq Zw;unfold jz at HG HO nM;go_wp2_with (first
  |(at_builtin
    refine iD rfl (.tmp 30) (.tmp 32) 71 rfl _ 40 Tryz.underlying71 vK rfl Taa ⟨d,a⟩ rfl TaO rfl HO.out (w2.heap.size+1) rfl HG.out Taa Taa nM.out.size ?_
    intro v2 w3 o2 g2
    have b2:=mU HO.out g2 nM.out.size
    have O2:=hid o2
    have B2:=hid (nM.out.trans b2)
    clear o2 g2 HO HG b2 nM))
 refine(Db s (s.size - rest.length) _ (Nat.sub_le _ _) hs).mono ?_;rintro e w4 ⟨rfl,rfl⟩;go_wp2_with fail;go_roundw
 case rel=>
  refine⟨dD s (s.size - rest.length),acc++ [mA.mk d a],v2,rfl,rfl,B2.out,O2.out,mX _ _,?_,?_,Zcl⟩
  ·rw[length_append,length_singleton];omega
  ·rw[gQ];exact pL _ _
 case measure=>have:=mX s (s.size - rest.length);exact Zcj):p:=h
theorem zgi.KbU(h:p:=by have HG:=hid hG;have Tb:Below w.heap.size w ((w2.alloc (.cells (jz ⟨d,a⟩).toArray 81)).alloc (.cells (jz ⟨d,a⟩).toArray 81)):=fV.out.QQ.trans ((hb.mono KF).trans (bW.mono (by have:=hb.size;omega)));have nM:=hid Tb;clear hown hG Tb bW hb;open zf1 in exact ZdX):p:=h
theorem zg3.Kcf(h:p:=by clear hres;open zfF in exact Zdm):p:=h
theorem Td (s:ByteArray)(w:World)(hs:s.size<=4294967280):Calls Tryz.prog 75 #[.string s] w (kz s w):=by
 by_cases SZ:4096 < s.size
 ·unfold kz;rw[Ho SZ];go_enter Tryz.func75,Tryz.ntmps75;go_wp2_with fail;go_ret3;exact ZfK
 ·have rT:=hid (ML SZ);have HLEN:=hid (show s.data.toList.length=s.size by simp);go_enter Tryz.func75,Tryz.ntmps75;go_wp2_with fail;refine(Db s 0 _ (Nat.zero_le _) hs).mono ?_;rintro e w1 ⟨rfl,rfl⟩
  have hA:Tc s w (dD s 0) (.slice none 0 0) [] w:=by
   refine⟨Below.refl _ _,cz.nil,mX _ _,Nat.zero_le _,?_,?_⟩
   ·rw[gQ];exact pL _ _
   ·rw[gQ,vJ,MK];rfl
  generalize dD s 0=a0 at*;have HA:=hid hA;clear hA;go_wp2_with fail;go_loopw [5,6] (λ x y wr=>∃(a:Nat) (acc:List mA) (u:Value),x=u/\y=.int .i64 a/\Tc s w a u acc wr) (λ _ y _=>s.size - (intOf y).toNat);case atStart=>exact⟨a0,[],_,rfl,rfl,HA.out⟩
  case round=>
   obtain⟨a,acc,u,hu,rfl,hA⟩:=hrel;have hu2:=hu.symm;clear hu;subst hu2;have KF:=hA.QQ.size;have nZ:=hA.len;have hae:=hA.le;have fV:=hid hA;clear hA;by_cases ha:a < s.size
   ·go_wp2_with fail;refine(Xs s a _ ha hs).mono ?_;intro e w2 hp;have HB:=hid (byte_at s a ha);rcases hres:dF (s.data.toList.drop a)with x |⟨d,rest⟩
    ·rw[hres] at hp;obtain⟨rfl,hb⟩:=hp;open zg3 in exact Ze7
    ·rw[hres] at hp;obtain⟨rfl,hb⟩:=hp;have dY:=hid hres;clear hres;have bW:=((Below.refl w2.heap.size w2).alloc (Nat.le_refl _) (.cells (jz ⟨d,a⟩).toArray 81)).alloc Tae (.cells (jz ⟨d,a⟩).toArray 81);have hown:Az w2 w.heap.size u acc:=fV.out.own.later hb;open zgi in exact Zeb
   ·have hnil:s.data.toList.drop a=[]:=drop_eq_nil_of_le Tao;have JO:=hid hnil;clear hnil;have bW:=(Below.refl wr.heap.size wr).alloc (Nat.le_refl _) (.cells (jz (Ff s.size)).toArray 81);have HO:=hid (fV.out.own.later bW);have HG:=hid (av.new wr 81 (jz (Ff s.size)).toArray);have nM:=hid (fV.out.QQ.trans (bW.mono KF));clear bW;unfold jz Ff at HG HO nM;go_wp2_with (first
     |(at_builtin
       refine iD rfl (.tmp 37) (.tmp 41) 71 rfl _ 40 Tryz.underlying71 vK rfl Taa (Ff s.size) rfl TaO rfl HO.out wr.heap.size rfl HG.out Taa Taa nM.out.size ?_
       intro v2 w3 o2 g2
       have b2:=mU HO.out g2 nM.out.size
       have O2:=hid o2
       have B2:=hid (nM.out.trans b2)
       clear o2 g2 HO HG b2 nM))
    exact ZfZ
variable{l:List mA}
theorem Yd(h:kP s.data.toList=.ok l) (hs:s.size<=4294967280):
  Calls Tryz.prog 75 #[.string s] w λ e w'=>∃A c,e=.returned (.tuple #[.slice A l.length c,.int .i64 0,.int .i64 0])/\Az w' w.heap.size (.slice A l.length c) l/\Below w.heap.size w w':=by refine(Td s w hs).mono ?_;exact Zex
def Gb (n:Nat):List UInt8:=if h:n < 10 then [UInt8.ofNat (48+n)] else Gb (n / 10)++ [UInt8.ofNat (48+n % 10)]
termination_by n
decreasing_by omega
variable{n:Nat}
theorem Dc(h:n < 10):Gb n=[UInt8.ofNat (48+n)]:=by rw[Gb,dif_pos h]
theorem Sq(h:¬n < 10):Gb n=Gb (n / 10)++ [UInt8.ofNat (48+n % 10)]:=by rw[Gb,dif_neg h]
variable{k:Nat}
theorem GV(h:k < 10):(UInt8.ofNat (48+k)).toNat=48+k:=by simp;omega
theorem GX:∀n:Nat,gh (Gb n)=n/\(∀c∈Gb n,aH c=true)/\Gb n≠ []/\(0 < n->(Gb n).head?≠some 48)/\∀k,n < 10 ^(k+1)->(Gb n).length<=k+1:=by
 intro n
 induction n using Nat.strongRecOn with
 | ind n ih=>
   by_cases h:n < 10
   ·rw[Dc h];have hb:=GV h;refine⟨by simp only[gh,foldl_cons,foldl_nil];rw[hb];omega,?_,by simp,?_,λ k _=>by simp⟩
    ·intro c hc;exact Zey
    ·intro h0 e;simp only[head?_cons,Option.some.injEq] at e;have:=congrArg UInt8.toNat e;rw[hb] at this;simp at this;omega
   ·have hlt:n / 10 < n:=by omega
    obtain⟨h1,h2,h3,h4,h5⟩:=ih (n / 10) hlt;have hk:n % 10 < 10:=by omega
    have hb:=GV hk;rw[Sq h];refine⟨by rw[Gn,h1,hb];omega,?_,by simp,?_,?_⟩
    ·intro c hc;rcases List.mem_append.1 hc with hc | hc
     ·exact h2 c hc
     ·exact Zey
    ·intro _;have:=h4 Taa
     cases hd:Gb (n / 10)with
     | nil=>exact absurd hd h3
     | cons d r=>rw[hd] at this;exact Zep
    ·intro k hk2
     cases k with
     | zero=>omega
     | succ k=>
       have:n / 10 < 10 ^(k+1):=by rw[Nat.pow_succ] at hk2;omega
       have:=h5 k this;simp only[length_append,length_singleton];omega
theorem Xh(hn:n<=9223372036854775807):pd (Gb n)=true:=by
 obtain⟨h1,h2,h3,h4,h5⟩:=GX n;simp only[pd,h1,decide_eq_true hn,Bool.and_true,Bool.or_eq_true,decide_eq_true_eq,Bool.not_eq_true'];by_cases h:n < 10
 ·left;rw[Dc h];simp
 ·right;have:=h4 Taa;exact Zep
def Cl:List UInt8->List UInt8
 | []=> []
 | c::l=>if c=39 then 39::39::Cl l else c::Cl l
variable{y:List UInt8}
theorem Ad(hy:y.head?≠some 39):∀(s acc:List UInt8),more acc (fJ (Cl s++39::y))=some (acc++s,y)
 | [],acc=>by rw[append_nil];exact rH hy acc
 | c::s,acc=>by
   by_cases h:c=39
   ·subst h;simp only[Cl,if_true,cons_append];rw[zL,Ad hy s];simp
   ·simp only[Cl,if_neg h,cons_append];rw[ud h,Ad hy s];simp
variable{r:List UInt8}
theorem qm(h1:cG c=false)(h2:c≠45):bG false (c::r)=c::r:=by rw[bG,h1,if_neg Tac,if_neg (λ h=>h2 h.1)]
theorem Kn:signs.all (λ s=>match s with | []=>false | c::_=> !bB c && !aH c && !(c==39)&& !cG c)=true:=by decide+kernel
def Ul (t:Wd):Prop:=(0<=t.n/\t.n<=9223372036854775807)/\(t.k=4->t.s∈signs)
variable{rest:List UInt8}
theorem Ya{w:Wd}(h:dF r=.ok (w,rest)):Ul w:=by
 match r with
 | []=>cases h
 | c::r=>
   simp only[dF] at h;split at h
   ·exact Zeu
   split at h
   ·split at h
    ·rename_i hb;injection h with h;injection h with h1 h2;subst h1;refine⟨?_,λ e=>by simp at e⟩;simp only[Bool.and_eq_true,pd,decide_eq_true_eq] at hb;have:=hb.1.2;simp only;omega
    ·cases h
   split at h
   ·exact Zeu
   ·split at h
    ·rename_i s hs;injection h with h;injection h with h1 h2;subst h1;exact⟨⟨by simp,by simp⟩,λ _=>(rG hs).1⟩
    ·cases h
theorem Iz (n:Nat):∀(f:Nat) (r:List UInt8) (l:List mA),pW n f r=.ok l->(∃b,l=b++ [⟨⟨0,[],0⟩,n⟩])/\l.length<=r.length+1/\∀t∈l,Ul t.w
 | 0,r,l,h=>by cases h
 | f+1,r,l,h=>by
   have hle:=jy false r;simp only[pW] at h;split at h
   ·injection h with h;subst h;exact⟨⟨[],rfl⟩,by simp,λ t ht=>by simp at ht;subst ht;exact⟨⟨by simp,by simp⟩,λ e=>by simp at e⟩⟩
   ·rename_i c r' hsk;rw[hsk] at hle;split at h
    ·cases h
    ·rename_i w rest ho;have hlt:=sL ho;split at h
     ·cases h
     ·rename_i l' hl';injection h with h;subst h;obtain⟨⟨b,hb⟩,h1,h2⟩:=Iz n f rest l' hl';refine⟨⟨⟨w,_⟩::b,by rw[hb];rfl⟩,by simp only[length_cons] at hlt hle ⊢;omega,λ t ht=>?_⟩;rcases List.mem_cons.1 ht with rfl | ht
      ·exact Ya ho
      ·exact h2 t ht
theorem zm{s:List UInt8} (h:kP s=.ok l):(∃b n,l=b++ [⟨⟨0,[],0⟩,n⟩])/\l.length<=4097/\∀t∈l,Ul t.w:=by
 unfold kP at h;split at h
 ·cases h
 ·rename_i hs;obtain⟨⟨b,hb⟩,h1,h2⟩:=Iz _ _ _ _ h;exact⟨⟨b,_,hb⟩,by omega,h2⟩
theorem DD{s:List UInt8} (h:kP s=.ok l):iG (l.map (·.w)):=by obtain⟨⟨b,n,rfl⟩,_⟩:=zm h;exact⟨b.map (·.w),⟨0,[],0⟩,by simp,rfl⟩
theorem PN{s:List UInt8} (h:kP s=.ok l):∃t r,l=t::r:=by
 obtain⟨⟨b,n,rfl⟩,_⟩:=zm h
 cases b with
 | nil=>exact⟨_,_,rfl⟩
 | cons t b=>exact⟨_,_,rfl⟩
end Go.Proofs.YtehhdlgjfdnafaaGreatDoor
