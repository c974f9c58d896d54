/- Parts of the proof. -/
import Derived.Test.YtehhdlgjfdnafaaGreatDoorXB6
import Derived.Test.YtehhdlgjfdnafaaGreatDoorXB7
namespace Go.Proofs.YtehhdlgjfdnafaaGreatDoor
variable{p:Prop}
set_option maxHeartbeats 90000000
set_option maxRecDepth 100000
open Go.Lib (hid)
open Go.ChangeShapes Go.WideShapes Go.ChangeAt Go.RowKit Go.Shelf List
set_option linter.unusedVariables false
set_option linter.unusedSimpArgs false
theorem Xu:∀(l:List UInt8) (v:Nat),v*10 ^ l.length<=l.foldl (λ v c=>v*10+(c.toNat - 48)) v
 | [],v=>by simp
 | c::l,v=>by
   have:=Xu l (v*10+(c.toNat - 48));simp only[foldl_cons,length_cons,Nat.pow_succ];have h:v*10*10 ^ l.length<=(v*10+(c.toNat - 48))*10 ^ l.length:=Nat.mul_le_mul_right _ Taa;have e:v*(10 ^ l.length*10)=v*10*10 ^ l.length:=by rw[Nat.mul_comm (10 ^ l.length),Nat.mul_assoc]
   rw[e];omega
theorem Xv{l:List UInt8}(hd:∀c∈l,aL c=true)(hl:19 < l.length)(h0:l.head?≠some 48):9223372036854775807 < gO l:=by
 match l with
 | []=>simp at hl
 | c::r=>
   have hc:=hd c mem_cons_self;simp[aL,UInt8.le_iff_toNat_le] at hc;have VR:c.toNat≠48:=λ e=>h0 (by rw[show c=48 from UInt8.toNat_inj.1 e];rfl)
   have h1:=Xu r (0*10+(c.toNat - 48));have h2:10 ^ 19<=10 ^ r.length:=Nat.pow_le_pow_right Tab (by simp at hl;omega);have h3:1*10 ^ r.length<=(0*10+(c.toNat - 48))*10 ^ r.length:=Nat.mul_le_mul_right _ Taa;show _ < List.foldl _ _ _;rw[foldl_cons];have h4:(10:Nat)^ 19=10000000000000000000:=by decide
   omega
variable{i:Nat}{c:UInt8}
theorem Xw{l:List UInt8}  (h:l[i]?=some c):gO (l.take (i+1))=gO (l.take i)*10+(c.toNat - 48):=by rw[take_add_one,h];exact JV _ _
theorem NR (l:List UInt8)(i:Nat):gO (l.take i)<=gO l:=by
 conv=>rhs;rw[<- take_append_drop i l]
 unfold gO;rw[foldl_append];exact JW _ _
theorem Xx(h:aL c=true):48<=c.toNat/\c.toNat<=57:=by simpa [aL,UInt8.le_iff_toNat_le] using h
def mB (q:List UInt8)(w:World)(e:Ending)(w':World):Prop:=(if pQ q=true then e=.returned (.tuple #[.int .i64 (gO q),.bool true])else e=.returned (.tuple #[.int .i64 0,.bool false]))/\w=w'
variable{q:List UInt8}{w:World}{e:Ending}
theorem NT(h:pQ q=false)(he:e=.returned (.tuple #[.int .i64 0,.bool false])):mB q w e w:=by unfold mB;rw[h,if_neg Tab];exact⟨he,rfl⟩
theorem U0(h:pQ q=true)(he:e=.returned (.tuple #[.int .i64 (gO q),.bool true])):mB q w e w:=by unfold mB;rw[if_pos h];exact⟨he,rfl⟩
theorem Af (s:ByteArray)(w:World)(hd:∀c∈s.data.toList,aL c=true)(h0:0 < s.size)(hs:s.size<=4294967280):Calls Tryz.prog 157 #[.string s] w (mB s.data.toList w):=by
 have HLEN:=hid (show s.data.toList.length=s.size by simp);have HDG:=hid hd;have abX:s.data.toList.head?=some s[0]:=by rw[head?_eq_getElem?];exact byte_at s 0 h0
 have HH:=hid abX;clear hd abX;by_cases hz:1 < s.size/\s[0]=48
 ·have t1:(((s[0].toNat:Nat):Int)==48)=true:=by rw[hz.2];rfl
  have HB:=hid (show pQ s.data.toList=false by
   have:¬s.data.toList.length<=1:=by rw[HLEN.out];omega
   simp only[pQ,HH.out,hz.2,this]
   rfl)
  have hz1:=hz.1;exact Zf3
 ·by_cases ajI:19 < s.size
  ·have t1:(((s[0].toNat:Nat):Int)==48)=false:=by rw[beq_eq_false_iff_ne];intro h;exact hz ⟨by omega,UInt8.toNat_inj.1 Tbh⟩
   have HB:=hid (show pQ s.data.toList=false by
    have h1:=Xv HDG.out (by rw[HLEN.out];exact ajI) (by rw[HH.out];intro e;injection e with e;exact hz ⟨by omega,e⟩)
    have h2:¬gO s.data.toList<=9223372036854775807:=by omega
    simp only[pQ,h2]
    simp)
   exact Zf3
  ·have HF:=hid (show(decide (s.data.toList.length<=1)|| !(s.data.toList.head?==some 48))=true by
    rw[HLEN.out,HH.out]
    by_cases h1:s.size<=1
    ·simp[h1]
    ·have:s[0]≠48:=λ e=>hz ⟨by omega,e⟩
     simp[h1,this])
   have hz2:¬(1 < s.size)\/(1 < s.size/\(((s[0].toNat:Nat):Int)==48)=false):=by
    by_cases h1:1 < s.size
    ·refine .inr ⟨h1,?_⟩;rw[beq_eq_false_iff_ne];intro h;exact hz ⟨h1,UInt8.toNat_inj.1 Tbh⟩
    ·exact .inl h1
   clear hz
   rcases hz2 with hz2 |⟨hz1,hz2⟩;all_goals
    go_enter Tryz.func157,Tryz.ntmps157;go_wp2_with fail;go_loop [4,5] (λ v u=>∃i:Nat,i<=s.size/\u=.int .i64 i/\v=.int .i64 (gO (s.data.toList.take i):Nat)/\gO (s.data.toList.take i)<=9223372036854775807) (λ _ u=>s.size - (intOf u).toNat);case atStart=>exact⟨0,by omega,rfl,rfl,by simp[gO]⟩
    case round=>
     obtain⟨i,hi,rfl,rfl,hv⟩:=hrel;by_cases hlt:i < s.size
     ·have HB:=hid (byte_at s i hlt);obtain⟨d1,d2⟩:=Xx (HDG.out s[i] (mem_of_getElem? HB.out));have HV:=hid (Xw HB.out);have Hf:=hid (NR s.data.toList (i+1));generalize Wu:gO (s.data.toList.take i)=v at*;have HVV:=hid Wu;clear Wu;by_cases oQ:v*10+(s[i].toNat - 48)<=9223372036854775807
      ·have n1:=decide_eq_false (show¬((9223372036854775807 - ((s[i].toNat:Int) - 48))/ 10 <(v:Int)) by omega);go_wp2_with fail;go_round;case rel=>
        refine⟨i+1,hlt,by go_num,?_,by rw[HV.out];exact oQ⟩;rw[HV.out];have:((v*10+(s[i].toNat - 48):Nat):Int)=(v:Int)*10+((s[i].toNat:Int) - 48):=by omega
        rw[this]
       case measure=>simp[intOf];omega
      ·have n1:=decide_eq_true (show((9223372036854775807 - ((s[i].toNat:Int) - 48))/ 10 <(v:Int)) by omega);go_wp2_with fail;go_ret2;refine NT ?_ rfl;have h1:=Hf.out;rw[HV.out] at h1;have h2:¬gO s.data.toList<=9223372036854775807:=by omega
       simp only[pQ,h2];simp
     ·go_wp2_with fail;go_ret2;have e1:s.data.toList.take i=s.data.toList:=take_of_length_le Tao;rw[e1] at hv ⊢;exact U0 (by rw[pQ,HF.out];simpa using hv) rfl
theorem zhx.Kcl(h:p:=by go_wp2_with (go_at_call 92;refine(fy s[k] _).mono ?_;rintro e w' ⟨rfl,rfl⟩;rw[HLB.out]);exact Zcr):p:=h
theorem zhy.Kcl(h:p:=by
 go_wp2_with (go_at_call 92;refine(fy s[k] _).mono ?_;rintro e w' ⟨rfl,rfl⟩;rw[HLB.out]);refine bodyPost_ret (v:=.tuple #[.agg #[.int .u8 0,.string ⟨#[]⟩,.int .i64 0,.int .i64 0],.int .i64 0,.int .i64 30]) Zcd rfl ?_
 ·rw[HR.out];exact Zef):p:=h
theorem zec.Ka3(h:p:=by
 cases AH:pQ ((s.data.toList.drop at_).takeWhile aL)
 ·have Tm:=hid AH;clear AH;go_wp2_with (go_at_call 93;refine(gI s[k] _).mono ?_;rintro e w' ⟨rfl,rfl⟩;rw[HD.out]);exact Zco
 ·have Tm:=hid AH;clear AH;cases hlb:bJ s[k]
  ·have HLB:=hid hlb;have HR:=hid (show R=.ok (⟨2,[],gO ((s.data.toList.drop at_).takeWhile aL)⟩,(s.data.toList.drop at_).dropWhile aL) by
    rw[kY.out,Tm.out,Qo.out,drop_at HB.out]
    simp[hlb])
   open zhx in exact Ze4
  ·have HLB:=hid hlb;have HR:=hid (show R=.error 30 by
    rw[kY.out,Tm.out,Qo.out,drop_at HB.out]
    simp[hlb])
   open zhy in exact Ze4):p:=h
theorem zed.Ka3(h:p:=by
 cases AH:pQ ((s.data.toList.drop at_).takeWhile aL)
 ·have Tm:=hid AH;clear AH;go_wp2_with fail;exact Zco
 ·have Tm:=hid AH;clear AH;have HR:=hid (show R=.ok (⟨2,[],gO ((s.data.toList.drop at_).takeWhile aL)⟩,(s.data.toList.drop at_).dropWhile aL) by
   rw[kY.out,Tm.out,Qo.out,drop_eq_nil_of_le Tao]
   rfl)
  go_wp2_with fail;refine HN.out.mono ?_;unfold mB;rw[HE.out,Tm.out];rintro e w1 ⟨he,rfl⟩;rw[if_pos rfl] at he;subst he;go_wp2_with fail;exact Zcr):p:=h
theorem zg3.Kb7(h:p:=by
 generalize w.alloc (.cells #[.int .u8 0,.string ⟨#[]⟩,.int .i64 0,.int .i64 0] 81)=W at*;go_loop [8] (λ u=>∃k:Nat,at_<=k/\k<=s.size/\u=.int .i64 k/\ee aL s.data.toList at_=ee aL s.data.toList k) (λ u=>s.size - (intOf u).toNat);case atStart=>exact⟨at_,Nat.le_refl _,by omega,rfl,rfl⟩
 case round=>
  obtain⟨k,AB,hk2,rfl,hf⟩:=hrel;have HF:=hid hf;clear hf;by_cases hlt:k < s.size
  ·have HB:=hid (byte_at s k hlt);cases hd:aL s[k]
   ·have HD:=hid hd;have zW:=hid (show ee aL s.data.toList at_=k by rw[HF.out];exact Bd HB.out hd);clear hd;open zec in exact ZbF
   ·have HD:=hid hd;have zW:=hid (show ee aL s.data.toList at_=ee aL s.data.toList (k+1) by rw[HF.out];exact pS HB.out hd);clear hd;go_wp2_with (go_at_call 93;refine(gI s[k] _).mono ?_;rintro e w' ⟨rfl,rfl⟩;rw[HD.out]);exact Zej
  ·have zW:=hid (show ee aL s.data.toList at_=k by rw[HF.out];exact wU Tao);open zed in exact ZbF):p:=h
theorem one_num (s:ByteArray)(at_:Nat)(w:World)(ha:at_ < s.size)(hl:bJ s[at_]=false)(hc:aL s[at_]=true)(hs:s.size<=4294967280):
  Calls Tryz.prog 125 #[.string s,.int .i64 at_] w (AG s at_ w (dH (s.data.toList.drop at_))):=by
 have hd:=drop_at (byte_at s at_ ha);have dE:dH (s.data.toList.drop at_)=if pQ ((s.data.toList.drop at_).takeWhile aL)&& !(((s.data.toList.drop at_).dropWhile aL).head?.any bJ)then .ok (⟨2,[],gO ((s.data.toList.drop at_).takeWhile aL)⟩,(s.data.toList.drop at_).dropWhile aL)else .error 30:=by rw[hd];simp only[dH,hl,if_pos hc];rfl
 have Nf:0 <((s.data.toList.drop at_).takeWhile aL).length:=by rw[hd,takeWhile_cons,if_pos hc];simp
 generalize dH (s.data.toList.drop at_)=R at*;have kY:=hid dE;have ajJ:=hid Nf;have HC:=hid hc;have HL0:=hid hl;have HLEN:=hid (show s.data.toList.length=s.size by simp);clear dE hd hc hl Nf;go_enter Tryz.func125,Tryz.ntmps125;go_wp2_with (first
  |(go_at_call 92;refine(fy s[at_] _).mono ?_;rintro e w' ⟨rfl,rfl⟩;rw[HL0.out])
  |(go_at_call 93;refine(gI s[at_] _).mono ?_;rintro e w' ⟨rfl,rfl⟩;rw[HC.out]))
 open zg3 in exact Zet
variable{s:ByteArray}{a:Nat}{x:List UInt8}
theorem Tn(hb:a+x.length<=s.size):((s.extract a (a+x.length)).toList==x)=x.isPrefixOf (s.data.toList.drop a):=by
 rw[ByteArray.toList_eq,nz,drop_take,Nat.add_sub_cancel_left];rw[Bool.eq_iff_iff,beq_iff_eq,isPrefixOf_iff_prefix];constructor
 ·intro h;refine⟨(s.data.toList.drop a).drop x.length,?_⟩;have:=take_append_drop x.length (s.data.toList.drop a);rwa [h] at this
 ·rintro⟨r,h⟩;rw[<- h];simp
theorem Tp(hb:¬a+x.length<=s.size)(ha:a<=s.size):x.isPrefixOf (s.data.toList.drop a)=false:=by rw[Bool.eq_false_iff];intro h;rw[isPrefixOf_iff_prefix] at h;have:=h.length_le;rw[length_drop] at this;simp at this;omega
theorem zi1.Kc1(h:p:=by
 have hG:av ((w.alloc (.cells #[.int .u8 0,.string ⟨#[]⟩,.int .i64 0,.int .i64 0] 81)).alloc (.cells (signs.map λ l=>Value.string ⟨l.toArray⟩).toArray 9)) (w.heap.size+1) 9 (signs.map λ l=>Value.string ⟨l.toArray⟩).toArray:=by have:=av.new (w.alloc (.cells #[.int .u8 0,.string ⟨#[]⟩,.int .i64 0,.int .i64 0] 81)) 9 (signs.map λ l=>Value.string ⟨l.toArray⟩).toArray;simpa using this
 have bb:Below w.heap.size w ((w.alloc (.cells #[.int .u8 0,.string ⟨#[]⟩,.int .i64 0,.int .i64 0] 81)).alloc (.cells (signs.map λ l=>Value.string ⟨l.toArray⟩).toArray 9)):=((Below.refl _ _).alloc (Nat.le_refl _) _).alloc Tae _;have HG:=hid hG;clear hG t0;simp only[signs,map_cons,map_nil] at HZ HG bb;generalize (w.alloc (.cells #[.int .u8 0,.string ⟨#[]⟩,.int .i64 0,.int .i64 0] 81)).alloc _=W at*;go_loopw [13] (λ u wr=>∃i n:Nat,i<=15/\u=.int .i64 i/\wr=W.drewN n/\gV signs (s.data.toList.drop at_)=gV (signs.drop i) (s.data.toList.drop at_)) (λ u _=>15 - (intOf u).toNat);case atStart=>exact⟨0,0,by omega,rfl,rfl,rfl⟩
 case round=>
  obtain⟨i,n,hi,rfl,rfl,hsg⟩:=hrel;have HSG:=hid hsg;clear hsg;have HZn:=hid (HZ.out.drewN n);have bbn:=bb.trans ((cE W n).mono bb.size);by_cases WJ:i < 15
  ·obtain⟨x,hx,hdx,hx1,hx2⟩:=Qf WJ
   have hcell:(W.drewN n).cell? ⟨w.heap.size+1,i,none⟩=some (.string ⟨x.toArray⟩):=by
    rw[(HG.out.drewN n).cell i];have:(signs.map λ l=>Value.string ⟨l.toArray⟩).toArray[i]?=some (.string ⟨x.toArray⟩):=by simp[hx]
    exact this
   generalize hWn:W.drewN n=Wn at*;have HWN:=hid hWn;have Sx:=hid hdx;clear hWn hx hdx;by_cases hto:at_+x.length<=s.size
   ·have n1:=decide_eq_true (show((at_:Int)+(x.length:Int))<=(s.size:Int) by omega);have HT:=hid (Tn hto);cases hp:x.isPrefixOf (s.data.toList.drop at_)
    ·have HP:=hid hp;have t1:((s.extract at_ (at_+x.length)).toList==x)=false:=HT.out.trans hp;have jk:=λ W':World=>nD s at_ (at_+x.length) (at_:Int) ((at_:Int)+(x.length:Int)) rfl Taa Taa hto W'
     clear hp;exact Zer
    ·have HP:=hid hp;have t1:((s.extract at_ (at_+x.length)).toList==x)=true:=HT.out.trans hp;have jk:=λ W':World=>nD s at_ (at_+x.length) (at_:Int) ((at_:Int)+(x.length:Int)) rfl Taa Taa hto W'
     clear hp;go_wp2_with fail;go_quiet (fail);obtain⟨z0,z1,z2,z3,y0,y1,y2,y3⟩:=aN (HZn.out.drewN nq);have bq:=bbn.trans ((cE Wn nq).mono bbn.size);have bY:(Wn.drewN nq).cell? ⟨w.heap.size+1,i,none⟩=some (.string ⟨x.toArray⟩):=hcell;generalize Wn.drewN nq=Wq at*;clear hcell;go_wp2_with fail;refine bodyPost_ret (v:=.tuple #[.agg #[.int .u8 4,.string ⟨x.toArray⟩,.int .i64 0,.int .i64 at_],.int .i64 ((at_:Int)+(x.length:Int)),.int .i64 0]) Zcd rfl ?_
     ·have e1:gV signs (s.data.toList.drop at_)=some x:=by rw[HSG.out,Sx.out,gV,if_pos HP.out]
      rw[kY.out,e1];unfold AG;simp only;have e2:s.size - ((s.data.toList.drop at_).drop x.length).length=at_+x.length:=by rw[drop_drop,length_drop,HLEN.out];omega
      rw[e2];exact⟨rfl,xD bq (Nat.le_refl _) _ _ _ _⟩
   ·have n1:=decide_eq_false (show¬((at_:Int)+(x.length:Int))<=(s.size:Int) by omega);have HP:=hid (Tp hto Taa);exact Zer
  ·obtain rfl:i=15:=by omega
   obtain⟨z0,z1,z2,z3,y0,y1,y2,y3⟩:=aN HZn.out;generalize W.drewN n=Wn at*;go_wp2_with fail;refine bodyPost_ret (v:=.tuple #[.agg #[.int .u8 0,.string ⟨#[]⟩,.int .i64 0,.int .i64 0],.int .i64 0,.int .i64 30]) Zcd rfl ?_
   ·rw[kY.out,HSG.out];exact⟨rfl,xD bbn (Nat.le_refl _) _ _ _ _⟩):p:=h
theorem zgD.KbX(h:p:=by open zi1 in exact Zhu):p:=h
theorem XA (s:ByteArray)(at_:Nat)(w:World)(ha:at_ < s.size)(hl:bJ s[at_]=false)(hdg:aL s[at_]=false)(hq:s[at_]≠39)(hs:s.size<=4294967280):
  Calls Tryz.prog 125 #[.string s,.int .i64 at_] w (AG s at_ w (dH (s.data.toList.drop at_))):=by
 have hd:=drop_at (byte_at s at_ ha)
 have dE:dH (s.data.toList.drop at_)=match gV signs (s.data.toList.drop at_)with
   | some x=> .ok (⟨4,x,0⟩,(s.data.toList.drop at_).drop x.length)
   | none=> .error 30:=by
  rw[hd];simp only[dH,hl,hdg,if_neg hq];rfl
 generalize dH (s.data.toList.drop at_)=R at*;have t0:(((s[at_].toNat:Nat):Int)==39)=false:=by rw[beq_eq_false_iff_ne];intro h;exact hq (UInt8.toNat_inj.1 (by simpa using(by omega:s[at_].toNat=39)))
 open zgD in exact Zea
theorem U1 (s:ByteArray)(at_:Nat)(w:World)(ha:at_ < s.size)(hs:s.size<=4294967280):
  Calls Tryz.prog 125 #[.string s,.int .i64 at_] w (AG s at_ w (dH (s.data.toList.drop at_))):=by
 cases hl:bJ s[at_]
 ·cases hd:aL s[at_]
  ·by_cases hq:s[at_]=39
   ·exact Xz s at_ w ha hl hd hq hs
   ·exact XA s at_ w ha hl hd hq hs
  ·exact one_num s at_ w ha hl hd hs
 ·exact Xy s at_ w ha hl hs
structure XI (s:ByteArray) (w:World) (a:Nat) (v:Value) (acc:List np) (wr:World):Prop where
 VS:Below w.heap.size w wr
 own:CB wr w.heap.size v acc
 le:a<=s.size
 len:acc.length<=a
 skip:bM false (s.data.toList.drop a)=s.data.toList.drop a
 more:LX s.size s.data.toList=pre acc (LX s.size (s.data.toList.drop a))
theorem zgg.KbO(h:p:=by exact⟨rfl,gP.out.VS.trans ((hb.mono NU).trans ((aa w2 _).mono (by have:=hb.size;omega)))⟩):p:=h
theorem zgK.Kb0(h:p:=by
 have aoQ:s.size - rest.length<=dL s (s.size - rest.length):=by unfold dL;rw[HQ.out];have:=jY false rest;omega
 clear hq hrs;unfold jZ at HG HO ox;go_wp2_with (first
  |(at_builtin
    refine jc rfl (.tmp 30) (.tmp 32) 71 rfl _ 40 Tryz.underlying71 xF rfl Taa ⟨d,a⟩ rfl TaO rfl HO.out (w2.heap.size+1) rfl HG.out Taa Taa ox.out.size ?_
    intro v2 w3 o2 g2
    have b2:=nJ HO.out g2 ox.out.size
    have O2:=hid o2
    have B2:=hid (ox.out.trans b2)
    clear o2 g2 HO HG b2 ox))
 refine(FD s (s.size - rest.length) _ (Nat.sub_le _ _) hs).mono ?_;rintro e w4 ⟨rfl,rfl⟩;go_wp2_with fail;go_roundw
 case rel=>
  refine⟨dL s (s.size - rest.length),acc++ [np.mk d a],v2,rfl,rfl,B2.out,O2.out,nM _ _,?_,?_,Zcv⟩
  ·rw[length_append,length_singleton];omega
  ·rw[ir];exact qs _ _
 case measure=>have:=nM s (s.size - rest.length);exact Zcu):p:=h
theorem zg1.Kb6(h:p:=by have HG:=hid hG;have XH:Below w.heap.size w ((w2.alloc (.cells (jZ ⟨d,a⟩).toArray 81)).alloc (.cells (jZ ⟨d,a⟩).toArray 81)):=gP.out.VS.trans ((hb.mono NU).trans (bW.mono (by have:=hb.size;omega)));have ox:=hid XH;clear hown hG XH bW hb;open zgK in exact Zee):p:=h
theorem zhI.Kcq(h:p:=by clear hres;open zgg in exact ZdA):p:=h
theorem XJ (s:ByteArray)(w:World)(hs:s.size<=4294967280):Calls Tryz.prog 75 #[.string s] w (lG s w):=by
 by_cases XF:4096 < s.size
 ·unfold lG;rw[KE XF];go_enter Tryz.func75,Tryz.ntmps75;go_wp2_with fail;go_ret3;exact⟨rfl,Below.refl _ _⟩
 ·have tz:=hid (Qs XF);have HLEN:=hid (show s.data.toList.length=s.size by simp);go_enter Tryz.func75,Tryz.ntmps75;go_wp2_with fail;refine(FD s 0 _ (Nat.zero_le _) hs).mono ?_;rintro e w1 ⟨rfl,rfl⟩
  have hA:XI s w (dL s 0) (.slice none 0 0) [] w:=by
   refine⟨Below.refl _ _,cJ.nil,nM _ _,Nat.zero_le _,?_,?_⟩
   ·rw[ir];exact qs _ _
   ·rw[ir,xE,Qr];rfl
  generalize dL s 0=a0 at*;have HA:=hid hA;clear hA;go_wp2_with fail;go_loopw [5,6] (λ x y wr=>∃(a:Nat) (acc:List np) (u:Value),x=u/\y=.int .i64 a/\XI s w a u acc wr) (λ _ y _=>s.size - (intOf y).toNat);case atStart=>exact⟨a0,[],_,rfl,rfl,HA.out⟩
  case round=>
   obtain⟨a,acc,u,hu,rfl,hA⟩:=hrel;have hu2:=hu.symm;clear hu;subst hu2;have NU:=hA.VS.size;have oV:=hA.len;have hae:=hA.le;have gP:=hid hA;clear hA;by_cases ha:a < s.size
   ·go_wp2_with fail;refine(U1 s a _ ha hs).mono ?_;intro e w2 hp;have HB:=hid (byte_at s a ha);rcases hres:dH (s.data.toList.drop a)with x |⟨d,rest⟩
    ·rw[hres] at hp;obtain⟨rfl,hb⟩:=hp;open zhI in exact Zfm
    ·rw[hres] at hp;obtain⟨rfl,hb⟩:=hp;have et:=hid hres;clear hres;have bW:=((Below.refl w2.heap.size w2).alloc (Nat.le_refl _) (.cells (jZ ⟨d,a⟩).toArray 81)).alloc Tae (.cells (jZ ⟨d,a⟩).toArray 81);have hown:CB w2 w.heap.size u acc:=gP.out.own.later hb;open zg1 in exact Zes
   ·have hnil:s.data.toList.drop a=[]:=drop_eq_nil_of_le Tao;have Ni:=hid hnil;clear hnil;have bW:=(Below.refl wr.heap.size wr).alloc (Nat.le_refl _) (.cells (jZ (Io s.size)).toArray 81);have HO:=hid (gP.out.own.later bW);have HG:=hid (av.new wr 81 (jZ (Io s.size)).toArray);have ox:=hid (gP.out.VS.trans (bW.mono NU));clear bW;unfold jZ Io at HG HO ox;go_wp2_with (first
     |(at_builtin
       refine jc rfl (.tmp 37) (.tmp 41) 71 rfl _ 40 Tryz.underlying71 xF rfl Taa (Io s.size) rfl TaO rfl HO.out wr.heap.size rfl HG.out Taa Taa ox.out.size ?_
       intro v2 w3 o2 g2
       have b2:=nJ HO.out g2 ox.out.size
       have O2:=hid o2
       have B2:=hid (ox.out.trans b2)
       clear o2 g2 HO HG b2 ox))
    exact Zgf
variable{l:List np}
theorem Z1(h:lY s.data.toList=.ok l) (hs:s.size<=4294967280):
  Calls Tryz.prog 75 #[.string s] w λ e w'=>∃A c,e=.returned (.tuple #[.slice A l.length c,.int .i64 0,.int .i64 0])/\CB w' w.heap.size (.slice A l.length c) l/\Below w.heap.size w w':=by refine(XJ s w hs).mono ?_;exact ZeM
def Em (n:Nat):List UInt8:=if h:n < 10 then [UInt8.ofNat (48+n)] else Em (n / 10)++ [UInt8.ofNat (48+n % 10)]
termination_by n
decreasing_by omega
variable{n:Nat}
theorem Gl(h:n < 10):Em n=[UInt8.ofNat (48+n)]:=by rw[Em,dif_pos h]
theorem E7(h:¬n < 10):Em n=Em (n / 10)++ [UInt8.ofNat (48+n % 10)]:=by rw[Em,dif_neg h]
variable{k:Nat}
theorem Mc(h:k < 10):(UInt8.ofNat (48+k)).toNat=48+k:=by simp;omega
theorem Dz:∀n:Nat,gO (Em n)=n/\(∀c∈Em n,aL c=true)/\Em n≠ []/\(0 < n->(Em n).head?≠some 48)/\∀k,n < 10 ^(k+1)->(Em n).length<=k+1:=by
 intro n
 induction n using Nat.strongRecOn with
 | ind n ih=>
   by_cases h:n < 10
   ·rw[Gl h];have hb:=Mc h;refine⟨by simp only[gO,foldl_cons,foldl_nil];rw[hb];omega,?_,by simp,?_,λ k _=>by simp⟩
    ·intro c hc;exact ZeN
    ·intro h0 e;simp only[head?_cons,Option.some.injEq] at e;have:=congrArg UInt8.toNat e;rw[hb] at this;simp at this;omega
   ·have hlt:n / 10 < n:=by omega
    obtain⟨h1,h2,h3,h4,h5⟩:=ih (n / 10) hlt;have hk:n % 10 < 10:=by omega
    have hb:=Mc hk;rw[E7 h];refine⟨by rw[JV,h1,hb];omega,?_,by simp,?_,?_⟩
    ·intro c hc;rcases List.mem_append.1 hc with hc | hc
     ·exact h2 c hc
     ·exact ZeN
    ·intro _;have:=h4 Taa
     cases hd:Em (n / 10)with
     | nil=>exact absurd hd h3
     | cons d r=>rw[hd] at this;exact Zd5
    ·intro k hk2
     cases k with
     | zero=>omega
     | succ k=>
       have:n / 10 < 10 ^(k+1):=by rw[Nat.pow_succ] at hk2;omega
       have:=h5 k this;simp only[length_append,length_singleton];omega
theorem aaV(hn:n<=9223372036854775807):pQ (Em n)=true:=by
 obtain⟨h1,h2,h3,h4,h5⟩:=Dz n;simp only[pQ,h1,decide_eq_true hn,Bool.and_true,Bool.or_eq_true,decide_eq_true_eq,Bool.not_eq_true'];by_cases h:n < 10
 ·left;rw[Gl h];simp
 ·right;have:=h4 Taa;exact Zd5
def ET:List UInt8->List UInt8
 | []=> []
 | c::l=>if c=39 then 39::39::ET l else c::ET l
variable{y:List UInt8}
theorem DA(hy:y.head?≠some 39):∀(s acc:List UInt8),more acc (gu (ET s++39::y))=some (acc++s,y)
 | [],acc=>by rw[append_nil];exact sQ hy acc
 | c::s,acc=>by
   by_cases h:c=39
   ·subst h;simp only[ET,if_true,cons_append];rw[BW,DA hy s];simp
   ·simp only[ET,if_neg h,cons_append];rw[vI h,DA hy s];simp
variable{r:List UInt8}
theorem rK(h1:cO c=false)(h2:c≠45):bM false (c::r)=c::r:=by rw[bM,h1,if_neg Tab,if_neg (λ h=>h2 h.1)]
theorem PH:signs.all (λ s=>match s with | []=>false | c::_=> !bJ c && !aL c && !(c==39)&& !cO c)=true:=by decide+kernel
def YH (t:Wd):Prop:=(0<=t.n/\t.n<=9223372036854775807)/\(t.k=4->t.s∈signs)
variable{rest:List UInt8}
theorem Y8{w:Wd}(h:dH r=.ok (w,rest)):YH w:=by
 match r with
 | []=>cases h
 | c::r=>
   simp only[dH] at h;split at h
   ·exact ZeJ
   split at h
   ·split at h
    ·rename_i hb;injection h with h;injection h with h1 h2;subst h1;refine⟨?_,λ e=>by simp at e⟩;simp only[Bool.and_eq_true,pQ,decide_eq_true_eq] at hb;have:=hb.1.2;simp only;omega
    ·cases h
   split at h
   ·exact ZeJ
   ·split at h
    ·rename_i s hs;injection h with h;injection h with h1 h2;subst h1;exact⟨⟨by simp,by simp⟩,λ _=>(sP hs).1⟩
    ·cases h
theorem Ld (n:Nat):∀(f:Nat) (r:List UInt8) (l:List np),rf n f r=.ok l->(∃b,l=b++ [⟨⟨0,[],0⟩,n⟩])/\l.length<=r.length+1/\∀t∈l,YH t.w
 | 0,r,l,h=>by cases h
 | f+1,r,l,h=>by
   have hle:=jY false r;simp only[rf] at h;split at h
   ·injection h with h;subst h;exact⟨⟨[],rfl⟩,by simp,λ t ht=>by simp at ht;subst ht;exact⟨⟨by simp,by simp⟩,λ e=>by simp at e⟩⟩
   ·rename_i c r' hsk;rw[hsk] at hle;split at h
    ·cases h
    ·rename_i w rest ho;have hlt:=uv ho;split at h
     ·cases h
     ·rename_i l' hl';injection h with h;subst h;obtain⟨⟨b,hb⟩,h1,h2⟩:=Ld n f rest l' hl';refine⟨⟨⟨w,_⟩::b,by rw[hb];rfl⟩,by simp only[length_cons] at hlt hle ⊢;omega,λ t ht=>?_⟩;rcases List.mem_cons.1 ht with rfl | ht
      ·exact Y8 ho
      ·exact h2 t ht
theorem Bv{s:List UInt8} (h:lY s=.ok l):(∃b n,l=b++ [⟨⟨0,[],0⟩,n⟩])/\l.length<=4097/\∀t∈l,YH t.w:=by
 unfold lY at h;split at h
 ·cases h
 ·rename_i hs;obtain⟨⟨b,hb⟩,h1,h2⟩:=Ld _ _ _ _ h;exact⟨⟨b,_,hb⟩,by omega,h2⟩
theorem FU{s:List UInt8} (h:lY s=.ok l):je (l.map (·.w)):=by obtain⟨⟨b,n,rfl⟩,_⟩:=Bv h;exact⟨b.map (·.w),⟨0,[],0⟩,by simp,rfl⟩
theorem TX{s:List UInt8} (h:lY s=.ok l):∃t r,l=t::r:=by
 obtain⟨⟨b,n,rfl⟩,_⟩:=Bv h
 cases b with
 | nil=>exact⟨_,_,rfl⟩
 | cons t b=>exact⟨_,_,rfl⟩
end Go.Proofs.YtehhdlgjfdnafaaGreatDoor
