/- Parts of the proof. -/
import Derived.Test.YtehhdlgjfdnafaaGreatDoorXF6
import Derived.Test.YtehhdlgjfdnafaaGreatDoorXF7
namespace Go.Proofs.YtehhdlgjfdnafaaGreatDoor
variable{p:Prop}
set_option maxHeartbeats 90000000
set_option maxRecDepth 100000
open Go.Lib (hid)
open Go.ChangeShapes Go.WideShapes Go.ChangeAt Go.RowKit Go.Shelf List
set_option linter.unusedVariables false
set_option linter.unusedSimpArgs false
theorem Yr:∀(l:List UInt8) (v:Nat),v*10 ^ l.length<=l.foldl (λ v c=>v*10+(c.toNat - 48)) v
 | [],v=>by simp
 | c::l,v=>by
   have:=Yr l (v*10+(c.toNat - 48));simp only[foldl_cons,length_cons,Nat.pow_succ];have h:v*10*10 ^ l.length<=(v*10+(c.toNat - 48))*10 ^ l.length:=Nat.mul_le_mul_right _ Taa;have e:v*(10 ^ l.length*10)=v*10*10 ^ l.length:=by rw[Nat.mul_comm (10 ^ l.length),Nat.mul_assoc]
   rw[e];omega
theorem Ys{l:List UInt8}(hd:∀c∈l,aL c=true)(hl:19 < l.length)(h0:l.head?≠some 48):9223372036854775807 < gZ l:=by
 match l with
 | []=>simp at hl
 | c::r=>
   have hc:=hd c mem_cons_self;simp[aL,UInt8.le_iff_toNat_le] at hc;have Xb:c.toNat≠48:=λ e=>h0 (by rw[show c=48 from UInt8.toNat_inj.1 e];rfl)
   have h1:=Yr r (0*10+(c.toNat - 48));have h2:10 ^ 19<=10 ^ r.length:=Nat.pow_le_pow_right Tab (by simp at hl;omega);have h3:1*10 ^ r.length<=(0*10+(c.toNat - 48))*10 ^ r.length:=Nat.mul_le_mul_right _ Taa;show _ < List.foldl _ _ _;rw[foldl_cons];have h4:(10:Nat)^ 19=10000000000000000000:=by decide
   omega
variable{i:Nat}{c:UInt8}
theorem Yt{l:List UInt8}  (h:l[i]?=some c):gZ (l.take (i+1))=gZ (l.take i)*10+(c.toNat - 48):=by rw[take_add_one,h];exact KI _ _
theorem OP (l:List UInt8)(i:Nat):gZ (l.take i)<=gZ l:=by
 conv=>rhs;rw[<- take_append_drop i l]
 unfold gZ;rw[foldl_append];exact KJ _ _
theorem Yu(h:aL c=true):48<=c.toNat/\c.toNat<=57:=by simpa [aL,UInt8.le_iff_toNat_le] using h
def nc (q:List UInt8)(w:World)(e:Ending)(w':World):Prop:=(if qD q=true then e=.returned (.tuple #[.int .i64 (gZ q),.bool true])else e=.returned (.tuple #[.int .i64 0,.bool false]))/\w=w'
variable{q:List UInt8}{w:World}{e:Ending}
theorem OQ(h:qD q=false)(he:e=.returned (.tuple #[.int .i64 0,.bool false])):nc q w e w:=by unfold nc;rw[h,if_neg Tab];exact⟨he,rfl⟩
theorem aaq(h:qD q=true)(he:e=.returned (.tuple #[.int .i64 (gZ q),.bool true])):nc q w e w:=by unfold nc;rw[if_pos h];exact⟨he,rfl⟩
theorem Ba (s:ByteArray)(w:World)(hd:∀c∈s.data.toList,aL c=true)(h0:0 < s.size)(hs:s.size<=4294967280):Calls Tryz.prog 157 #[.string s] w (nc s.data.toList w):=by
 have HLEN:=hid (show s.data.toList.length=s.size by simp);have HDG:=hid hd;have ado:s.data.toList.head?=some s[0]:=by rw[head?_eq_getElem?];exact byte_at s 0 h0
 have HH:=hid ado;clear hd ado;by_cases hz:1 < s.size/\s[0]=48
 ·have t1:(((s[0].toNat:Nat):Int)==48)=true:=by rw[hz.2];rfl
  have HB:=hid (show qD s.data.toList=false by
   have:¬s.data.toList.length<=1:=by rw[HLEN.out];omega
   simp only[qD,HH.out,hz.2,this]
   rfl)
  have hz1:=hz.1;exact ZfW
 ·by_cases akZ:19 < s.size
  ·have t1:(((s[0].toNat:Nat):Int)==48)=false:=by rw[beq_eq_false_iff_ne];intro h;exact hz ⟨by omega,UInt8.toNat_inj.1 Tbl⟩
   have HB:=hid (show qD s.data.toList=false by
    have h1:=Ys HDG.out (by rw[HLEN.out];exact akZ) (by rw[HH.out];intro e;injection e with e;exact hz ⟨by omega,e⟩)
    have h2:¬gZ s.data.toList<=9223372036854775807:=by omega
    simp only[qD,h2]
    simp)
   exact ZfW
  ·have HF:=hid (show(decide (s.data.toList.length<=1)|| !(s.data.toList.head?==some 48))=true by
    rw[HLEN.out,HH.out]
    by_cases h1:s.size<=1
    ·simp[h1]
    ·have:s[0]≠48:=λ e=>hz ⟨by omega,e⟩
     simp[h1,this])
   have hz2:¬(1 < s.size)\/(1 < s.size/\(((s[0].toNat:Nat):Int)==48)=false):=by
    by_cases h1:1 < s.size
    ·refine .inr ⟨h1,?_⟩;rw[beq_eq_false_iff_ne];intro h;exact hz ⟨h1,UInt8.toNat_inj.1 Tbl⟩
    ·exact .inl h1
   clear hz
   rcases hz2 with hz2 |⟨hz1,hz2⟩;all_goals
    go_enter Tryz.func157,Tryz.ntmps157;go_wp2_with fail;go_loop [4,5] (λ v u=>∃i:Nat,i<=s.size/\u=.int .i64 i/\v=.int .i64 (gZ (s.data.toList.take i):Nat)/\gZ (s.data.toList.take i)<=9223372036854775807) (λ _ u=>s.size - (intOf u).toNat);case atStart=>exact⟨0,by omega,rfl,rfl,by simp[gZ]⟩
    case round=>
     obtain⟨i,hi,rfl,rfl,hv⟩:=hrel;by_cases hlt:i < s.size
     ·have HB:=hid (byte_at s i hlt);obtain⟨d1,d2⟩:=Yu (HDG.out s[i] (mem_of_getElem? HB.out));have HV:=hid (Yt HB.out);have NW:=hid (OP s.data.toList (i+1));generalize Xw:gZ (s.data.toList.take i)=v at*;have HVV:=hid Xw;clear Xw;by_cases pN:v*10+(s[i].toNat - 48)<=9223372036854775807
      ·have n1:=decide_eq_false (show¬((9223372036854775807 - ((s[i].toNat:Int) - 48))/ 10 <(v:Int)) by omega);go_wp2_with fail;go_round;case rel=>
        refine⟨i+1,hlt,by go_num,?_,by rw[HV.out];exact pN⟩;rw[HV.out];have:((v*10+(s[i].toNat - 48):Nat):Int)=(v:Int)*10+((s[i].toNat:Int) - 48):=by omega
        rw[this]
       case measure=>simp[intOf];omega
      ·have n1:=decide_eq_true (show((9223372036854775807 - ((s[i].toNat:Int) - 48))/ 10 <(v:Int)) by omega);go_wp2_with fail;go_ret2;refine OQ ?_ rfl;have h1:=NW.out;rw[HV.out] at h1;have h2:¬gZ s.data.toList<=9223372036854775807:=by omega
       simp only[qD,h2];simp
     ·go_wp2_with fail;go_ret2;have e1:s.data.toList.take i=s.data.toList:=take_of_length_le Tao;rw[e1] at hv ⊢;exact aaq (by rw[qD,HF.out];simpa using hv) rfl
theorem zg4.Kce(h:p:=by go_wp2_with (go_at_call 92;refine(fF s[k] _).mono ?_;rintro e w' ⟨rfl,rfl⟩;rw[HLB.out]);exact Zcj):p:=h
theorem zg5.Kce(h:p:=by
 go_wp2_with (go_at_call 92;refine(fF s[k] _).mono ?_;rintro e w' ⟨rfl,rfl⟩;rw[HLB.out]);refine bodyPost_ret (v:=.tuple #[.agg #[.int .u8 0,.string ⟨#[]⟩,.int .i64 0,.int .i64 0],.int .i64 0,.int .i64 30]) Zb5 rfl ?_
 ·rw[HR.out];exact Zd5):p:=h
theorem zdM.KaX(h:p:=by
 cases BC:qD ((s.data.toList.drop at_).takeWhile aL)
 ·have Ug:=hid BC;clear BC;go_wp2_with (go_at_call 93;refine(gU s[k] _).mono ?_;rintro e w' ⟨rfl,rfl⟩;rw[HD.out]);exact Zcg
 ·have Ug:=hid BC;clear BC;cases hlb:bH s[k]
  ·have HLB:=hid hlb;have HR:=hid (show R=.ok (⟨2,[],gZ ((s.data.toList.drop at_).takeWhile aL)⟩,(s.data.toList.drop at_).dropWhile aL) by
    rw[lV.out,Ug.out,Rc.out,drop_at HB.out]
    simp[hlb])
   open zg4 in exact ZeU
  ·have HLB:=hid hlb;have HR:=hid (show R=.error 30 by
    rw[lV.out,Ug.out,Rc.out,drop_at HB.out]
    simp[hlb])
   open zg5 in exact ZeU):p:=h
theorem zdN.KaX(h:p:=by
 cases BC:qD ((s.data.toList.drop at_).takeWhile aL)
 ·have Ug:=hid BC;clear BC;go_wp2_with fail;exact Zcg
 ·have Ug:=hid BC;clear BC;have HR:=hid (show R=.ok (⟨2,[],gZ ((s.data.toList.drop at_).takeWhile aL)⟩,(s.data.toList.drop at_).dropWhile aL) by
   rw[lV.out,Ug.out,Rc.out,drop_eq_nil_of_le Tao]
   rfl)
  go_wp2_with fail;refine HN.out.mono ?_;unfold nc;rw[HE.out,Ug.out];rintro e w1 ⟨he,rfl⟩;rw[if_pos rfl] at he;subst he;go_wp2_with fail;exact Zcj):p:=h
theorem zgA.Kb0(h:p:=by
 generalize w.alloc (.cells #[.int .u8 0,.string ⟨#[]⟩,.int .i64 0,.int .i64 0] 81)=W at*;go_loop [8] (λ u=>∃k:Nat,at_<=k/\k<=s.size/\u=.int .i64 k/\eA aL s.data.toList at_=eA aL s.data.toList k) (λ u=>s.size - (intOf u).toNat);case atStart=>exact⟨at_,Nat.le_refl _,by omega,rfl,rfl⟩
 case round=>
  obtain⟨k,BR,hk2,rfl,hf⟩:=hrel;have HF:=hid hf;clear hf;by_cases hlt:k < s.size
  ·have HB:=hid (byte_at s k hlt);cases hd:aL s[k]
   ·have HD:=hid hd;have AG:=hid (show eA aL s.data.toList at_=k by rw[HF.out];exact BP HB.out hd);clear hd;open zdM in exact Zby
   ·have HD:=hid hd;have AG:=hid (show eA aL s.data.toList at_=eA aL s.data.toList (k+1) by rw[HF.out];exact qR HB.out hd);clear hd;go_wp2_with (go_at_call 93;refine(gU s[k] _).mono ?_;rintro e w' ⟨rfl,rfl⟩;rw[HD.out]);exact Zd9
  ·have AG:=hid (show eA aL s.data.toList at_=k by rw[HF.out];exact xD Tao);open zdN in exact Zby):p:=h
theorem one_num (s:ByteArray)(at_:Nat)(w:World)(ha:at_ < s.size)(hl:bH s[at_]=false)(hc:aL s[at_]=true)(hs:s.size<=4294967280):
  Calls Tryz.prog 125 #[.string s,.int .i64 at_] w (BB s at_ w (dG (s.data.toList.drop at_))):=by
 have hd:=drop_at (byte_at s at_ ha);have dR:dG (s.data.toList.drop at_)=if qD ((s.data.toList.drop at_).takeWhile aL)&& !(((s.data.toList.drop at_).dropWhile aL).head?.any bH)then .ok (⟨2,[],gZ ((s.data.toList.drop at_).takeWhile aL)⟩,(s.data.toList.drop at_).dropWhile aL)else .error 30:=by rw[hd];simp only[dG,hl,if_pos hc];rfl
 have NZ:0 <((s.data.toList.drop at_).takeWhile aL).length:=by rw[hd,takeWhile_cons,if_pos hc];simp
 generalize dG (s.data.toList.drop at_)=R at*;have lV:=hid dR;have ala:=hid NZ;have HC:=hid hc;have HL0:=hid hl;have HLEN:=hid (show s.data.toList.length=s.size by simp);clear dR hd hc hl NZ;go_enter Tryz.func125,Tryz.ntmps125;go_wp2_with (first
  |(go_at_call 92;refine(fF s[at_] _).mono ?_;rintro e w' ⟨rfl,rfl⟩;rw[HL0.out])
  |(go_at_call 93;refine(gU s[at_] _).mono ?_;rintro e w' ⟨rfl,rfl⟩;rw[HC.out]))
 open zgA in exact Zej
variable{s:ByteArray}{a:Nat}{x:List UInt8}
theorem Uh(hb:a+x.length<=s.size):((s.extract a (a+x.length)).toList==x)=x.isPrefixOf (s.data.toList.drop a):=by
 rw[ByteArray.toList_eq,om,drop_take,Nat.add_sub_cancel_left];rw[Bool.eq_iff_iff,beq_iff_eq,isPrefixOf_iff_prefix];constructor
 ·intro h;refine⟨(s.data.toList.drop a).drop x.length,?_⟩;have:=take_append_drop x.length (s.data.toList.drop a);rwa [h] at this
 ·rintro⟨r,h⟩;rw[<- h];simp
theorem Ui(hb:¬a+x.length<=s.size)(ha:a<=s.size):x.isPrefixOf (s.data.toList.drop a)=false:=by rw[Bool.eq_false_iff];intro h;rw[isPrefixOf_iff_prefix] at h;have:=h.length_le;rw[length_drop] at this;simp at this;omega
theorem zis.KcR(h:p:=by
 have hG:av ((w.alloc (.cells #[.int .u8 0,.string ⟨#[]⟩,.int .i64 0,.int .i64 0] 81)).alloc (.cells (signs.map λ l=>Value.string ⟨l.toArray⟩).toArray 9)) (w.heap.size+1) 9 (signs.map λ l=>Value.string ⟨l.toArray⟩).toArray:=by have:=av.new (w.alloc (.cells #[.int .u8 0,.string ⟨#[]⟩,.int .i64 0,.int .i64 0] 81)) 9 (signs.map λ l=>Value.string ⟨l.toArray⟩).toArray;simpa using this
 have bb:Below w.heap.size w ((w.alloc (.cells #[.int .u8 0,.string ⟨#[]⟩,.int .i64 0,.int .i64 0] 81)).alloc (.cells (signs.map λ l=>Value.string ⟨l.toArray⟩).toArray 9)):=((Below.refl _ _).alloc (Nat.le_refl _) _).alloc Tad _;have HG:=hid hG;clear hG t0;simp only[signs,map_cons,map_nil] at HZ HG bb;generalize (w.alloc (.cells #[.int .u8 0,.string ⟨#[]⟩,.int .i64 0,.int .i64 0] 81)).alloc _=W at*;go_loopw [13] (λ u wr=>∃i n:Nat,i<=15/\u=.int .i64 i/\wr=W.drewN n/\gp signs (s.data.toList.drop at_)=gp (signs.drop i) (s.data.toList.drop at_)) (λ u _=>15 - (intOf u).toNat);case atStart=>exact⟨0,0,by omega,rfl,rfl,rfl⟩
 case round=>
  obtain⟨i,n,hi,rfl,rfl,hsg⟩:=hrel;have HSG:=hid hsg;clear hsg;have HZn:=hid (HZ.out.drewN n);have bbn:=bb.trans ((cN W n).mono bb.size);by_cases XJ:i < 15
  ·obtain⟨x,hx,hdx,hx1,hx2⟩:=QQ XJ
   have hcell:(W.drewN n).cell? ⟨w.heap.size+1,i,none⟩=some (.string ⟨x.toArray⟩):=by
    rw[(HG.out.drewN n).cell i];have:(signs.map λ l=>Value.string ⟨l.toArray⟩).toArray[i]?=some (.string ⟨x.toArray⟩):=by simp[hx]
    exact this
   generalize hWn:W.drewN n=Wn at*;have HWN:=hid hWn;have Tq:=hid hdx;clear hWn hx hdx;by_cases hto:at_+x.length<=s.size
   ·have n1:=decide_eq_true (show((at_:Int)+(x.length:Int))<=(s.size:Int) by omega);have HT:=hid (Uh hto);cases hp:x.isPrefixOf (s.data.toList.drop at_)
    ·have HP:=hid hp;have t1:((s.extract at_ (at_+x.length)).toList==x)=false:=HT.out.trans hp;have ki:=λ W':World=>ox s at_ (at_+x.length) (at_:Int) ((at_:Int)+(x.length:Int)) rfl Taa Taa hto W'
     clear hp;exact Zeh
    ·have HP:=hid hp;have t1:((s.extract at_ (at_+x.length)).toList==x)=true:=HT.out.trans hp;have ki:=λ W':World=>ox s at_ (at_+x.length) (at_:Int) ((at_:Int)+(x.length:Int)) rfl Taa Taa hto W'
     clear hp;go_wp2_with fail;go_quiet (fail);obtain⟨z0,z1,z2,z3,y0,y1,y2,y3⟩:=aO (HZn.out.drewN nq);have bq:=bbn.trans ((cN Wn nq).mono bbn.size);have cr:(Wn.drewN nq).cell? ⟨w.heap.size+1,i,none⟩=some (.string ⟨x.toArray⟩):=hcell;generalize Wn.drewN nq=Wq at*;clear hcell;go_wp2_with fail;refine bodyPost_ret (v:=.tuple #[.agg #[.int .u8 4,.string ⟨x.toArray⟩,.int .i64 0,.int .i64 at_],.int .i64 ((at_:Int)+(x.length:Int)),.int .i64 0]) Zb5 rfl ?_
     ·have e1:gp signs (s.data.toList.drop at_)=some x:=by rw[HSG.out,Tq.out,gp,if_pos HP.out]
      rw[lV.out,e1];unfold BB;simp only;have e2:s.size - ((s.data.toList.drop at_).drop x.length).length=at_+x.length:=by rw[drop_drop,length_drop,HLEN.out];omega
      rw[e2];exact⟨rfl,yj bq (Nat.le_refl _) _ _ _ _⟩
   ·have n1:=decide_eq_false (show¬((at_:Int)+(x.length:Int))<=(s.size:Int) by omega);have HP:=hid (Ui hto Taa);exact Zeh
  ·obtain rfl:i=15:=by omega
   obtain⟨z0,z1,z2,z3,y0,y1,y2,y3⟩:=aO HZn.out;generalize W.drewN n=Wn at*;go_wp2_with fail;refine bodyPost_ret (v:=.tuple #[.agg #[.int .u8 0,.string ⟨#[]⟩,.int .i64 0,.int .i64 0],.int .i64 0,.int .i64 30]) Zb5 rfl ?_
   ·rw[lV.out,HSG.out];exact⟨rfl,yj bbn (Nat.le_refl _) _ _ _ _⟩):p:=h
theorem zga.KbQ(h:p:=by open zis in exact Zhg):p:=h
theorem Yx (s:ByteArray)(at_:Nat)(w:World)(ha:at_ < s.size)(hl:bH s[at_]=false)(hdg:aL s[at_]=false)(hq:s[at_]≠39)(hs:s.size<=4294967280):
  Calls Tryz.prog 125 #[.string s,.int .i64 at_] w (BB s at_ w (dG (s.data.toList.drop at_))):=by
 have hd:=drop_at (byte_at s at_ ha)
 have dR:dG (s.data.toList.drop at_)=match gp signs (s.data.toList.drop at_)with
   | some x=> .ok (⟨4,x,0⟩,(s.data.toList.drop at_).drop x.length)
   | none=> .error 30:=by
  rw[hd];simp only[dG,hl,hdg,if_neg hq];rfl
 generalize dG (s.data.toList.drop at_)=R at*;have t0:(((s[at_].toNat:Nat):Int)==39)=false:=by rw[beq_eq_false_iff_ne];intro h;exact hq (UInt8.toNat_inj.1 (by simpa using(by omega:s[at_].toNat=39)))
 open zga in exact Zd0
theorem aar (s:ByteArray)(at_:Nat)(w:World)(ha:at_ < s.size)(hs:s.size<=4294967280):
  Calls Tryz.prog 125 #[.string s,.int .i64 at_] w (BB s at_ w (dG (s.data.toList.drop at_))):=by
 cases hl:bH s[at_]
 ·cases hd:aL s[at_]
  ·by_cases hq:s[at_]=39
   ·exact Yw s at_ w ha hl hd hq hs
   ·exact Yx s at_ w ha hl hd hq hs
  ·exact one_num s at_ w ha hl hd hs
 ·exact Yv s at_ w ha hl hs
structure YD (s:ByteArray) (w:World) (a:Nat) (v:Value) (acc:List na) (wr:World):Prop where
 Xc:Below w.heap.size w wr
 own:Dg wr w.heap.size v acc
 le:a<=s.size
 len:acc.length<=a
 skip:bU false (s.data.toList.drop a)=s.data.toList.drop a
 more:LX s.size s.data.toList=pre acc (LX s.size (s.data.toList.drop a))
theorem zfO.KbH(h:p:=by exact⟨rfl,ia.out.Xc.trans ((hb.mono OS).trans ((aa w2 _).mono (by have:=hb.size;omega)))⟩):p:=h
theorem zgh.KbT(h:p:=by
 have aqg:s.size - rest.length<=dY s (s.size - rest.length):=by unfold dY;rw[HQ.out];have:=jC false rest;omega
 clear hq Rk;unfold kC at HG HO pw;go_wp2_with (first
  |(at_builtin
    refine jt rfl (.tmp 30) (.tmp 32) 71 rfl _ 40 Tryz.underlying71 ym rfl Taa ⟨d,a⟩ rfl TaM rfl HO.out (w2.heap.size+1) rfl HG.out Taa Taa pw.out.size ?_
    intro v2 w3 o2 g2
    have b2:=oG HO.out g2 pw.out.size
    have O2:=hid o2
    have B2:=hid (pw.out.trans b2)
    clear o2 g2 HO HG b2 pw))
 refine(Gu s (s.size - rest.length) _ (Nat.sub_le _ _) hs).mono ?_;rintro e w4 ⟨rfl,rfl⟩;go_wp2_with fail;go_roundw
 case rel=>
  refine⟨dY s (s.size - rest.length),acc++ [na.mk d a],v2,rfl,rfl,B2.out,O2.out,oJ _ _,?_,?_,Zcn⟩
  ·rw[length_append,length_singleton];omega
  ·rw[iL];exact rj _ _
 case measure=>have:=oJ s (s.size - rest.length);exact Zcs):p:=h
theorem zgy.KbZ(h:p:=by have HG:=hid hG;have YC:Below w.heap.size w ((w2.alloc (.cells (kC ⟨d,a⟩).toArray 81)).alloc (.cells (kC ⟨d,a⟩).toArray 81)):=ia.out.Xc.trans ((hb.mono OS).trans (bW.mono (by have:=hb.size;omega)));have pw:=hid YC;clear hown hG YC bW hb;open zgh in exact Zd4):p:=h
theorem zhf.Kcj(h:p:=by clear hres;open zfO in exact Zdq):p:=h
theorem YE (s:ByteArray)(w:World)(hs:s.size<=4294967280):Calls Tryz.prog 75 #[.string s] w (mi s w):=by
 by_cases Lr:4096 < s.size
 ·unfold mi;rw[Lq Lr];go_enter Tryz.func75,Tryz.ntmps75;go_wp2_with fail;go_ret3;exact⟨rfl,Below.refl _ _⟩
 ·have tX:=hid (Ri Lr);have HLEN:=hid (show s.data.toList.length=s.size by simp);go_enter Tryz.func75,Tryz.ntmps75;go_wp2_with fail;refine(Gu s 0 _ (Nat.zero_le _) hs).mono ?_;rintro e w1 ⟨rfl,rfl⟩
  have hA:YD s w (dY s 0) (.slice none 0 0) [] w:=by
   refine⟨Below.refl _ _,cT.nil,oJ _ _,Nat.zero_le _,?_,?_⟩
   ·rw[iL];exact rj _ _
   ·rw[iL,yl,Rh];rfl
  generalize dY s 0=a0 at*;have HA:=hid hA;clear hA;go_wp2_with fail;go_loopw [5,6] (λ x y wr=>∃(a:Nat) (acc:List na) (u:Value),x=u/\y=.int .i64 a/\YD s w a u acc wr) (λ _ y _=>s.size - (intOf y).toNat);case atStart=>exact⟨a0,[],_,rfl,rfl,HA.out⟩
  case round=>
   obtain⟨a,acc,u,hu,rfl,hA⟩:=hrel;have hu2:=hu.symm;clear hu;subst hu2;have OS:=hA.Xc.size;have pP:=hA.len;have hae:=hA.le;have ia:=hid hA;clear hA;by_cases ha:a < s.size
   ·go_wp2_with fail;refine(aar s a _ ha hs).mono ?_;intro e w2 hp;have HB:=hid (byte_at s a ha);rcases hres:dG (s.data.toList.drop a)with x |⟨d,rest⟩
    ·rw[hres] at hp;obtain⟨rfl,hb⟩:=hp;open zhf in exact Zfe
    ·rw[hres] at hp;obtain⟨rfl,hb⟩:=hp;have eH:=hid hres;clear hres;have bW:=((Below.refl w2.heap.size w2).alloc (Nat.le_refl _) (.cells (kC ⟨d,a⟩).toArray 81)).alloc Tad (.cells (kC ⟨d,a⟩).toArray 81);have hown:Dg w2 w.heap.size u acc:=ia.out.own.later hb;open zgy in exact Zei
   ·have hnil:s.data.toList.drop a=[]:=drop_eq_nil_of_le Tao;have Od:=hid hnil;clear hnil;have bW:=(Below.refl wr.heap.size wr).alloc (Nat.le_refl _) (.cells (kC (Jm s.size)).toArray 81);have HO:=hid (ia.out.own.later bW);have HG:=hid (av.new wr 81 (kC (Jm s.size)).toArray);have pw:=hid (ia.out.Xc.trans (bW.mono OS));clear bW;unfold kC Jm at HG HO pw;go_wp2_with (first
     |(at_builtin
       refine jt rfl (.tmp 37) (.tmp 41) 71 rfl _ 40 Tryz.underlying71 ym rfl Taa (Jm s.size) rfl TaM rfl HO.out wr.heap.size rfl HG.out Taa Taa pw.out.size ?_
       intro v2 w3 o2 g2
       have b2:=oG HO.out g2 pw.out.size
       have O2:=hid o2
       have B2:=hid (pw.out.trans b2)
       clear o2 g2 HO HG b2 pw))
    exact Zf7
variable{l:List na}
theorem aaX(h:kO s.data.toList=.ok l) (hs:s.size<=4294967280):
  Calls Tryz.prog 75 #[.string s] w λ e w'=>∃A c,e=.returned (.tuple #[.slice A l.length c,.int .i64 0,.int .i64 0])/\Dg w' w.heap.size (.slice A l.length c) l/\Below w.heap.size w w':=by refine(YE s w hs).mono ?_;exact ZeC
variable{P:UInt8->Bool}
theorem L3(h:(List.range 256).all (λ n=>P (UInt8.ofNat n))=true)(c:UInt8):P c=true:=by have:=List.all_eq_true.1 h c.toNat (List.mem_range.2 c.toNat_lt);exact Zdt
def Fe (n:Nat):List UInt8:=if h:n < 10 then [UInt8.ofNat (48+n)] else Fe (n / 10)++ [UInt8.ofNat (48+n % 10)]
termination_by n
decreasing_by omega
variable{n:Nat}
theorem Hg(h:n < 10):Fe n=[UInt8.ofNat (48+n)]:=by rw[Fe,dif_pos h]
theorem L4(h:¬n < 10):Fe n=Fe (n / 10)++ [UInt8.ofNat (48+n % 10)]:=by rw[Fe,dif_neg h]
variable{k:Nat}
theorem ML(h:k < 10):(UInt8.ofNat (48+k)).toNat=48+k:=by simp;omega
theorem Ei:∀n:Nat,gZ (Fe n)=n/\(∀c∈Fe n,aL c=true)/\Fe n≠ []/\(0 < n->(Fe n).head?≠some 48)/\∀k,n < 10 ^(k+1)->(Fe n).length<=k+1:=by
 intro n
 induction n using Nat.strongRecOn with
 | ind n ih=>
   by_cases h:n < 10
   ·rw[Hg h];have hb:=ML h;refine⟨by simp only[gZ,foldl_cons,foldl_nil];rw[hb];omega,?_,by simp,?_,λ k _=>by simp⟩
    ·intro c hc;exact ZeD
    ·intro h0 e;simp only[head?_cons,Option.some.injEq] at e;have:=congrArg UInt8.toNat e;rw[hb] at this;simp at this;omega
   ·have hlt:n / 10 < n:=by omega
    obtain⟨h1,h2,h3,h4,h5⟩:=ih (n / 10) hlt;have hk:n % 10 < 10:=by omega
    have hb:=ML hk;rw[L4 h];refine⟨by rw[KI,h1,hb];omega,?_,by simp,?_,?_⟩
    ·intro c hc;rcases List.mem_append.1 hc with hc | hc
     ·exact h2 c hc
     ·exact ZeD
    ·intro _;have:=h4 Taa
     cases hd:Fe (n / 10)with
     | nil=>exact absurd hd h3
     | cons d r=>rw[hd] at this;exact Zdt
    ·intro k hk2
     cases k with
     | zero=>omega
     | succ k=>
       have:n / 10 < 10 ^(k+1):=by rw[Nat.pow_succ] at hk2;omega
       have:=h5 k this;simp only[length_append,length_singleton];omega
theorem acb(hn:n<=9223372036854775807):qD (Fe n)=true:=by
 obtain⟨h1,h2,h3,h4,h5⟩:=Ei n;simp only[qD,h1,decide_eq_true hn,Bool.and_true,Bool.or_eq_true,decide_eq_true_eq,Bool.not_eq_true'];by_cases h:n < 10
 ·left;rw[Hg h];simp
 ·right;have:=h4 Taa;exact Zdt
def FL:List UInt8->List UInt8
 | []=> []
 | c::l=>if c=39 then 39::39::FL l else c::FL l
variable{y:List UInt8}
theorem Ej(hy:y.head?≠some 39):∀(s acc:List UInt8),more acc (fw (FL s++39::y))=some (acc++s,y)
 | [],acc=>by rw[append_nil];exact tN hy acc
 | c::s,acc=>by
   by_cases h:c=39
   ·subst h;simp only[FL,if_true,cons_append];rw[CI,Ej hy s];simp
   ·simp only[FL,if_neg h,cons_append];rw[wJ h,Ej hy s];simp
def aht (w:Wd):Prop:=∃r rest,dG r=.ok (w,rest)
theorem aht.cases{w:Wd}(h:aht w):(∃c r,w=⟨1,(c::r).map kN,0⟩/\bH c=true/\(∀x∈c::r,cq x=true)/\(c::r).length<=32)\/(∃n:Nat,w=⟨2,[],n⟩/\n<=9223372036854775807)\/(∃s,w=⟨3,s,0⟩)\/(∃s,w=⟨4,s,0⟩/\s∈signs):=by
 obtain⟨r,rest,h⟩:=h
 match r with
 | []=>simp[dG] at h
 | c::r=>
   simp only[dG] at h;split at h
   ·rename_i hc;have hw:cq c=true:=by simp[cq,hc]
    split at h
    ·rename_i hl;injection h with h;injection h with h1 h2;left;have e:(c::r).takeWhile cq=c::r.takeWhile cq:=by simp[takeWhile_cons,hw]
     rw[e] at h1 hl;exact⟨c,_,h1.symm,hc,by rw[<- e];exact ahs cq _,hl⟩
    ·cases h
   ·split at h
    ·split at h
     ·rename_i hn;injection h with h;injection h with h1 h2;right;left;simp only[Bool.and_eq_true,qD,decide_eq_true_eq] at hn;exact⟨_,h1.symm,hn.1.2⟩
     ·cases h
    ·split at h
     ·split at h
      ·rename_i t rest' ht;injection h with h;injection h with h1 h2;right;right;left;exact⟨t,h1.symm⟩
      ·cases h
     ·split at h
      ·rename_i s hs;injection h with h;injection h with h1 h2;right;right;right;exact⟨s,h1.symm,(pU hs).1⟩
      ·cases h
variable{r:List UInt8}
theorem sG(h1:cZ c=false)(h2:c≠45):bU false (c::r)=c::r:=by rw[bU,h1,if_neg Tab,if_neg (λ h=>h2 h.1)]
theorem Qs:signs.all (λ s=>match s with | []=>false | c::_=> !bH c && !aL c && !(c==39)&& !cZ c)=true:=by decide+kernel
def ZE (t:Wd):Prop:=(0<=t.n/\t.n<=9223372036854775807)/\(t.k=4->t.s∈signs)
variable{rest:List UInt8}
theorem aaU{w:Wd}(h:dG r=.ok (w,rest)):ZE w:=by
 match r with
 | []=>cases h
 | c::r=>
   simp only[dG] at h;split at h
   ·exact Zez
   split at h
   ·split at h
    ·rename_i hb;injection h with h;injection h with h1 h2;subst h1;refine⟨?_,λ e=>by simp at e⟩;simp only[Bool.and_eq_true,qD,decide_eq_true_eq] at hb;have:=hb.1.2;simp only;omega
    ·cases h
   split at h
   ·exact Zez
   ·split at h
    ·rename_i s hs;injection h with h;injection h with h1 h2;subst h1;exact⟨⟨by simp,by simp⟩,λ _=>(pU hs).1⟩
    ·cases h
theorem LU (n:Nat):∀(f:Nat) (r:List UInt8) (l:List na),oZ n f r=.ok l->(∃b,l=b++ [⟨⟨0,[],0⟩,n⟩])/\l.length<=r.length+1/\∀t∈l,ZE t.w
 | 0,r,l,h=>by cases h
 | f+1,r,l,h=>by
   have hle:=jC false r;simp only[oZ] at h;split at h
   ·injection h with h;subst h;exact⟨⟨[],rfl⟩,by simp,λ t ht=>by simp at ht;subst ht;exact⟨⟨by simp,by simp⟩,λ e=>by simp at e⟩⟩
   ·rename_i c r' hsk;rw[hsk] at hle;split at h
    ·cases h
    ·rename_i w rest ho;have hlt:=rR ho;split at h
     ·cases h
     ·rename_i l' hl';injection h with h;subst h;obtain⟨⟨b,hb⟩,h1,h2⟩:=LU n f rest l' hl';refine⟨⟨⟨w,_⟩::b,by rw[hb];rfl⟩,by simp only[length_cons] at hlt hle ⊢;omega,λ t ht=>?_⟩;rcases List.mem_cons.1 ht with rfl | ht
      ·exact aaU ho
      ·exact h2 t ht
theorem yC{s:List UInt8} (h:kO s=.ok l):(∃b n,l=b++ [⟨⟨0,[],0⟩,n⟩])/\l.length<=4097/\∀t∈l,ZE t.w:=by
 unfold kO at h;split at h
 ·cases h
 ·rename_i hs;obtain⟨⟨b,hb⟩,h1,h2⟩:=LU _ _ _ _ h;exact⟨⟨b,_,hb⟩,by omega,h2⟩
theorem GJ{s:List UInt8} (h:kO s=.ok l):jv (l.map (·.w)):=by obtain⟨⟨b,n,rfl⟩,_⟩:=yC h;exact⟨b.map (·.w),⟨0,[],0⟩,by simp,rfl⟩
theorem UN{s:List UInt8} (h:kO s=.ok l):∃t r,l=t::r:=by
 obtain⟨⟨b,n,rfl⟩,_⟩:=yC h
 cases b with
 | nil=>exact⟨_,_,rfl⟩
 | cons t b=>exact⟨_,_,rfl⟩
end Go.Proofs.YtehhdlgjfdnafaaGreatDoor
