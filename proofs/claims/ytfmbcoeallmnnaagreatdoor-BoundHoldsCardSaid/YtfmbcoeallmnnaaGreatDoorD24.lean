/- Parts of the proof. -/
import Derived.Lib.ParseIntB
import Derived.Lib.Case
import Derived.Test.YtfmbcoeallmnnaaGreatDoorProg
import Derived.Test.YtfmbcoeallmnnaaGreatDoorD23
namespace Go.Proofs.YtfmbcoeallmnnaaGreatDoor.R
open Go.Lib (hid)
set_option linter.unusedSimpArgs false
set_option linter.unusedVariables false
def iy (p:UInt8→Bool)(l:List UInt8)(k:Nat):Nat:=k+((l.drop k).takeWhile p).length
theorem Rt (p:UInt8→Bool)(l:List UInt8)(k:Nat)(hk:k≤l.length):iy p l k≤l.length:=by have:=(List.takeWhile_sublist (p:=p) (l:=l.drop k)).length_le;simp only[List.length_drop] at this;unfold iy;omega
theorem eQ (s:ByteArray)(k:Nat)(hk:k < s.size):s.data.toList[k]?=some s[k]:=by rw[List.getElem?_eq_getElem (by simpa using hk)];simp[ByteArray.getElem_eq_getElem_data]
theorem cJ {l:List UInt8} {k:Nat} {c:UInt8}(h:l[k]?=some c):l.drop k=c::l.drop (k+1):=by
 have hk:k < l.length:=by
  rcases Nat.lt_or_ge k l.length with h' | h'
  ·exact h'
  ·rw[List.getElem?_eq_none h'] at h;cases h
 rw[List.drop_eq_getElem_cons hk];rw[List.getElem?_eq_getElem hk] at h;injection h with h;rw[h]
theorem xS {p:UInt8→Bool} {l:List UInt8} {k:Nat} {c:UInt8}(h:l[k]?=some c)(hp:p c=true):iy p l k=iy p l (k+1):=by unfold iy;rw[cJ h,List.takeWhile_cons,if_pos hp,List.length_cons];omega
theorem IU {p:UInt8→Bool} {l:List UInt8} {k:Nat} {c:UInt8}(h:l[k]?=some c)(hp:p c=false):iy p l k=k:=by unfold iy;rw[cJ h,List.takeWhile_cons,if_neg (by rw[hp];decide)];rfl
theorem DR {p:UInt8→Bool} {l:List UInt8} {k:Nat}(h:l.length≤k):iy p l k=k:=by unfold iy;rw[List.drop_eq_nil_of_le h];rfl
theorem IV (p:UInt8→Bool):∀r:List UInt8,r.drop (r.takeWhile p).length=r.dropWhile p
 | []=>rfl
 | c::r=>by
   rw[List.takeWhile_cons,List.dropWhile_cons];split
   ·simpa using IV p r
   ·rfl
theorem Ru (p:UInt8→Bool)(r:List UInt8):r.take (r.takeWhile p).length=r.takeWhile p:=by
 induction r with
 | nil=>rfl
 | cons c r ih=>
   rw[List.takeWhile_cons];split
   ·simpa using ih
   ·rfl
theorem xT (p:UInt8→Bool)(l:List UInt8)(k:Nat):l.drop (iy p l k)=(l.drop k).dropWhile p:=by unfold iy;rw[← List.drop_drop,IV]
theorem DT (p:UInt8→Bool)(l:List UInt8)(k:Nat):(l.drop k).take (iy p l k - k)=(l.drop k).takeWhile p:=by unfold iy;rw[Nat.add_sub_cancel_left,Ru]
theorem kf:∀(b:Bool) (r:List UInt8),cD b r <:+ r
 | _,[]=>by simp[cD]
 | true,c::r=>by
   simp only[cD];split
   ·exact(kf false r).trans (List.suffix_cons _ _)
   ·exact(kf true r).trans (List.suffix_cons _ _)
 | false,c::r=>by
   simp only[cD];split
   ·exact(kf false r).trans (List.suffix_cons _ _)
   ·split
    ·exact(kf true r).trans (List.suffix_cons _ _)
    ·exact List.suffix_refl _
theorem drop_suffix {r l:List UInt8}(h:r <:+ l):l.drop (l.length - r.length)=r:=by obtain⟨p,rfl⟩:=h;simp
theorem NR (l:List UInt8)(c:UInt8):kM (l++ [c])=kM l*10+(c.toNat - 48):=by simp[kM]
theorem NS (l:List UInt8):∀v,v≤l.foldl (fun v c=>v*10+(c.toNat - 48)) v:=by
 induction l with
 | nil=>intro v;exact Nat.le_refl _
 | cons c l ih=>intro v;have:=ih (v*10+(c.toNat - 48));simp only[List.foldl_cons];omega
theorem IW {p:UInt8→Bool}(l:List UInt8):∀c∈l.takeWhile p,p c=true:=fun c hc=>List.all_eq_true.1 (List.all_takeWhile (p:=p) (l:=l)) c hc
open Go.ChangeShapes Go.WideShapes Go.ChangeAt Go.RowKit
def Vu (f:FuncId)(p:UInt8→Bool):Prop:=∀(c:UInt8) (W:World),Calls Tryz.prog f #[.int .u8 (c.toNat:Int)] W fun e w'=>e=.returned (.bool (p c))∧W=w'
theorem lJ {a b:Bool}(h:a=b):Ending.returned (.bool a)=.returned (.bool b):=by rw[h]
theorem mg {k:IntKind} {a b:Int}(h:a=b):Ending.returned (.int k a)=.returned (.int k b):=by rw[h]
theorem Gs (c:UInt8):fL c=((decide ((97:Int)≤c.toNat)&& decide ((c.toNat:Int)≤122))||(decide ((65:Int)≤c.toNat)&& decide ((c.toNat:Int)≤90))||((c.toNat:Int)==95)):=by rw[Bool.eq_iff_iff];simp only[fL,UInt8.le_iff_toNat_le,← UInt8.toNat_inj,Bool.or_eq_true,Bool.and_eq_true,decide_eq_true_eq,beq_iff_eq];simp;omega
theorem KQ (c:UInt8):bH c=(decide ((48:Int)≤c.toNat)&& decide ((c.toNat:Int)≤57)):=by rw[Bool.eq_iff_iff];simp only[bH,UInt8.le_iff_toNat_le,Bool.and_eq_true,decide_eq_true_eq];simp;omega
theorem Vv (c:UInt8)(k:UInt8):(c==k)=((c.toNat:Int)==(k.toNat:Int)):=by rw[Bool.eq_iff_iff];simp[← UInt8.toNat_inj];omega
theorem uf (c:UInt8):oZ c=(((c.toNat:Int)==32)||((c.toNat:Int)==9)||((c.toNat:Int)==10)||((c.toNat:Int)==13)):=by simp only[oZ,Vv];rfl
structure acY (f:FuncId) (p:UInt8→Bool):Prop where
 enter:∀args w,(callFunc f args).run Tryz.prog w=.ok (.enter f args) w
 says:Vu f p
theorem bl {w:World} {q:Nat} {t:TypeId} {a b c d:Value}(h:ag w q t #[a,b,c,d]):
  w.cell? ⟨q,0,none⟩=some a∧w.cell? ⟨q,1,none⟩=some b∧w.cell? ⟨q,2,none⟩=some c∧w.cell? ⟨q,3,none⟩=some d∧w.frozen? ⟨q,0,none⟩=false∧w.frozen? ⟨q,1,none⟩=false∧w.frozen? ⟨q,2,none⟩=false∧w.frozen? ⟨q,3,none⟩=false:=
 ⟨h.cell 0,h.cell 1,h.cell 2,h.cell 3,h.frozen 0,h.frozen 1,h.frozen 2,h.frozen 3⟩
theorem nP (s:ByteArray)(a b:Nat):(s.extract a b).data.toList=(s.data.toList.take b).drop a:=by rw[ByteArray.data_extract,Array.toList_extract,List.extract_eq_take_drop,List.drop_take]
def fH (s:ByteArray)(a:Nat):Nat:=s.size - (cD false (s.data.toList.drop a)).length
theorem mh (s:ByteArray)(a:Nat):s.data.toList.drop (fH s a)=cD false (s.data.toList.drop a):=by have h:cD false (s.data.toList.drop a)<:+ s.data.toList:=(kf _ _).trans (List.drop_suffix _ _);have:=drop_suffix h;simpa [fH] using this
theorem ug (s:ByteArray)(a:Nat):fH s a≤s.size:=Nat.sub_le _ _
theorem KR (s:ByteArray) {a b:Nat}(h:cD false (s.data.toList.drop a)=cD false (s.data.toList.drop b)):fH s a=fH s b:=by unfold fH;rw[h]
theorem mi (p:UInt8→Bool)(s:ByteArray)(k:Nat):(s.extract k (iy p s.data.toList k)).data.toList=(s.data.toList.drop k).takeWhile p:=by rw[nP,← DT,List.drop_take]
theorem Rv (p:UInt8→Bool)(l:List UInt8)(k:Nat):iy p l k - k=((l.drop k).takeWhile p).length:=by unfold iy;omega
theorem th (p:UInt8→Bool)(s:ByteArray) {k:Nat}(hk:k≤s.size):s.size - ((s.data.toList.drop k).dropWhile p).length=iy p s.data.toList k:=by rw[← xT,List.length_drop];have:=Rt p s.data.toList k (by simpa using hk);simp at this ⊢;omega
def more (acc:List UInt8)(x:Option (List UInt8×List UInt8)):Option (List UInt8×List UInt8):=x.map fun y=>(acc++y.1,y.2)
theorem NT (x:Option (List UInt8×List UInt8)):more [] x=x:=by cases x <;> rfl
theorem Gt {c:UInt8}(h:c≠39)(r acc:List UInt8):more acc (fM (c::r))=more (acc++ [c]) (fM r):=by
 cases r with
 | nil=>simp[fM,h,more]
 | cons d r=>simp only[fM,if_neg h,more];cases fM (d::r)<;> simp
theorem NU (r acc:List UInt8):more acc (fM (39::39::r))=more (acc++ [39]) (fM r):=by simp only[fM,more,if_true];cases fM r <;> simp
theorem DU {r:List UInt8}(h:r.head?≠some 39)(acc:List UInt8):more acc (fM (39::r))=some (acc,r):=by
 cases r with
 | nil=>simp[fM,more]
 | cons d r=>
   have:d≠39:=fun e=>h (by rw[e];rfl)
   simp[fM,this,more]
theorem xU (w:World)(a b:Nat):(w.drewN a).drewN b=w.drewN (a+b):=by simp[World.drewN,Nat.add_assoc]
theorem Rw {i:Nat}(hi:i < 15):∃x,signs[i]?=some x∧signs.drop i=x::signs.drop (i+1)∧1≤x.length∧x.length≤2:=by
 have key:∀i,i < 15→∃x,signs[i]?=some x∧1≤x.length∧x.length≤2:=by
  intro i hi
  match i,hi with
  | 0,_ | 1,_ | 2,_ | 3,_ | 4,_ | 5,_ | 6,_ | 7,_ | 8,_ | 9,_ | 10,_ | 11,_ | 12,_ | 13,_ | 14,_=>exact⟨_,rfl,by decide,by decide⟩
  | n+15,h=>omega
 obtain⟨x,h1,h2,h3⟩:=key i hi;refine⟨x,h1,?_,h2,h3⟩;have hlt:i < signs.length:=hi;rw[List.drop_eq_getElem_cons hlt];rw[List.getElem?_eq_getElem hlt] at h1;injection h1 with h1;rw[h1]
def entry (x:List UInt8)(i:Nat):MapEntry:=⟨.string ⟨x.toArray⟩,.bool true,i⟩
def uX:List (List UInt8)→Nat→List MapEntry
 | [],_=> []
 | x::l,i=>entry x i::uX l (i+1)
def Zf (w:World)(g:Nat)(l:List (List UInt8)):Prop:=w.heap[g]?=some (.map (uX l 0).toArray l.length)
theorem IX:lB.length=27:=by decide+kernel
theorem Vw {i:Nat}(hi:i < 27):∃x,lB[i]?=some x∧lB.take (i+1)=lB.take i++ [x]∧(lB.take i).contains x=false:=by
 have hlt:i < lB.length:=by rw[IX];exact hi
 refine⟨lB[i],List.getElem?_eq_getElem hlt,by rw[List.take_succ_eq_append_getElem hlt],?_⟩;have key:(List.range 27).all (fun i=> !(lB.take i).contains (lB.getD i []))=true:=by decide+kernel
 have:=List.all_eq_true.1 key i (List.mem_range.2 hi);rw[List.getD_eq_getElem?_getD,List.getElem?_eq_getElem hlt] at this;simpa using this
structure aaF (w:World) (i:Nat) (wr:World):Prop where
 map:Zf wr w.heap.size (lB.take i)
 rds:ag wr (w.heap.size+1) 9 (lB.map fun l=>Value.string ⟨l.toArray⟩).toArray
 Fh:Below w.heap.size w wr
theorem KS (c:UInt8):(Bq c=true∧decide ((65:Int)≤c.toNat)=true∧decide ((c.toNat:Int)≤90)=true)∨(Bq c=false∧decide ((65:Int)≤c.toNat)=true∧decide ((c.toNat:Int)≤90)=false)∨(Bq c=false∧decide ((65:Int)≤c.toNat)=false):=by
 have e:Bq c=(decide ((65:Int)≤c.toNat)&& decide ((c.toNat:Int)≤90)):=by rw[Bool.eq_iff_iff];simp only[Bq,UInt8.le_iff_toNat_le,Bool.and_eq_true,decide_eq_true_eq];simp;omega
 rw[e];by_cases h1:(65:Int)≤c.toNat <;> by_cases h2:(c.toNat:Int)≤90 <;> simp[h1,h2]
def NV (b:Bool)(w:World)(e:Ending)(w':World):Prop:=e=.returned (.bool b)∧Below w.heap.size w w'
set_option maxHeartbeats 1000000
theorem dX:Vu 123 fL:=by
 intro c W;rw[Gs];have h1:=c.toNat_lt;generalize c.toNat=n at*;go_enter Tryz.func123,Tryz.ntmps123;go_wp2;all_goals
  go_ret;refine⟨?_,rfl⟩;first | rfl |(refine lJ ?_;rw[Bool.eq_iff_iff];simp;omega)|(refine lJ ?_;rw[Bool.eq_iff_iff];simp;done)
theorem eM:Vu 124 bH:=by
 intro c W;rw[KQ];have h1:=c.toNat_lt;generalize c.toNat=n at*;go_enter Tryz.func124,Tryz.ntmps124;go_wp2;all_goals
  go_ret;refine⟨?_,rfl⟩;first | rfl |(refine lJ ?_;rw[Bool.eq_iff_iff];simp;omega)|(refine lJ ?_;rw[Bool.eq_iff_iff];simp;done)
set_option maxHeartbeats 4000000
set_option maxRecDepth 100000
theorem zj (w:World):Calls Tryz.prog 139 #[] w fun e w'=>e=.returned (.slice (some ⟨w.heap.size,0,none⟩) 27 27)∧w'=w.alloc (.cells (lB.map fun l=>Value.string ⟨l.toArray⟩).toArray 9):=by go_enter Tryz.func139,Tryz.ntmps139;go_wp2_with fail;go_ret;exact⟨rfl,rfl⟩
theorem NW {i:Nat} {x:List UInt8}(hx:lB[i]?=some x):lB.drop i=x::lB.drop (i+1):=by
 have hlt:i < lB.length:=by
  rcases Nat.lt_or_ge i lB.length with h | h
  ·exact h
  ·rw[List.getElem?_eq_none h] at hx;cases hx
 rw[List.drop_eq_getElem_cons hlt];rw[List.getElem?_eq_getElem hlt] at hx;injection hx with hx;rw[hx]
theorem KT (l:List UInt8):(⟨l.toArray⟩:ByteArray).toList=l:=by rw[ByteArray.toList_eq]
theorem zm (s:ByteArray)(w:World):Calls Tryz.prog 132 #[.string s] w (NV (zh s.data.toList) w):=by
 go_enter Tryz.func132,Tryz.ntmps132;go_wp2_with fail;refine(zj w).mono ?_;rintro e w1 ⟨rfl,rfl⟩;have HB:=hid (ag.new w 9 (lB.map fun l=>Value.string ⟨l.toArray⟩).toArray);have b1:=aa w (.cells (lB.map fun l=>Value.string ⟨l.toArray⟩).toArray 9);generalize w.alloc (.cells (lB.map fun l=>Value.string ⟨l.toArray⟩).toArray 9)=W at*;go_wp2_with fail;go_loop [4] (fun u=>∃i:Nat,i≤27∧u=.int .i64 i∧zh s.data.toList=(lB.drop i).contains s.data.toList) (fun u=>27 - (intOf u).toNat);case atStart=>exact⟨0,by omega,rfl,rfl⟩
 case round=>
  obtain⟨i,hi,rfl,hrr⟩:=hrel;have UZ:=hid hrr;clear hrr;by_cases hlt:i < 27
  ·obtain⟨x,hx,_,_⟩:=Vw hlt;have hcell:=HB.out.cell i;have hx2:(lB.map fun l=>Value.string ⟨l.toArray⟩).toArray[i]?=some (.string ⟨x.toArray⟩):=by simp[hx]
   rw[hx2] at hcell;have Tz:=hid (NW hx);have e0:=KT x;have HE0:=hid e0;clear hx hx2 e0;by_cases he:s.data.toList=x
   ·have HE:=hid he;have t2:(x==s.toList)=true:=by rw[ByteArray.toList_eq,he];simp
    clear he;go_wp2_with fail;go_ret;refine⟨lJ ?_,b1⟩;rw[UZ.out,Tz.out,HE.out];simp
   ·have HE:=hid he;have t2:(x==s.toList)=false:=by rw[ByteArray.toList_eq,beq_eq_false_iff_ne];exact fun e=>he e.symm
    clear he;go_wp2_with fail;go_round;case rel=>
     refine⟨i+1,by omega,by go_num,?_⟩;rw[UZ.out,Tz.out,List.contains_cons];have:(s.data.toList==x)=false:=by simpa using HE.out
     rw[this];rfl
    case measure=>simp[intOf];omega
  ·obtain rfl:i=27:=by omega
   go_wp2_with fail;go_ret;refine⟨lJ ?_,b1⟩;rw[UZ.out,List.drop_eq_nil_of_le (Nat.le_of_eq IX)];rfl
theorem BL (w:World)(g:Nat)(c:UInt8)(h:ag w g 5 #[.int .u8 (c.toNat:Int)]):(convert 73 9 (.slice (some ⟨g,0,none⟩) 1 1)).run Tryz.prog w=.ok (.string ⟨#[c]⟩) w:=by
 have:=run_convert_bytes_back (P:=Tryz.prog) w 73 9 5 ⟨g,0,none⟩ 1 [c] Tryz.underlying73 Tryz.underlying5 Tryz.underlying9 (fun j hj=>by
  have:j=0:=by simpa using hj
  subst this
  have h0:=h.cell 0
  simpa [Addr.add] using h0)
 simpa using this
theorem Rx {c:UInt8}(h:Bq c=true):(sR c).toNat=c.toNat+32:=by unfold sR;rw[if_pos h];simp[Bq,UInt8.le_iff_toNat_le] at h;rw[UInt8.toNat_add];simp;omega
theorem IY {c:UInt8}(h:Bq c=false):sR c=c:=by unfold sR;rw[h];rfl
theorem lK (l:List UInt8)(c:UInt8):(⟨l.toArray⟩:ByteArray)++⟨#[c]⟩=⟨(l++ [c]).toArray⟩:=by apply ByteArray.ext;simp
theorem Ak (s:ByteArray)(w:World)(hs:s.size≤4294967280):Calls Tryz.prog 125 #[.string s] w fun e w'=>e=.returned (.string ⟨(s.data.toList.map sR).toArray⟩)∧Below w.heap.size w w':=by
 have HLEN:=hid (show s.data.toList.length=s.size by simp);go_enter Tryz.func125,Tryz.ntmps125;go_wp2_with fail;go_loopw [3,4] (fun x u wr=>∃(i:Nat) (l:List UInt8),i≤s.size∧u=.int .i64 i∧x=.string ⟨l.toArray⟩∧l.length=i∧s.data.toList.map sR=l++(s.data.toList.drop i).map sR∧Below w.heap.size w wr) (fun _ u _=>s.size - (intOf u).toNat);case atStart=>exact⟨0,[],by omega,rfl,rfl,rfl,rfl,Below.refl _ _⟩
 case round=>
  obtain⟨i,l,hi,rfl,rfl,hl,hm,hb⟩:=hrel;have HM:=hid hm;have hl2:l.length≤s.size:=by omega
  have HL:=hid hl;have HLL:=hid (show l.length≤s.size by omega);clear hm hl;by_cases hlt:i < s.size
  ·have HD:=hid (cJ (eQ s i hlt));rcases KS s[i] with ⟨hc,t1,t2⟩|⟨hc,t1,t2⟩|⟨hc,t1⟩
   ·have Vx:=Rx hc;have hn:s[i].toNat≤90:=by have:=of_decide_eq_true t2;omega
    have hr:=BL _ _ (sR s[i]) (ag.new wr 5 #[.int .u8 ((sR s[i]).toNat:Int)]);rw[Vx] at hr;rw[show((s[i].toNat+32:Nat):Int)=(s[i].toNat:Int)+32 from rfl] at hr;have Ry:=hid Vx;clear Vx hc;go_wp2_with fail;go_roundw;case rel=>refine⟨i+1,l++ [sR s[i]],by omega,by go_num,by rw[lK],by rw[List.length_append,HL.out];rfl,?_,hb.trans ((aa wr _).mono hb.size)⟩;rw[HM.out,HD.out];simp
    case measure=>simp[intOf];omega
   ·have hr:=BL _ _ s[i] (ag.new wr 5 #[.int .u8 (s[i].toNat:Int)]);have Ry:=hid (IY hc);clear hc;go_wp2_with fail;go_roundw;case rel=>refine⟨i+1,l++ [s[i]],by omega,by go_num,by rw[lK],by rw[List.length_append,HL.out];rfl,?_,hb.trans ((aa wr _).mono hb.size)⟩;rw[HM.out,HD.out];simp[Ry.out]
    case measure=>simp[intOf];omega
   ·have hr:=BL _ _ s[i] (ag.new wr 5 #[.int .u8 (s[i].toNat:Int)]);have Ry:=hid (IY hc);clear hc;go_wp2_with fail;go_roundw;case rel=>refine⟨i+1,l++ [s[i]],by omega,by go_num,by rw[lK],by rw[List.length_append,HL.out];rfl,?_,hb.trans ((aa wr _).mono hb.size)⟩;rw[HM.out,HD.out];simp[Ry.out]
    case measure=>simp[intOf];omega
  ·go_wp2_with fail;go_ret;refine⟨?_,hb⟩;rw[HM.out,List.drop_eq_nil_of_le (by rw[HLEN.out];omega)];simp
theorem xV {s:ByteArray} {a b:Nat}(h:cD false (s.data.toList.drop a)=cD false (s.data.toList.drop b)):fH s a=fH s b:=KR s h
theorem pR {s:ByteArray} {a:Nat}(ha:a≤s.size)(h:cD false (s.data.toList.drop a)=s.data.toList.drop a):fH s a=a:=by unfold fH;rw[h,List.length_drop];simp;omega
theorem Al (s:ByteArray)(at_:Nat)(w:World)(ha:at_≤s.size)(hs:s.size≤4294967280):Calls Tryz.prog 102 #[.string s,.int .i64 at_] w fun e w'=>e=.returned (.int .i64 (fH s at_))∧w=w':=by
 have HLEN:=hid (show s.data.toList.length=s.size by simp);go_enter Tryz.func102,Tryz.ntmps102;go_wp2_with fail;go_loop [1] (fun u=>∃a:Nat,a≤s.size∧u=.int .i64 a∧fH s at_=fH s a) (fun u=>s.size - (intOf u).toNat);case atStart=>exact⟨at_,ha,rfl,rfl⟩
 case round=>
  obtain⟨a,hle,rfl,hsk⟩:=hrel;have HS:=hid hsk;clear hsk;by_cases hlt:a < s.size
  ·have HD:=hid (cJ (eQ s a hlt));cases hb:oZ s[a]
   ·have Qc:s[a]=45∨s[a]≠45:=by by_cases h:s[a]=45 <;> simp[h]
    rw[uf] at hb;simp only[Bool.or_eq_false_iff] at hb;obtain⟨⟨⟨b1,b2⟩,b3⟩,b4⟩:=hb;have HB:=hid (show oZ s[a]=false by rw[uf,b1,b2,b3,b4];rfl);rcases Qc with Qc | Qc
    ·have t1:(((s[a].toNat:Nat):Int)==45)=true:=by rw[Qc];rfl
     have t2:(((s[a].toNat:Nat):Int) != 45)=false:=by rw[Qc];rfl
     have G4:=hid Qc;clear Qc;by_cases O0:a+1 < s.size
     ·have HD1:=hid (cJ (eQ s (a+1) O0));have n1:=decide_eq_false (show¬((s.size:Int)≤(a:Int)+1) by omega);by_cases Vy:s[a+1]=45
      ·have u1:(((s[a+1].toNat:Nat):Int)==45)=true:=by rw[Vy];rfl
       have u2:(((s[a+1].toNat:Nat):Int) != 45)=false:=by rw[Vy];rfl
       have HC:=hid (show cD false (s.data.toList.drop a)=cD true (s.data.toList.drop a) by
        rw[HD.out,HD1.out,Vy,G4.out]
        simp[cD,oZ])
       clear Vy;go_wp2_with fail;go_loop [1] (fun u=>∃k:Nat,a≤k∧k≤s.size∧u=.int .i64 k∧cD false (s.data.toList.drop a)=cD true (s.data.toList.drop k)) (fun u=>s.size - (intOf u).toNat);case atStart=>exact⟨a,Nat.le_refl _,hle,rfl,HC.out⟩
       case round=>
        obtain⟨k,QM,hk2,rfl,hsk⟩:=hrel;have HK:=hid hsk;clear hsk;by_cases Fp:k < s.size
        ·have HDK:=hid (cJ (eQ s k Fp));by_cases h10:s[k]=10
         ·have v1:(((s[k].toNat:Nat):Int)==10)=true:=by rw[h10];rfl
          have v2:(((s[k].toNat:Nat):Int) != 10)=false:=by rw[h10];rfl
          have jw:=hid h10;have hne:a≠k:=by intro e;subst e;have:=G4.out.symm.trans h10;exact absurd this (by decide)
          clear h10;go_wp2_with fail;go_round;case rel=>refine⟨k,hk2,rfl,?_⟩;rw[HS.out];refine xV ?_;rw[HK.out,HDK.out,jw.out];simp[cD,oZ]
          case measure=>simp[intOf];omega
         ·have v1:(((s[k].toNat:Nat):Int)==10)=false:=by rw[beq_eq_false_iff_ne];intro h;exact h10 (UInt8.toNat_inj.1 (by simpa using(by omega:s[k].toNat=10)))
          have v2:(((s[k].toNat:Nat):Int) != 10)=true:=by simpa [bne] using v1
          have jw:=hid h10;clear h10;go_wp2_with fail;go_round;case rel=>refine⟨k+1,by omega,Fp,by go_num,?_⟩;rw[HK.out,HDK.out,cD,if_neg jw.out]
          case measure=>simp[intOf];omega
        ·go_wp2_with fail;go_round;case rel=>refine⟨k,hk2,rfl,?_⟩;rw[HS.out];refine xV ?_;rw[HK.out,List.drop_eq_nil_of_le (by rw[HLEN.out];omega)];simp[cD]
         case measure=>simp[intOf];omega
      ·have u1:(((s[a+1].toNat:Nat):Int)==45)=false:=by rw[beq_eq_false_iff_ne];intro h;exact Vy (UInt8.toNat_inj.1 (by simpa using(by omega:s[a+1].toNat=45)))
       have u2:(((s[a+1].toNat:Nat):Int) != 45)=true:=by simpa [bne] using u1
       have H46:=hid Vy;clear Vy;go_wp2_with fail;go_ret;refine⟨mg ?_,rfl⟩;rw[HS.out,pR hle];rw[HD.out,cD,HB.out,if_neg (by decide),if_neg];rintro⟨_,h⟩;rw[HD1.out] at h;exact H46.out (by simpa using h)
     ·have n1:=decide_eq_true (show((s.size:Int)≤(a:Int)+1) by omega);go_wp2_with fail;go_ret;refine⟨mg ?_,rfl⟩;rw[HS.out,pR hle];rw[HD.out,cD,HB.out,if_neg (by decide),if_neg];rintro⟨_,h⟩;rw[List.drop_eq_nil_of_le (by rw[HLEN.out];omega)] at h;simp at h
    ·have t1:(((s[a].toNat:Nat):Int)==45)=false:=by rw[beq_eq_false_iff_ne];intro h;exact Qc (UInt8.toNat_inj.1 (by simpa using(by omega:s[a].toNat=45)))
     have t2:(((s[a].toNat:Nat):Int) != 45)=true:=by simpa [bne] using t1
     have G4:=hid Qc;clear Qc;go_wp2_with fail;go_ret;refine⟨mg ?_,rfl⟩;rw[HS.out,pR hle];rw[HD.out,cD,HB.out,if_neg (by decide),if_neg];rintro⟨h,_⟩;exact G4.out h
   ·have HB:=hid hb;rw[uf] at hb;cases b1:(((s[a].toNat:Nat):Int)==32)<;> cases b2:(((s[a].toNat:Nat):Int)==9)<;> cases b3:(((s[a].toNat:Nat):Int)==10)<;> cases b4:(((s[a].toNat:Nat):Int)==13);all_goals try (exfalso;rw[b1,b2,b3,b4] at hb;exact absurd hb (by decide))
    all_goals
     clear hb;go_wp2_with fail;go_round;case rel=>refine⟨a+1,hlt,by go_num,?_⟩;rw[HS.out];refine xV ?_;rw[HD.out,cD,if_pos HB.out]
     case measure=>simp[intOf];omega
  ·go_wp2_with fail;go_ret;refine⟨mg ?_,rfl⟩;rw[HS.out,pR hle];rw[List.drop_eq_nil_of_le (by rw[HLEN.out];omega)];rfl
end Go.Proofs.YtfmbcoeallmnnaaGreatDoor.R
