/- Parts of the proof. -/
import Derived.Test.YtehhdlgjfdnafaaGreatDoorXE2
namespace Go.Proofs.YtehhdlgjfdnafaaGreatDoor
open List
variable{p:Prop}
set_option maxHeartbeats 90000000
set_option maxRecDepth 100000
open Go.Lib (hid)
set_option linter.unusedSimpArgs false
set_option linter.unusedVariables false
def bB (c:UInt8):Bool:=(decide (97<=c)&& decide (c<=122))||(decide (65<=c)&& decide (c<=90))|| c==95
def aH (c:UInt8):Bool:=decide (48<=c)&& decide (c<=57)
def cj (c:UInt8):Bool:=bB c || aH c
def cG (c:UInt8):Bool:=c==32 || c==9 || c==10 || c==13
def wF (c:UInt8):Bool:=decide (65<=c)&& decide (c<=90)
def nY (c:UInt8):UInt8:=if wF c then c+32 else c
def bG:Bool->List UInt8->List UInt8
 | _,[]=> []
 | true,c::r=>if c=10 then bG false r else bG true r
 | false,c::r=>if cG c then bG false r else if c=45/\r.head?=some 45 then bG true r else c::r
def gh (l:List UInt8):Nat:=l.foldl (λ v c=>v*10+(c.toNat - 48)) 0
def pd (l:List UInt8):Bool:=(decide (l.length<=1)|| !(l.head?==some 48))&& decide (gh l<=9223372036854775807)
def fJ:List UInt8->Option (List UInt8×List UInt8)
 | []=>none
 | [c]=>if c=39 then some ([],[])else none
 | c::d::r=>if c=39 then(if d=39 then(fJ r).map λ x=>(39::x.1,x.2)else some ([],d::r))else(fJ (d::r)).map λ x=>(c::x.1,x.2)
def signs:List (List UInt8):=[[60,62],[60,61],[62,61],[40],[41],[44],[42],[43],[45],[47],[37],[61],[60],[62],[59]]
def gV:List (List UInt8)->List UInt8->Option (List UInt8)
 | [],_=>none
 | s::l,r=>if s.isPrefixOf r then some s else gV l r
structure Wd where
 k:Nat
 s:List UInt8
 n:Int
deriving DecidableEq
structure mA where
 w:Wd
 p:Nat
deriving DecidableEq
def dF:List UInt8->Except Nat (Wd×List UInt8)
 | []=> .error 30
 | c::r=>
   if bB c then(if ((c::r).takeWhile cj).length<=32 then .ok (⟨1,((c::r).takeWhile cj).map nY,0⟩,(c::r).dropWhile cj)else .error 2)
   else if aH c then(if pd ((c::r).takeWhile aH)&& !(((c::r).dropWhile aH).head?.any bB)then .ok (⟨2,[],gh ((c::r).takeWhile aH)⟩,(c::r).dropWhile aH)else .error 30)
   else if c=39 then(match fJ r with
    | some (t,rest)=> .ok (⟨3,t,0⟩,rest)
    | none=> .error 30)
   else match gV signs (c::r)with
    | some s=> .ok (⟨4,s,0⟩,(c::r).drop s.length)
    | none=> .error 30
def pW (n:Nat):Nat->List UInt8->Except (Nat×Nat) (List mA)
 | 0,_=> .error (0,30)
 | f+1,r=>match bG false r with
   | []=> .ok [⟨⟨0,[],0⟩,n⟩]
   | c::r'=>match dF (c::r')with
     | .error e=> .error (n - (c::r').length,e)
     | .ok (w,rest)=>match pW n f rest with
       | .error e=> .error e
       | .ok l=> .ok (⟨w,n - (c::r').length⟩::l)
def kP (s:List UInt8):Except (Nat×Nat) (List mA):=if 4096 < s.length then .error (0,2)else pW s.length (s.length+1) s
def jr:List (List UInt8):=[[97,110,100],[97,115],[98,121],[99,97,108,108],[99,114,101,97,116,101],[100,101,108,101,116,101],[100,101,115,99],[100,114,111,112],[102,97,108,115,101],[102,114,111,109],[103,114,111,117,112],[104,97,118,105,110,103],[105,110,115,101,114,116],[105,110,116,111],[105,115],[108,105,109,105,116],[110,111,116],[110,117,108,108],[111,110,108,121],[111,114],[111,114,100,101,114],[115,101,108,101,99,116],[115,101,116],[116,114,117,101],[117,112,100,97,116,101],[118,97,108,117,101,115],[119,104,101,114,101]]
def jT (s:List UInt8):Bool:=jr.contains s
def pg (s:List UInt8):Bool:=
 match s with
 | []=>false
 | c::r=>decide ((c::r).length<=32)&& !jT (c::r)&& !aH c &&(c::r).all (λ c=> !wF c && cj c)
theorem jy:∀(b:Bool) (r:List UInt8),(bG b r).length<=r.length
 | _,[]=>by simp[bG]
 | true,c::r=>by have h1:=jy false r;have h2:=jy true r;simp only[bG];split <;> simp only[length_cons] <;> omega
 | false,c::r=>by
   have h1:=jy false r;have h2:=jy true r;simp only[bG];split
   ·simp only[length_cons];omega
   ·split <;> simp only[length_cons] <;> omega
theorem rF:∀(r:List UInt8) (t rest:List UInt8),fJ r=some (t,rest)->∃b,r=b++rest/\b≠ []
 | [],t,rest,h=>by simp[fJ] at h
 | [c],t,rest,h=>by
   simp only[fJ] at h;split at h
   ·rename_i hc;injection h with h;injection h with h1 h2;subst h1 h2 hc;exact⟨[39],rfl,by simp⟩
   ·cases h
 | c::d::r,t,rest,h=>by
   simp only[fJ] at h;split at h
   ·rename_i hc;subst hc;split at h
    ·rename_i hd;subst hd;cases hr:fJ r with
     | none=>rw[hr] at h;cases h
     | some x=>obtain⟨t',rest'⟩:=x;rw[hr] at h;simp only[Option.map_some,Option.some.injEq,Prod.mk.injEq] at h;obtain⟨rfl,rfl⟩:=h;obtain⟨b,hb,_⟩:=rF r t' _ hr;exact⟨39::39::b,by rw[hb];rfl,by simp⟩
    ·injection h with h;injection h with h1 h2;subst h1 h2;exact⟨[39],rfl,by simp⟩
   ·cases hr:fJ (d::r)with
    | none=>rw[hr] at h;cases h
    | some x=>obtain⟨t',rest'⟩:=x;rw[hr] at h;simp only[Option.map_some,Option.some.injEq,Prod.mk.injEq] at h;obtain⟨rfl,rfl⟩:=h;obtain⟨b,hb,_⟩:=rF (d::r) t' _ hr;exact⟨c::b,by rw[hb];rfl,by simp⟩
theorem rG:∀ {l:List (List UInt8)} {r s:List UInt8},gV l r=some s->s∈l/\s <+: r
 | [],r,s,h=>by simp[gV] at h
 | x::l,r,s,h=>by
   simp only[gV] at h;split at h
   ·rename_i hp;injection h with h;subst h;exact⟨mem_cons_self,by simpa using hp⟩
   ·obtain⟨h1,h2⟩:=rG h;exact⟨mem_cons_of_mem _ h1,h2⟩
variable{r rest:List UInt8}
theorem zC{w:Wd}(h:dF r=.ok (w,rest)):∃b,r=b++rest/\b≠ []:=by
 match r with
 | []=>simp[dF] at h
 | c::r=>
   simp only[dF] at h;split at h
   ·rename_i hc;split at h
    ·injection h with h;injection h with h1 h2;subst h1 h2;refine⟨_,(takeWhile_append_dropWhile (p:=cj)).symm,?_⟩;have:cj c=true:=by simp[cj,hc]
     simp[takeWhile_cons,this]
    ·cases h
   ·split at h
    ·rename_i hc;split at h
     ·injection h with h;injection h with h1 h2;subst h1 h2;refine⟨_,(takeWhile_append_dropWhile (p:=aH)).symm,?_⟩;simp[takeWhile_cons,hc]
     ·cases h
    ·split at h
     ·split at h
      ·rename_i t rest' ht;injection h with h;injection h with h1 h2;subst h1 h2;obtain⟨b,hb,_⟩:=rF _ _ _ ht;exact⟨c::b,by rw[hb];rfl,by simp⟩
      ·cases h
     ·split at h
      ·rename_i s hs;injection h with h;injection h with h1 h2;subst h1 h2;obtain⟨h1,t,h2⟩:=rG hs;refine⟨s,?_,?_⟩
       ·rw[<- h2];simp
       ·intro e;subst e;revert h1;decide
      ·cases h
theorem sL{w:Wd}(h:dF r=.ok (w,rest)):rest.length < r.length:=by obtain⟨b,rfl,hb⟩:=zC h;have:0 < b.length:=List.length_pos_iff.2 hb;simp;omega
theorem CK (n:Nat):∀(f g:Nat) (r:List UInt8),r.length < f->r.length < g->pW n f r=pW n g r
 | 0,_,_,h,_=>by omega
 | _,0,_,_,h=>by omega
 | f+1,g+1,r,hf,hg=>by
   have hs:=jy false r;simp only[pW];cases hk:bG false r with
   | nil=>rfl
   | cons c r'=>
     rw[hk] at hs;simp only;cases ho:dF (c::r')with
     | error e=>rfl
     | ok x=>obtain⟨w,rest⟩:=x;have:=sL ho;simp only;rw[CK n f g rest Taa Taa]
def dR (p:UInt8->Bool)(l:List UInt8)(k:Nat):Nat:=k+((l.drop k).takeWhile p).length
theorem om (p:UInt8->Bool)(l:List UInt8)(k:Nat)(hk:k<=l.length):dR p l k<=l.length:=by have:=(takeWhile_sublist (p:=p) (l:=l.drop k)).length_le;simp only[length_drop] at this;unfold dR;omega
theorem pX (p:UInt8->Bool)(l:List UInt8)(k:Nat):k<=dR p l k:=by unfold dR;omega
theorem byte_at (s:ByteArray)(k:Nat)(hk:k < s.size):s.data.toList[k]?=some s[k]:=by rw[getElem?_eq_getElem TaB];simp[ByteArray.getElem_eq_getElem_data]
variable{l:List UInt8}{c:UInt8}
theorem drop_at{k:Nat} (h:l[k]?=some c):l.drop k=c::l.drop (k+1):=by
 have hk:k < l.length:=by
  rcases Nat.lt_or_ge k l.length with h' | h'
  ·exact h'
  ·exact Zgx
 rw[drop_eq_getElem_cons hk];rw[getElem?_eq_getElem hk] at h;injection h with h;rw[h]
theorem pj{p:UInt8->Bool}  {k:Nat} (h:l[k]?=some c)(hp:p c=true):dR p l k=dR p l (k+1):=by unfold dR;rw[drop_at h,takeWhile_cons,if_pos hp,length_cons];omega
theorem yN{p:UInt8->Bool}  {k:Nat} (h:l[k]?=some c)(hp:p c=false):dR p l k=k:=by unfold dR;rw[drop_at h,takeWhile_cons,if_neg (by rw[hp];decide)];rfl
theorem uV{p:UInt8->Bool}  {k:Nat}(h:l.length<=k):dR p l k=k:=by unfold dR;rw[drop_eq_nil_of_le h];rfl
theorem Ml (p:UInt8->Bool):∀r:List UInt8,r.drop (r.takeWhile p).length=r.dropWhile p
 | []=>rfl
 | c::r=>by
   rw[takeWhile_cons,dropWhile_cons];split
   ·simpa using Ml p r
   ·rfl
theorem WK (p:UInt8->Bool)(r:List UInt8):r.take (r.takeWhile p).length=r.takeWhile p:=by
 induction r with
 | nil=>rfl
 | cons c r ih=>
   rw[takeWhile_cons];split
   ·simpa using ih
   ·rfl
theorem lU (p:UInt8->Bool)(l:List UInt8)(k:Nat):l.drop (dR p l k)=(l.drop k).dropWhile p:=by unfold dR;rw[<- drop_drop,Ml]
theorem Gm (p:UInt8->Bool)(l:List UInt8)(k:Nat):(l.drop k).take (dR p l k - k)=(l.drop k).takeWhile p:=by unfold dR;rw[Nat.add_sub_cancel_left,WK]
theorem tY:∀r:List UInt8,bG false r=bG false (r.dropWhile cG)
 | []=>rfl
 | c::r=>by
   rw[dropWhile_cons];split
   ·rename_i h;rw[bG,if_pos h];exact tY r
   ·rfl
theorem uW:∀r:List UInt8,bG true r=bG false (r.dropWhile λ c=> !(c==10))
 | []=>rfl
 | c::r=>by
   rw[dropWhile_cons];by_cases h:c=10
   ·subst h;simp only[bG,beq_self_eq_true,Bool.not_true,Bool.false_eq_true,if_false];simp[cG]
   ·have h2:(!(c==10))=true:=by simp[h]
    rw[if_pos h2,bG,if_neg h];exact uW r
theorem Rq(h:Lib.hasPrefix r [45,45]=true):bG false r=bG false (r.dropWhile λ c=> !(c==10)):=by
 rw[<- uW]
 match r with
 | []=>simp[Lib.hasPrefix] at h
 | [c]=>simp[Lib.hasPrefix,List.isPrefixOf] at h
 | c::d::r=>simp[Lib.hasPrefix,List.isPrefixOf] at h;obtain⟨rfl,rfl⟩:=h;simp[bG,cG]
theorem NK(h:Lib.hasPrefix (r.dropWhile cG) [45,45]=false):bG false r=r.dropWhile cG:=by
 rw[tY];generalize hr:r.dropWhile cG=q at*
 match q with
 | []=>rfl
 | c::q=>
   have hb:cG c=false:=by have:=head?_dropWhile_not cG r;rw[hr] at this;simpa using this
   rw[bG,hb,if_neg Tac];rw[if_neg];rintro⟨rfl,h2⟩
   cases q with
   | nil=>simp at h2
   | cons d q=>simp at h2;subst h2;simp[Lib.hasPrefix,List.isPrefixOf] at h
theorem lV:∀(b:Bool) (r:List UInt8),bG b r <:+ r
 | _,[]=>by simp[bG]
 | true,c::r=>by
   simp only[bG];split
   ·exact(lV false r).trans (suffix_cons _ _)
   ·exact(lV true r).trans (suffix_cons _ _)
 | false,c::r=>by
   simp only[bG];split
   ·exact(lV false r).trans (suffix_cons _ _)
   ·split
    ·exact(lV true r).trans (suffix_cons _ _)
    ·exact suffix_refl _
theorem drop_suffix(h:r <:+ l):l.drop (l.length - r.length)=r:=by obtain⟨p,rfl⟩:=h;simp
theorem Gn (l:List UInt8)(c:UInt8):gh (l++ [c])=gh l*10+(c.toNat - 48):=by simp[gh]
theorem Gp (l:List UInt8):∀v,v<=l.foldl (λ v c=>v*10+(c.toNat - 48)) v:=by
 induction l with
 | nil=>intro v;exact Nat.le_refl _
 | cons c l ih=>intro v;have:=ih (v*10+(c.toNat - 48));simp only[foldl_cons];omega
theorem xI:∀(l:List UInt8) (v:Nat),(∀c∈l,aH c=true)->v<=18446744073709551615->
  Lib.parseUintM 18446744073709551615 v l=if l.foldl (λ v c=>v*10+(c.toNat - 48)) v<=18446744073709551615 then .ok (l.foldl (λ v c=>v*10+(c.toNat - 48)) v)else .range
 | [],v,_,hv=>by simp[Lib.parseUintM,hv]
 | c::l,v,hd,hv=>by
   have hc:48<=c.toNat/\c.toNat<=57:=by have:=hd c mem_cons_self;simpa [aH,UInt8.le_iff_toNat_le] using this
   have hm:=Gp l (v*10+(c.toNat - 48));rw[Lib.parseUintM,if_pos hc,foldl_cons];by_cases h1:1844674407370955162<=v
   ·rw[if_pos h1,if_neg Taa]
   ·rw[if_neg h1];by_cases h2:18446744073709551615 < v*10+(c.toNat - 48)
    ·rw[if_pos h2,if_neg Taa]
    ·rw[if_neg h2];exact xI l _ (λ c h=>hd c (mem_cons_of_mem _ h)) Taa
theorem zD(hne:l≠ [])(hd:∀c∈l,aH c=true):Lib.parseIntB 64 l=if gh l<=9223372036854775807 then .ok (gh l:Int)else .range:=by
 match l with
 | []=>exact absurd rfl hne
 | c::r=>
   have hc:48<=c.toNat/\c.toNat<=57:=by have:=hd c mem_cons_self;simpa [aH,UInt8.le_iff_toNat_le] using this
   have hu:=xI (c::r) 0 hd Taa;change _=if gh (c::r)<=_ then Lib.NumEnd.ok (gh (c::r))else _ at hu;have e1:¬(c.toNat=43\/c.toNat=45):=by omega
   have e2:¬c.toNat=45:=by omega
   have e3:¬c.toNat=43:=by omega
   simp only[Lib.parseIntB,e2,e3,or_false,if_false,Lib.parseUintB,if_neg hne];rw[show 2 ^ 64 - 1=18446744073709551615 from rfl,hu];by_cases h1:gh (c::r)<=18446744073709551615
   ·rw[if_pos h1];simp only[show 2 ^(64 - 1)=9223372036854775808 from rfl];by_cases h2:gh (c::r)<=9223372036854775807
    ·rw[if_pos h2,if_neg Taa,if_neg Tae]
    ·rw[if_neg h2,if_pos Tad]
   ·rw[if_neg h1,if_neg Taa]
theorem JF(h:cj c=true):c.toNat < 128:=by simp[cj,bB,aH,UInt8.le_iff_toNat_le,<- UInt8.toNat_inj] at h;omega
theorem yO{p:UInt8->Bool}(l:List UInt8):∀c∈l.takeWhile p,p c=true:=λ c hc=>List.all_eq_true.1 (all_takeWhile (p:=p) (l:=l)) c hc
open Go.ChangeShapes Go.WideShapes Go.ChangeAt Go.RowKit Go.Shelf
def Eg (f:FuncId)(p:UInt8->Bool):Prop:=∀(c:UInt8) (W:World),Calls Tryz.prog f #[.int .u8 (c.toNat:Int)] W λ e w'=>e=.returned (.bool (p c))/\W=w'
variable{a b:Bool}
theorem cP(h:a=b):Ending.returned (.bool a)=.returned (.bool b):=by rw[h]
theorem jC{k:IntKind} {a b:Int}(h:a=b):Ending.returned (.int k a)=.returned (.int k b):=by rw[h]
theorem zE (c:UInt8):bB c=((decide ((97:Int)<=c.toNat)&& decide ((c.toNat:Int)<=122))||(decide ((65:Int)<=c.toNat)&& decide ((c.toNat:Int)<=90))||((c.toNat:Int)==95)):=by rw[Bool.eq_iff_iff];simp only[bB,UInt8.le_iff_toNat_le,<- UInt8.toNat_inj,Bool.or_eq_true,Bool.and_eq_true,decide_eq_true_eq,beq_iff_eq];simp;omega
theorem CL (c:UInt8):aH c=(decide ((48:Int)<=c.toNat)&& decide ((c.toNat:Int)<=57)):=by rw[Bool.eq_iff_iff];simp only[aH,UInt8.le_iff_toNat_le,Bool.and_eq_true,decide_eq_true_eq];simp;omega
theorem pY:Eg 103 bB:=by intro c W;rw[zE];have h1:=c.toNat_lt;generalize c.toNat=n at*;go_enter Tryz.func103,Tryz.ntmps103;exact ZaW
theorem mW:Eg 105 aH:=by intro c W;rw[CL];have h1:=c.toNat_lt;generalize c.toNat=n at*;go_enter Tryz.func105,Tryz.ntmps105;exact ZaW
theorem JG (c:UInt8)(k:UInt8):(c==k)=((c.toNat:Int)==(k.toNat:Int)):=by rw[Bool.eq_iff_iff];simp[<- UInt8.toNat_inj];omega
theorem sM (c:UInt8):cG c=(((c.toNat:Int)==32)||((c.toNat:Int)==9)||((c.toNat:Int)==10)||((c.toNat:Int)==13)):=by simp only[cG,JG];rfl
theorem NL:Eg 100 cG:=by intro c W;rw[sM];generalize c.toNat=n at*;go_enter Tryz.func100,Tryz.ntmps100;exact ZaW
theorem NN:Eg 102 (λ c=> !(c==10)):=by intro c W;simp only[JG];generalize c.toNat=n at*;go_enter Tryz.func102,Tryz.ntmps102;exact ZaW
theorem NP:Eg 107 (λ c=>c==39):=by intro c W;simp only[JG];generalize c.toNat=n at*;go_enter Tryz.func107,Tryz.ntmps107;exact ZaW
theorem NQ:Eg 144 cj:=by
 intro c W;unfold cj;cases h:bB c
 ·exact ZcH
 ·exact ZcH
def qT (s:ByteArray)(at_:Nat):Array Value:= #[.string s,.int .i64 at_]
variable{g:Nat}{t:TypeId}
theorem cJ{w:World}   {s:ByteArray} {a:Nat}(h:av w g t (qT s a)):w.cell? ⟨g,0,none⟩=some (.string s)/\w.cell? ⟨g,1,none⟩=some (.int .i64 a):=⟨h.cell 0,h.cell 1⟩
structure Gq (f:FuncId) (p:UInt8->Bool):Prop where
 enter:∀args w,(callFunc f args).run Tryz.prog w=.ok (.enter f args) w
 says:Eg f p
theorem jK:Gq 103 bB:=⟨enters_of Tryz.func103 Tab rfl,pY⟩
theorem tZ:Gq 105 aH:=⟨enters_of Tryz.func105 Tab rfl,mW⟩
theorem JH:Gq 100 cG:=⟨enters_of Tryz.func100 Tab rfl,NL⟩
theorem NR:Gq 102 (λ c=> !(c==10)):=⟨enters_of Tryz.func102 Tab rfl,NN⟩
theorem zF:Gq 107 (λ c=>c==39):=⟨enters_of Tryz.func107 Tab rfl,NP⟩
theorem CM:Gq 144 cj:=⟨enters_of Tryz.func144 Tab rfl,NQ⟩
variable{f:FuncId}
theorem mG{p:UInt8->Bool}(hf:Gq f p)(s:ByteArray)(at_ k:Nat)(g:Nat)(w:World)(hL:av w g 118 (qT s at_))(hk:k<=s.size)(hs:s.size<=4294967280):
  Calls Tryz.prog 99 #[.pointer (some ⟨g,0,none⟩),.int .i64 k,.func (.func f) #[] #[]] w λ e w'=>e=.returned (.int .i64 (dR p s.data.toList k))/\w=w':=by
 obtain⟨c0,c1⟩:=cJ hL;have hlen:s.data.toList.length=s.size:=by simp
 have HL:=hid hlen;clear hlen;have ef:=hf.enter;go_enter Tryz.func99,Tryz.ntmps99;go_wp2_with fail;go_loop [1] (λ u=>∃j:Nat,j<=s.size/\u=.int .i64 j/\dR p s.data.toList k=dR p s.data.toList j) (λ u=>s.size - (intOf u).toNat);case atStart=>exact⟨k,hk,rfl,rfl⟩
 case round=>
  obtain⟨j,hj,rfl,Rs⟩:=hrel;have HF:=hid Rs;clear Rs;by_cases hlt:j < s.size
  ·have HB:=hid (byte_at s j hlt);cases hpp:p s[j]
   ·have HP:=hid hpp;clear hpp;go_wp2_with (go_at_fn f;refine(hf.says s[j] _).mono ?_;rintro e w' ⟨rfl,rfl⟩;rw[HP.out]);go_ret;exact⟨jC (by rw[HF.out,yN HB.out HP.out]),rfl⟩
   ·have HP:=hid hpp;clear hpp;go_wp2_with (go_at_fn f;refine(hf.says s[j] _).mono ?_;rintro e w' ⟨rfl,rfl⟩;rw[HP.out]);go_round;case rel=>exact⟨j+1,hlt,by go_num,by rw[HF.out,pj HB.out HP.out]⟩
    case measure=>exact Zcj
  ·go_wp2_with fail;go_ret;exact⟨jC (by rw[HF.out,uV TaT]),rfl⟩
def Sep (x:List UInt8):Prop:=x=[]\/∃c r,x=c::r/\cG c=true
theorem rQ(h:cG c=true):c=32\/c=9\/c=10\/c=13:=by
 simp only[cG,Bool.or_eq_true,beq_iff_eq] at h;rcases h with ((h | h)| h)| h <;> simp[h]
variable{x:List UInt8}
theorem CZ{p:UInt8->Bool} {b:List UInt8}(hb:∀c∈b,p c=true)(hx:x.head?.any p=false):(b++x).takeWhile p=b/\(b++x).dropWhile p=x:=by
 rw[takeWhile_append_of_pos hb,dropWhile_append_of_pos hb]
 cases x with
 | nil=>simp
 | cons d x=>
   have:p d=false:=by simpa using hx
   simp[takeWhile_cons,dropWhile_cons,this]
theorem Sc{s:List UInt8}(hs:s∈signs) (hx:Sep x):gV signs (s++x)=some s:=by
 simp only[signs,mem_cons,not_mem_nil,or_false] at hs;rcases hx with rfl |⟨c,r,rfl,hc⟩
 ·rcases hs with rfl | rfl | rfl | rfl | rfl | rfl | rfl | rfl | rfl | rfl | rfl | rfl | rfl | rfl | rfl <;> rfl
 ·rcases hs with rfl | rfl | rfl | rfl | rfl | rfl | rfl | rfl | rfl | rfl | rfl | rfl | rfl | rfl | rfl <;> rcases rQ hc with rfl | rfl | rfl | rfl <;> rfl
theorem Sd{s:List UInt8}(hs:s∈signs):(∃c,s=[c])\/∃c d,s=[c,d]:=by
 simp only[signs,mem_cons,not_mem_nil,or_false] at hs;rcases hs with rfl | rfl | rfl | rfl | rfl | rfl | rfl | rfl | rfl | rfl | rfl | rfl | rfl | rfl | rfl <;> first | exact .inl ⟨_,rfl⟩| exact .inr ⟨_,_,rfl⟩
inductive Ki:List UInt8->List (Wd×Nat)->List UInt8->Prop
 | stop (r:List UInt8):Ki r [] (bG false r)
 | step {r r1 rest q:List UInt8} {c:UInt8} {w:Wd} {ws:List (Wd×Nat)} (hs:bG false r=c::r1) (ho:dF (c::r1)=.ok (w,rest)) (h:Ki rest ws q):Ki r ((w,(c::r1).length)::ws) q
def Sg (n:Nat)(x:Wd×Nat):mA:=⟨x.1,n - x.2⟩
def Kj (n:Nat):mA:=⟨⟨0,[],0⟩,n⟩
variable{q:List UInt8}{ws:List (Wd×Nat)}
theorem Sh{n:Nat}  (h:Ki r ws q):∀ {f:Nat},r.length < f->q=[]->pW n f r=.ok (ws.map (Sg n)++ [Kj n]):=by
 induction h with
 | stop r=>
   intro f hf hq
   cases f with
   | zero=>omega
   | succ f=>simp only[pW,hq];rfl
 | @step r r1 rest q c w ws hs ho h ih=>
   intro f hf hq
   cases f with
   | zero=>omega
   | succ f=>have hle:=jy false r;rw[hs] at hle;have:=sL ho;simp only[pW,hs,ho,ih (f:=f) Taa hq];rfl
theorem Ki.start{t:List UInt8} (h:Ki t ws q)(e:bG false r=bG false t):Ki r ws q:=by
 cases h with
 | stop r'=>rw[<- e];exact .stop r
 | step hs ho h=>exact .step (e.trans hs) ho h
theorem Kk{s:List UInt8}(h:s.length<=4096):kP s=pW s.length (s.length+1) s:=by unfold kP;rw[if_neg Taa]
theorem EI{s:List UInt8} (hl:s.length<=4096)(h:Ki s ws q)(hq:q=[]):kP s=.ok (ws.map (Sg s.length)++ [Kj s.length]):=by rw[Kk hl];exact Sh h Taa hq
theorem EJ(h:bB c=true):aH c=false:=by
 cases hd:aH c
 ·rfl
 ·simp[bB,aH,UInt8.le_iff_toNat_le,<- UInt8.toNat_inj] at h hd;omega
theorem EK(h:bB c=true):bG false (c::r)=c::r:=by
 have h1:¬cG c=true:=by intro hb;rcases rQ hb with rfl | rfl | rfl | rfl <;> revert h <;> decide
 have h2:¬(c=45/\r.head?=some 45):=by rintro⟨rfl,_⟩;revert h;decide
 rw[bG,if_neg h1,if_neg h2]
theorem pZ:(Tryz.prog.info? 61).map (·.size)=some 2:=by kernel_rfl
theorem En:liesAt Tryz.prog Tryz.prog.depth 61 (2 / Tryz.prog.cellsOf 61) 0 61 1=true:=by kernel_rfl
theorem CQ:(Tryz.prog.info? 5).map (λ i=>(i.zero,i.size,i.bytes))=some (some (.int .u8 0),1,1):=by kernel_rfl
theorem zJ (b:Nat)(w:World)(h0:w.cell? ⟨b,0,none⟩=some (.pointer (some ⟨b,0,none⟩))):
  Calls Tryz.prog 138 #[.pointer (some ⟨b,0,none⟩)] w λ e w'=>e=.returned (.tuple #[])/\w=w':=by obtain⟨j,hj,_⟩:=Option.map_eq_some_iff.1 pZ;go_enter Tryz.func138,Tryz.ntmps138;go_wp2_with fail;rw[Lib.run_neq_ptr_same w _ Tryz.underlying58 hj];go_wp2_with fail;go_end0;exact⟨rfl,rfl⟩
theorem zfu.KbA(h:p:=by rw[Lib.run_from_unsafe w ⟨b,0,none⟩ Tryz.underlying184 Tryz.underlying58 hj NS En];exact ZfO):p:=h
theorem Gx (b:Nat)(w:World)(h0:w.cell? ⟨b,0,none⟩=some (.pointer none))(NS:w.shape? b=some (61,2))(hfz:w.frozen? ⟨b,0,none⟩=false):
  Calls Tryz.prog 138 #[.pointer (some ⟨b,0,none⟩)] w λ e w'=>e=.returned (.tuple #[])/\w'=w.setCell ⟨b,0,none⟩ (.pointer (some ⟨b,0,none⟩)):=by obtain⟨j,hj,Rv⟩:=Option.map_eq_some_iff.1 pZ;go_enter Tryz.func138,Tryz.ntmps138;go_wp2_with fail;rw[Lib.run_to_unsafe w ⟨b,0,none⟩ Tryz.underlying58 Tryz.underlying184 hj (by rw[Rv];decide) NS (Nat.zero_lt_succ 1)];open zfu in exact Zde
def Gy (B b:Nat)(l:List UInt8)(w:World):Prop:=Lib.IsBuilder 61 5 B b (Lib.byteCells l) w
theorem NT (B b:Nat)(bs:List Value)(w:World)(h:Lib.IsBuilder 61 5 B b bs w):
  Calls Tryz.prog 138 #[.pointer (some ⟨b,0,none⟩)] w λ e w'=>e=.returned (.tuple #[])/\Lib.BuilderAt 61 5 B b (.pointer (some ⟨b,0,none⟩)) bs w'/\Below B w w':=by
 rcases h with h | h
 ·refine(Gx b w h.cell0 h.shape h.frozen0).mono ?_;rintro e w' ⟨rfl,rfl⟩;exact⟨rfl,h.used _,(Below.refl B w).setCell (p:=⟨b,0,none⟩) h.1 _⟩
 ·refine(zJ b w h.cell0).mono ?_;rintro e w' ⟨rfl,rfl⟩;exact⟨rfl,h,Below.refl B _⟩
theorem zgm.KbW(h:p:=by
 obtain⟨g,cap,rfl⟩:∃g cap,v'=.slice (some ⟨g,0,none⟩) (bs.length+1) cap:=by
  rcases hown'.2 with ⟨_,h0⟩|⟨g,cap,cur,hv,_⟩
  ·omega
  ·exact⟨g,cap,hv⟩
 go_wp2_with fail;go_ret;refine⟨rfl,?_,?_⟩
 ·exact Lib.BuilderAt.put (T:=61) (e:=5) hB hb2 (bs':=bs++ [.int .u8 c]) (by simpa using hown') Tac
 ·exact((hb1.alloc (by have:=hb1.size;omega) _).grown hgrow (by have:=hb1.size;simp;omega) (λ k hk=>(hown.lt k hk).1)).setCell (p:=⟨b,1,none⟩) hB _):p:=h
theorem zhK.Kcz(h:p:=by
 go_wp2_with (at_builtin;refine wpList_append_own _ rfl _ _ 59 rfl B 5 i0 (.int .u8 0) 1 1 Tryz.underlying59 hi hz0 hz1 hz2 rfl Tac _ _ _ rfl (hown.alloc _) ⟨w1.heap.size,0,none⟩ 1 1 [.int .u8 c] rfl rfl ?c1 ?c2 ?c3 ?c4 ?c5 ?_)
 case c1=>
  intro j u hj
  match j,hj with
  | 0,hj=>simp at hj;subst hj;simp[Addr.add]
 case c2=>intro u hu;simp at hu;subst hu;rfl
 case c3=>unfold maxLen;omega
 case c4=>omega
 case c5=>have:=hb1.size;simp;omega
 intro v' w2 hown' hgrow _
 have hlt:b < w1.heap.size:=by
  rcases Nat.lt_or_ge b w1.heap.size with h' | h'
  ·exact h'
  ·simp[Array.getElem?_eq_none h'] at ub
 have hb2:w2.heap[b]?=some (.cells #[.pointer (some ⟨b,0,none⟩),v] 61 (0,0)):=by rw[hgrow.block b Tad (λ e=>hne e.symm),Lib.alloc_old w1 _ b hlt];exact ub
 open zgm in exact Zee):p:=h
theorem NU (B b:Nat)(bs:List Value)(c:Int)(w:World)(h:Lib.IsBuilder 61 5 B b bs w)(hlen:bs.length+1<=140737488355328)(yt:B<=w.heap.size):
  Calls Tryz.prog 148 #[.pointer (some ⟨b,0,none⟩),.int .u8 c] w λ e w'=>e=.returned .nilIface/\Lib.BuilderAt 61 5 B b (.pointer (some ⟨b,0,none⟩)) (bs++ [.int .u8 c]) w'/\Below B w w':=by obtain⟨i0,hi,hz0,hz1,hz2⟩:=info_parts CQ;go_enter Tryz.func148,Tryz.ntmps148;go_wp2_with fail;refine(NT B b bs _ h).mono ?_;rintro e w1 ⟨rfl,h1,hb1⟩;obtain⟨hB,v,ub,hown,hne⟩:=h1;open zhK in exact Zgq
theorem zK (B b:Nat)(l:List UInt8)(c:UInt8)(w:World)(h:Gy B b l w)(hlen:l.length+1<=140737488355328)(yt:B<=w.heap.size):
  Calls Tryz.prog 148 #[.pointer (some ⟨b,0,none⟩),.int .u8 (c.toNat:Int)] w λ e w'=>e=.returned .nilIface/\Gy B b (l++ [c]) w'/\Below B w w':=by
 refine(NU B b (Lib.byteCells l) c.toNat w h (by rw[Lib.byteCells_length];exact hlen) yt).mono ?_;rintro e w' ⟨he,h1,h2⟩;refine⟨he,.inr ?_,h2⟩;have:Lib.byteCells (l++ [c])=Lib.byteCells l++ [.int .u8 (c.toNat:Int)]:=by simp[Lib.byteCells]
 rw[this];exact h1
end Go.Proofs.YtehhdlgjfdnafaaGreatDoor
