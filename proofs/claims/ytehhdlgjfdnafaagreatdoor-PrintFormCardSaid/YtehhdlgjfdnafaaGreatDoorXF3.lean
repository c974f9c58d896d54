/- Parts of the proof. -/
import Derived.Test.YtehhdlgjfdnafaaGreatDoorXF2
namespace Go.Proofs.YtehhdlgjfdnafaaGreatDoor
open List
variable{p:Prop}
set_option maxHeartbeats 90000000
set_option maxRecDepth 100000
open Go.Lib (hid)
set_option linter.unusedSimpArgs false
set_option linter.unusedVariables false
def bH (c:UInt8):Bool:=(decide (97<=c)&& decide (c<=122))||(decide (65<=c)&& decide (c<=90))|| c==95
def aL (c:UInt8):Bool:=decide (48<=c)&& decide (c<=57)
def cq (c:UInt8):Bool:=bH c || aL c
def cZ (c:UInt8):Bool:=c==32 || c==9 || c==10 || c==13
def wF (c:UInt8):Bool:=decide (65<=c)&& decide (c<=90)
def kN (c:UInt8):UInt8:=if wF c then c+32 else c
def bU:Bool->List UInt8->List UInt8
 | _,[]=> []
 | true,c::r=>if c=10 then bU false r else bU true r
 | false,c::r=>if cZ c then bU false r else if c=45/\r.head?=some 45 then bU true r else c::r
def gZ (l:List UInt8):Nat:=l.foldl (λ v c=>v*10+(c.toNat - 48)) 0
def qD (l:List UInt8):Bool:=(decide (l.length<=1)|| !(l.head?==some 48))&& decide (gZ l<=9223372036854775807)
def fw:List UInt8->Option (List UInt8×List UInt8)
 | []=>none
 | [c]=>if c=39 then some ([],[])else none
 | c::d::r=>if c=39 then(if d=39 then(fw r).map λ x=>(39::x.1,x.2)else some ([],d::r))else(fw (d::r)).map λ x=>(c::x.1,x.2)
def signs:List (List UInt8):=[[60,62],[60,61],[62,61],[40],[41],[44],[42],[43],[45],[47],[37],[61],[60],[62],[59]]
def gp:List (List UInt8)->List UInt8->Option (List UInt8)
 | [],_=>none
 | s::l,r=>if s.isPrefixOf r then some s else gp l r
structure Wd where
 k:Nat
 s:List UInt8
 n:Int
deriving DecidableEq
structure na where
 w:Wd
 p:Nat
deriving DecidableEq
def dG:List UInt8->Except Nat (Wd×List UInt8)
 | []=> .error 30
 | c::r=>
   if bH c then(if ((c::r).takeWhile cq).length<=32 then .ok (⟨1,((c::r).takeWhile cq).map kN,0⟩,(c::r).dropWhile cq)else .error 2)
   else if aL c then(if qD ((c::r).takeWhile aL)&& !(((c::r).dropWhile aL).head?.any bH)then .ok (⟨2,[],gZ ((c::r).takeWhile aL)⟩,(c::r).dropWhile aL)else .error 30)
   else if c=39 then(match fw r with
    | some (t,rest)=> .ok (⟨3,t,0⟩,rest)
    | none=> .error 30)
   else match gp signs (c::r)with
    | some s=> .ok (⟨4,s,0⟩,(c::r).drop s.length)
    | none=> .error 30
def oZ (n:Nat):Nat->List UInt8->Except (Nat×Nat) (List na)
 | 0,_=> .error (0,30)
 | f+1,r=>match bU false r with
   | []=> .ok [⟨⟨0,[],0⟩,n⟩]
   | c::r'=>match dG (c::r')with
     | .error e=> .error (n - (c::r').length,e)
     | .ok (w,rest)=>match oZ n f rest with
       | .error e=> .error e
       | .ok l=> .ok (⟨w,n - (c::r').length⟩::l)
def kO (s:List UInt8):Except (Nat×Nat) (List na):=if 4096 < s.length then .error (0,2)else oZ s.length (s.length+1) s
def kj:List (List UInt8):=[[97,110,100],[97,115],[98,121],[99,97,108,108],[99,114,101,97,116,101],[100,101,108,101,116,101],[100,101,115,99],[100,114,111,112],[102,97,108,115,101],[102,114,111,109],[103,114,111,117,112],[104,97,118,105,110,103],[105,110,115,101,114,116],[105,110,116,111],[105,115],[108,105,109,105,116],[110,111,116],[110,117,108,108],[111,110,108,121],[111,114],[111,114,100,101,114],[115,101,108,101,99,116],[115,101,116],[116,114,117,101],[117,112,100,97,116,101],[118,97,108,117,101,115],[119,104,101,114,101]]
def kP (s:List UInt8):Bool:=kj.contains s
def jd (s:List UInt8):Bool:=
 match s with
 | []=>false
 | c::r=>decide ((c::r).length<=32)&& !kP (c::r)&& !aL c &&(c::r).all (λ c=> !wF c && cq c)
theorem jC:∀(b:Bool) (r:List UInt8),(bU b r).length<=r.length
 | _,[]=>by simp[bU]
 | true,c::r=>by have h1:=jC false r;have h2:=jC true r;simp only[bU];split <;> simp only[length_cons] <;> omega
 | false,c::r=>by
   have h1:=jC false r;have h2:=jC true r;simp only[bU];split
   ·simp only[length_cons];omega
   ·split <;> simp only[length_cons] <;> omega
theorem tM:∀(r:List UInt8) (t rest:List UInt8),fw r=some (t,rest)->∃b,r=b++rest/\b≠ []
 | [],t,rest,h=>by simp[fw] at h
 | [c],t,rest,h=>by
   simp only[fw] at h;split at h
   ·rename_i hc;injection h with h;injection h with h1 h2;subst h1 h2 hc;exact⟨[39],rfl,by simp⟩
   ·cases h
 | c::d::r,t,rest,h=>by
   simp only[fw] at h;split at h
   ·rename_i hc;subst hc;split at h
    ·rename_i hd;subst hd;cases hr:fw r with
     | none=>rw[hr] at h;cases h
     | some x=>obtain⟨t',rest'⟩:=x;rw[hr] at h;simp only[Option.map_some,Option.some.injEq,Prod.mk.injEq] at h;obtain⟨rfl,rfl⟩:=h;obtain⟨b,hb,_⟩:=tM r t' _ hr;exact⟨39::39::b,by rw[hb];rfl,by simp⟩
    ·injection h with h;injection h with h1 h2;subst h1 h2;exact⟨[39],rfl,by simp⟩
   ·cases hr:fw (d::r)with
    | none=>rw[hr] at h;cases h
    | some x=>obtain⟨t',rest'⟩:=x;rw[hr] at h;simp only[Option.map_some,Option.some.injEq,Prod.mk.injEq] at h;obtain⟨rfl,rfl⟩:=h;obtain⟨b,hb,_⟩:=tM (d::r) t' _ hr;exact⟨c::b,by rw[hb];rfl,by simp⟩
theorem pU:∀ {l:List (List UInt8)} {r s:List UInt8},gp l r=some s->s∈l/\s <+: r
 | [],r,s,h=>by simp[gp] at h
 | x::l,r,s,h=>by
   simp only[gp] at h;split at h
   ·rename_i hp;injection h with h;subst h;exact⟨mem_cons_self,by simpa using hp⟩
   ·obtain⟨h1,h2⟩:=pU h;exact⟨mem_cons_of_mem _ h1,h2⟩
variable{r rest:List UInt8}
theorem Cz{w:Wd}(h:dG r=.ok (w,rest)):∃b,r=b++rest/\b≠ []:=by
 match r with
 | []=>simp[dG] at h
 | c::r=>
   simp only[dG] at h;split at h
   ·rename_i hc;split at h
    ·injection h with h;injection h with h1 h2;subst h1 h2;refine⟨_,(takeWhile_append_dropWhile (p:=cq)).symm,?_⟩;have:cq c=true:=by simp[cq,hc]
     simp[takeWhile_cons,this]
    ·cases h
   ·split at h
    ·rename_i hc;split at h
     ·injection h with h;injection h with h1 h2;subst h1 h2;refine⟨_,(takeWhile_append_dropWhile (p:=aL)).symm,?_⟩;simp[takeWhile_cons,hc]
     ·cases h
    ·split at h
     ·split at h
      ·rename_i t rest' ht;injection h with h;injection h with h1 h2;subst h1 h2;obtain⟨b,hb,_⟩:=tM _ _ _ ht;exact⟨c::b,by rw[hb];rfl,by simp⟩
      ·cases h
     ·split at h
      ·rename_i s hs;injection h with h;injection h with h1 h2;subst h1 h2;obtain⟨h1,t,h2⟩:=pU hs;refine⟨s,?_,?_⟩
       ·rw[<- h2];simp
       ·intro e;subst e;revert h1;decide
      ·cases h
theorem rR{w:Wd}(h:dG r=.ok (w,rest)):rest.length < r.length:=by obtain⟨b,rfl,hb⟩:=Cz h;have:0 < b.length:=List.length_pos_iff.2 hb;simp;omega
theorem FV (n:Nat):∀(f g:Nat) (r:List UInt8),r.length < f->r.length < g->oZ n f r=oZ n g r
 | 0,_,_,h,_=>by omega
 | _,0,_,_,h=>by omega
 | f+1,g+1,r,hf,hg=>by
   have hs:=jC false r;simp only[oZ];cases hk:bU false r with
   | nil=>rfl
   | cons c r'=>
     rw[hk] at hs;simp only;cases ho:dG (c::r')with
     | error e=>rfl
     | ok x=>obtain⟨w,rest⟩:=x;have:=rR ho;simp only;rw[FV n f g rest Taa Taa]
def eA (p:UInt8->Bool)(l:List UInt8)(k:Nat):Nat:=k+((l.drop k).takeWhile p).length
theorem pV (p:UInt8->Bool)(l:List UInt8)(k:Nat)(hk:k<=l.length):eA p l k<=l.length:=by have:=(takeWhile_sublist (p:=p) (l:=l.drop k)).length_le;simp only[length_drop] at this;unfold eA;omega
theorem rS (p:UInt8->Bool)(l:List UInt8)(k:Nat):k<=eA p l k:=by unfold eA;omega
theorem byte_at (s:ByteArray)(k:Nat)(hk:k < s.size):s.data.toList[k]?=some s[k]:=by rw[getElem?_eq_getElem TaC];simp[ByteArray.getElem_eq_getElem_data]
variable{l:List UInt8}{c:UInt8}
theorem drop_at{k:Nat} (h:l[k]?=some c):l.drop k=c::l.drop (k+1):=by
 have hk:k < l.length:=by
  rcases Nat.lt_or_ge k l.length with h' | h'
  ·exact h'
  ·exact ZgF
 rw[drop_eq_getElem_cons hk];rw[getElem?_eq_getElem hk] at h;injection h with h;rw[h]
theorem qR{p:UInt8->Bool}  {k:Nat} (h:l[k]?=some c)(hp:p c=true):eA p l k=eA p l (k+1):=by unfold eA;rw[drop_at h,takeWhile_cons,if_pos hp,length_cons];omega
theorem BP{p:UInt8->Bool}  {k:Nat} (h:l[k]?=some c)(hp:p c=false):eA p l k=k:=by unfold eA;rw[drop_at h,takeWhile_cons,if_neg (by rw[hp];decide)];rfl
theorem xD{p:UInt8->Bool}  {k:Nat}(h:l.length<=k):eA p l k=k:=by unfold eA;rw[drop_eq_nil_of_le h];rfl
theorem QO (p:UInt8->Bool):∀r:List UInt8,r.drop (r.takeWhile p).length=r.dropWhile p
 | []=>rfl
 | c::r=>by
   rw[takeWhile_cons,dropWhile_cons];split
   ·simpa using QO p r
   ·rfl
theorem Z4 (p:UInt8->Bool)(r:List UInt8):r.take (r.takeWhile p).length=r.takeWhile p:=by
 induction r with
 | nil=>rfl
 | cons c r ih=>
   rw[takeWhile_cons];split
   ·simpa using ih
   ·rfl
theorem nw (p:UInt8->Bool)(l:List UInt8)(k:Nat):l.drop (eA p l k)=(l.drop k).dropWhile p:=by unfold eA;rw[<- drop_drop,QO]
theorem KH (p:UInt8->Bool)(l:List UInt8)(k:Nat):(l.drop k).take (eA p l k - k)=(l.drop k).takeWhile p:=by unfold eA;rw[Nat.add_sub_cancel_left,Z4]
theorem wG:∀r:List UInt8,bU false r=bU false (r.dropWhile cZ)
 | []=>rfl
 | c::r=>by
   rw[dropWhile_cons];split
   ·rename_i h;rw[bU,if_pos h];exact wG r
   ·rfl
theorem xE:∀r:List UInt8,bU true r=bU false (r.dropWhile λ c=> !(c==10))
 | []=>rfl
 | c::r=>by
   rw[dropWhile_cons];by_cases h:c=10
   ·subst h;simp only[bU,beq_self_eq_true,Bool.not_true,Bool.false_eq_true,if_false];simp[cZ]
   ·have h2:(!(c==10))=true:=by simp[h]
    rw[if_pos h2,bU,if_neg h];exact xE r
theorem Xz(h:Lib.hasPrefix r [45,45]=true):bU false r=bU false (r.dropWhile λ c=> !(c==10)):=by
 rw[<- xE]
 match r with
 | []=>simp[Lib.hasPrefix] at h
 | [c]=>simp[Lib.hasPrefix,List.isPrefixOf] at h
 | c::d::r=>simp[Lib.hasPrefix,List.isPrefixOf] at h;obtain⟨rfl,rfl⟩:=h;simp[bU,cZ]
theorem Tf(h:Lib.hasPrefix (r.dropWhile cZ) [45,45]=false):bU false r=r.dropWhile cZ:=by
 rw[wG];generalize hr:r.dropWhile cZ=q at*
 match q with
 | []=>rfl
 | c::q=>
   have hb:cZ c=false:=by have:=head?_dropWhile_not cZ r;rw[hr] at this;simpa using this
   rw[bU,hb,if_neg Tab];rw[if_neg];rintro⟨rfl,h2⟩
   cases q with
   | nil=>simp at h2
   | cons d q=>simp at h2;subst h2;simp[Lib.hasPrefix,List.isPrefixOf] at h
theorem nz:∀(b:Bool) (r:List UInt8),bU b r <:+ r
 | _,[]=>by simp[bU]
 | true,c::r=>by
   simp only[bU];split
   ·exact(nz false r).trans (suffix_cons _ _)
   ·exact(nz true r).trans (suffix_cons _ _)
 | false,c::r=>by
   simp only[bU];split
   ·exact(nz false r).trans (suffix_cons _ _)
   ·split
    ·exact(nz true r).trans (suffix_cons _ _)
    ·exact suffix_refl _
theorem drop_suffix(h:r <:+ l):l.drop (l.length - r.length)=r:=by obtain⟨p,rfl⟩:=h;simp
theorem KI (l:List UInt8)(c:UInt8):gZ (l++ [c])=gZ l*10+(c.toNat - 48):=by simp[gZ]
theorem KJ (l:List UInt8):∀v,v<=l.foldl (λ v c=>v*10+(c.toNat - 48)) v:=by
 induction l with
 | nil=>intro v;exact Nat.le_refl _
 | cons c l ih=>intro v;have:=ih (v*10+(c.toNat - 48));simp only[foldl_cons];omega
theorem AE:∀(l:List UInt8) (v:Nat),(∀c∈l,aL c=true)->v<=18446744073709551615->
  Lib.parseUintM 18446744073709551615 v l=if l.foldl (λ v c=>v*10+(c.toNat - 48)) v<=18446744073709551615 then .ok (l.foldl (λ v c=>v*10+(c.toNat - 48)) v)else .range
 | [],v,_,hv=>by simp[Lib.parseUintM,hv]
 | c::l,v,hd,hv=>by
   have hc:48<=c.toNat/\c.toNat<=57:=by have:=hd c mem_cons_self;simpa [aL,UInt8.le_iff_toNat_le] using this
   have hm:=KJ l (v*10+(c.toNat - 48));rw[Lib.parseUintM,if_pos hc,foldl_cons];by_cases h1:1844674407370955162<=v
   ·rw[if_pos h1,if_neg Taa]
   ·rw[if_neg h1];by_cases h2:18446744073709551615 < v*10+(c.toNat - 48)
    ·rw[if_pos h2,if_neg Taa]
    ·rw[if_neg h2];exact AE l _ (λ c h=>hd c (mem_cons_of_mem _ h)) Taa
theorem CA(hne:l≠ [])(hd:∀c∈l,aL c=true):Lib.parseIntB 64 l=if gZ l<=9223372036854775807 then .ok (gZ l:Int)else .range:=by
 match l with
 | []=>exact absurd rfl hne
 | c::r=>
   have hc:48<=c.toNat/\c.toNat<=57:=by have:=hd c mem_cons_self;simpa [aL,UInt8.le_iff_toNat_le] using this
   have hu:=AE (c::r) 0 hd Taa;change _=if gZ (c::r)<=_ then Lib.NumEnd.ok (gZ (c::r))else _ at hu;have e1:¬(c.toNat=43\/c.toNat=45):=by omega
   have e2:¬c.toNat=45:=by omega
   have e3:¬c.toNat=43:=by omega
   simp only[Lib.parseIntB,e2,e3,or_false,if_false,Lib.parseUintB,if_neg hne];rw[show 2 ^ 64 - 1=18446744073709551615 from rfl,hu];by_cases h1:gZ (c::r)<=18446744073709551615
   ·rw[if_pos h1];simp only[show 2 ^(64 - 1)=9223372036854775808 from rfl];by_cases h2:gZ (c::r)<=9223372036854775807
    ·rw[if_pos h2,if_neg Taa,if_neg Tad]
    ·rw[if_neg h2,if_pos Tae]
   ·rw[if_neg h1,if_neg Taa]
theorem NQ(h:cq c=true):c.toNat < 128:=by simp[cq,bH,aL,UInt8.le_iff_toNat_le,<- UInt8.toNat_inj] at h;omega
theorem BQ{p:UInt8->Bool}(l:List UInt8):∀c∈l.takeWhile p,p c=true:=λ c hc=>List.all_eq_true.1 (all_takeWhile (p:=p) (l:=l)) c hc
open Go.ChangeShapes Go.WideShapes Go.ChangeAt Go.RowKit Go.Shelf
def Iu (f:FuncId)(p:UInt8->Bool):Prop:=∀(c:UInt8) (W:World),Calls Tryz.prog f #[.int .u8 (c.toNat:Int)] W λ e w'=>e=.returned (.bool (p c))/\W=w'
variable{a b:Bool}
theorem dv(h:a=b):Ending.returned (.bool a)=.returned (.bool b):=by rw[h]
theorem kJ{k:IntKind} {a b:Int}(h:a=b):Ending.returned (.int k a)=.returned (.int k b):=by rw[h]
theorem CB (c:UInt8):bH c=((decide ((97:Int)<=c.toNat)&& decide ((c.toNat:Int)<=122))||(decide ((65:Int)<=c.toNat)&& decide ((c.toNat:Int)<=90))||((c.toNat:Int)==95)):=by rw[Bool.eq_iff_iff];simp only[bH,UInt8.le_iff_toNat_le,<- UInt8.toNat_inj,Bool.or_eq_true,Bool.and_eq_true,decide_eq_true_eq,beq_iff_eq];simp;omega
theorem FW (c:UInt8):aL c=(decide ((48:Int)<=c.toNat)&& decide ((c.toNat:Int)<=57)):=by rw[Bool.eq_iff_iff];simp only[aL,UInt8.le_iff_toNat_le,Bool.and_eq_true,decide_eq_true_eq];simp;omega
theorem rT:Iu 103 bH:=by intro c W;rw[CB];have h1:=c.toNat_lt;generalize c.toNat=n at*;go_enter Tryz.func103,Tryz.ntmps103;exact ZaW
theorem oI:Iu 105 aL:=by intro c W;rw[FW];have h1:=c.toNat_lt;generalize c.toNat=n at*;go_enter Tryz.func105,Tryz.ntmps105;exact ZaW
theorem NR (c:UInt8)(k:UInt8):(c==k)=((c.toNat:Int)==(k.toNat:Int)):=by rw[Bool.eq_iff_iff];simp[<- UInt8.toNat_inj];omega
theorem uY (c:UInt8):cZ c=(((c.toNat:Int)==32)||((c.toNat:Int)==9)||((c.toNat:Int)==10)||((c.toNat:Int)==13)):=by simp only[cZ,NR];rfl
theorem Tg:Iu 100 cZ:=by intro c W;rw[uY];generalize c.toNat=n at*;go_enter Tryz.func100,Tryz.ntmps100;exact ZaW
theorem Th:Iu 102 (λ c=> !(c==10)):=by intro c W;simp only[NR];generalize c.toNat=n at*;go_enter Tryz.func102,Tryz.ntmps102;exact ZaW
theorem Ti:Iu 107 (λ c=>c==39):=by intro c W;simp only[NR];generalize c.toNat=n at*;go_enter Tryz.func107,Tryz.ntmps107;exact ZaW
theorem Tj:Iu 144 cq:=by
 intro c W;unfold cq;cases h:bH c
 ·exact ZcL
 ·exact ZcL
def tq (s:ByteArray)(at_:Nat):Array Value:= #[.string s,.int .i64 at_]
variable{g:Nat}{t:TypeId}
theorem dh{w:World}   {s:ByteArray} {a:Nat}(h:av w g t (tq s a)):w.cell? ⟨g,0,none⟩=some (.string s)/\w.cell? ⟨g,1,none⟩=some (.int .i64 a):=⟨h.cell 0,h.cell 1⟩
structure KL (f:FuncId) (p:UInt8->Bool):Prop where
 enter:∀args w,(callFunc f args).run Tryz.prog w=.ok (.enter f args) w
 says:Iu f p
theorem ly:KL 103 bH:=⟨enters_of Tryz.func103 Tac rfl,rT⟩
theorem wH:KL 105 aL:=⟨enters_of Tryz.func105 Tac rfl,oI⟩
theorem NS:KL 100 cZ:=⟨enters_of Tryz.func100 Tac rfl,Tg⟩
theorem Tk:KL 102 (λ c=> !(c==10)):=⟨enters_of Tryz.func102 Tac rfl,Th⟩
theorem CC:KL 107 (λ c=>c==39):=⟨enters_of Tryz.func107 Tac rfl,Ti⟩
theorem FX:KL 144 cq:=⟨enters_of Tryz.func144 Tac rfl,Tj⟩
variable{f:FuncId}
theorem oh{p:UInt8->Bool}(hf:KL f p)(s:ByteArray)(at_ k:Nat)(g:Nat)(w:World)(hL:av w g 118 (tq s at_))(hk:k<=s.size)(hs:s.size<=4294967280):
  Calls Tryz.prog 99 #[.pointer (some ⟨g,0,none⟩),.int .i64 k,.func (.func f) #[] #[]] w λ e w'=>e=.returned (.int .i64 (eA p s.data.toList k))/\w=w':=by
 obtain⟨c0,c1⟩:=dh hL;have hlen:s.data.toList.length=s.size:=by simp
 have HL:=hid hlen;clear hlen;have ef:=hf.enter;go_enter Tryz.func99,Tryz.ntmps99;go_wp2_with fail;go_loop [1] (λ u=>∃j:Nat,j<=s.size/\u=.int .i64 j/\eA p s.data.toList k=eA p s.data.toList j) (λ u=>s.size - (intOf u).toNat);case atStart=>exact⟨k,hk,rfl,rfl⟩
 case round=>
  obtain⟨j,hj,rfl,XA⟩:=hrel;have HF:=hid XA;clear XA;by_cases hlt:j < s.size
  ·have HB:=hid (byte_at s j hlt);cases hpp:p s[j]
   ·have HP:=hid hpp;clear hpp;go_wp2_with (go_at_fn f;refine(hf.says s[j] _).mono ?_;rintro e w' ⟨rfl,rfl⟩;rw[HP.out]);go_ret;exact⟨kJ (by rw[HF.out,BP HB.out HP.out]),rfl⟩
   ·have HP:=hid hpp;clear hpp;go_wp2_with (go_at_fn f;refine(hf.says s[j] _).mono ?_;rintro e w' ⟨rfl,rfl⟩;rw[HP.out]);go_round;case rel=>exact⟨j+1,hlt,by go_num,by rw[HF.out,qR HB.out HP.out]⟩
    case measure=>exact Zcs
  ·go_wp2_with fail;go_ret;exact⟨kJ (by rw[HF.out,xD TaS]),rfl⟩
def Sep (x:List UInt8):Prop:=x=[]\/∃c r,x=c::r/\cZ c=true
theorem uz(h:cZ c=true):c=32\/c=9\/c=10\/c=13:=by
 simp only[cZ,Bool.or_eq_true,beq_iff_eq] at h;rcases h with ((h | h)| h)| h <;> simp[h]
variable{x:List UInt8}
theorem Hf{p:UInt8->Bool} {b:List UInt8}(hb:∀c∈b,p c=true)(hx:x.head?.any p=false):(b++x).takeWhile p=b/\(b++x).dropWhile p=x:=by
 rw[takeWhile_append_of_pos hb,dropWhile_append_of_pos hb]
 cases x with
 | nil=>simp
 | cons d x=>
   have:p d=false:=by simpa using hx
   simp[takeWhile_cons,dropWhile_cons,this]
theorem ahs (p:UInt8->Bool)(l:List UInt8):∀c∈l.takeWhile p,p c=true:=λ c hc=>by have:=all_takeWhile (p:=p) (l:=l);exact List.all_eq_true.1 this c hc
theorem K8{s:List UInt8}(hs:s∈signs) (hx:Sep x):gp signs (s++x)=some s:=by
 simp only[signs,mem_cons,not_mem_nil,or_false] at hs;rcases hx with rfl |⟨c,r,rfl,hc⟩
 ·rcases hs with rfl | rfl | rfl | rfl | rfl | rfl | rfl | rfl | rfl | rfl | rfl | rfl | rfl | rfl | rfl <;> rfl
 ·rcases hs with rfl | rfl | rfl | rfl | rfl | rfl | rfl | rfl | rfl | rfl | rfl | rfl | rfl | rfl | rfl <;> rcases uz hc with rfl | rfl | rfl | rfl <;> rfl
theorem K9{s:List UInt8}(hs:s∈signs):(∃c,s=[c])\/∃c d,s=[c,d]:=by
 simp only[signs,mem_cons,not_mem_nil,or_false] at hs;rcases hs with rfl | rfl | rfl | rfl | rfl | rfl | rfl | rfl | rfl | rfl | rfl | rfl | rfl | rfl | rfl <;> first | exact .inl ⟨_,rfl⟩| exact .inr ⟨_,_,rfl⟩
inductive VL:List UInt8->List (Wd×Nat)->List UInt8->Prop
 | stop (r:List UInt8):VL r [] (bU false r)
 | step {r r1 rest q:List UInt8} {c:UInt8} {w:Wd} {ws:List (Wd×Nat)} (hs:bU false r=c::r1) (ho:dG (c::r1)=.ok (w,rest)) (h:VL rest ws q):VL r ((w,(c::r1).length)::ws) q
def L0 (n:Nat)(x:Wd×Nat):na:=⟨x.1,n - x.2⟩
def Qq (n:Nat):na:=⟨⟨0,[],0⟩,n⟩
variable{q:List UInt8}{ws:List (Wd×Nat)}
theorem L1{n:Nat}  (h:VL r ws q):∀ {f:Nat},r.length < f->q=[]->oZ n f r=.ok (ws.map (L0 n)++ [Qq n]):=by
 induction h with
 | stop r=>
   intro f hf hq
   cases f with
   | zero=>omega
   | succ f=>simp only[oZ,hq];rfl
 | @step r r1 rest q c w ws hs ho h ih=>
   intro f hf hq
   cases f with
   | zero=>omega
   | succ f=>have hle:=jC false r;rw[hs] at hle;have:=rR ho;simp only[oZ,hs,ho,ih (f:=f) Taa hq];rfl
theorem VL.start{t:List UInt8} (h:VL t ws q)(e:bU false r=bU false t):VL r ws q:=by
 cases h with
 | stop r'=>rw[<- e];exact .stop r
 | step hs ho h=>exact .step (e.trans hs) ho h
theorem Qr{s:List UInt8}(h:s.length<=4096):kO s=oZ s.length (s.length+1) s:=by unfold kO;rw[if_neg Taa]
theorem aca{s:List UInt8} (hl:s.length<=4096)(h:VL s ws q)(hq:q=[]):kO s=.ok (ws.map (L0 s.length)++ [Qq s.length]):=by rw[Qr hl];exact L1 h Taa hq
theorem JT(h:bH c=true):aL c=false:=by
 cases hd:aL c
 ·rfl
 ·simp[bH,aL,UInt8.le_iff_toNat_le,<- UInt8.toNat_inj] at h hd;omega
theorem JU(h:bH c=true):bU false (c::r)=c::r:=by
 have h1:¬cZ c=true:=by intro hb;rcases uz hb with rfl | rfl | rfl | rfl <;> revert h <;> decide
 have h2:¬(c=45/\r.head?=some 45):=by rintro⟨rfl,_⟩;revert h;decide
 rw[bU,if_neg h1,if_neg h2]
theorem rU:(Tryz.prog.info? 61).map (·.size)=some 2:=by kernel_rfl
theorem IA:liesAt Tryz.prog Tryz.prog.depth 61 (2 / Tryz.prog.cellsOf 61) 0 61 1=true:=by kernel_rfl
theorem Gb:(Tryz.prog.info? 5).map (λ i=>(i.zero,i.size,i.bytes))=some (some (.int .u8 0),1,1):=by kernel_rfl
theorem CG (b:Nat)(w:World)(h0:w.cell? ⟨b,0,none⟩=some (.pointer (some ⟨b,0,none⟩))):
  Calls Tryz.prog 138 #[.pointer (some ⟨b,0,none⟩)] w λ e w'=>e=.returned (.tuple #[])/\w=w':=by obtain⟨j,hj,_⟩:=Option.map_eq_some_iff.1 rU;go_enter Tryz.func138,Tryz.ntmps138;go_wp2_with fail;rw[Lib.run_neq_ptr_same w _ Tryz.underlying58 hj];go_wp2_with fail;go_end0;exact⟨rfl,rfl⟩
theorem zfD.KbD(h:p:=by rw[Lib.run_from_unsafe w ⟨b,0,none⟩ Tryz.underlying184 Tryz.underlying58 hj Tm IA];exact ZfX):p:=h
theorem KS (b:Nat)(w:World)(h0:w.cell? ⟨b,0,none⟩=some (.pointer none))(Tm:w.shape? b=some (61,2))(hfz:w.frozen? ⟨b,0,none⟩=false):
  Calls Tryz.prog 138 #[.pointer (some ⟨b,0,none⟩)] w λ e w'=>e=.returned (.tuple #[])/\w'=w.setCell ⟨b,0,none⟩ (.pointer (some ⟨b,0,none⟩)):=by obtain⟨j,hj,XD⟩:=Option.map_eq_some_iff.1 rU;go_enter Tryz.func138,Tryz.ntmps138;go_wp2_with fail;rw[Lib.run_to_unsafe w ⟨b,0,none⟩ Tryz.underlying58 Tryz.underlying184 hj (by rw[XD];decide) Tm (Nat.zero_lt_succ 1)];open zfD in exact Zdi
def KT (B b:Nat)(l:List UInt8)(w:World):Prop:=Lib.IsBuilder 61 5 B b (Lib.byteCells l) w
theorem Tn (B b:Nat)(bs:List Value)(w:World)(h:Lib.IsBuilder 61 5 B b bs w):
  Calls Tryz.prog 138 #[.pointer (some ⟨b,0,none⟩)] w λ e w'=>e=.returned (.tuple #[])/\Lib.BuilderAt 61 5 B b (.pointer (some ⟨b,0,none⟩)) bs w'/\Below B w w':=by
 rcases h with h | h
 ·refine(KS b w h.cell0 h.shape h.frozen0).mono ?_;rintro e w' ⟨rfl,rfl⟩;exact⟨rfl,h.used _,(Below.refl B w).setCell (p:=⟨b,0,none⟩) h.1 _⟩
 ·refine(CG b w h.cell0).mono ?_;rintro e w' ⟨rfl,rfl⟩;exact⟨rfl,h,Below.refl B _⟩
theorem zgE.Kb2(h:p:=by
 obtain⟨g,cap,rfl⟩:∃g cap,v'=.slice (some ⟨g,0,none⟩) (bs.length+1) cap:=by
  rcases hown'.2 with ⟨_,h0⟩|⟨g,cap,cur,hv,_⟩
  ·omega
  ·exact⟨g,cap,hv⟩
 go_wp2_with fail;go_ret;refine⟨rfl,?_,?_⟩
 ·exact Lib.BuilderAt.put (T:=61) (e:=5) hB hb2 (bs':=bs++ [.int .u8 c]) (by simpa using hown') Tab
 ·exact((hb1.alloc (by have:=hb1.size;omega) _).grown hgrow (by have:=hb1.size;simp;omega) (λ k hk=>(hown.lt k hk).1)).setCell (p:=⟨b,1,none⟩) hB _):p:=h
theorem zhY.KcE(h:p:=by
 go_wp2_with (at_builtin;refine wpList_append_own _ rfl _ _ 59 rfl B 5 i0 (.int .u8 0) 1 1 Tryz.underlying59 hi hz0 hz1 hz2 rfl Tab _ _ _ rfl (hown.alloc _) ⟨w1.heap.size,0,none⟩ 1 1 [.int .u8 c] rfl rfl ?c1 ?c2 ?c3 ?c4 ?c5 ?_)
 case c1=>
  intro j u hj
  match j,hj with
  | 0,hj=>simp at hj;subst hj;simp[Addr.add]
 case c2=>intro u hu;simp at hu;subst hu;rfl
 case c3=>unfold maxLen;omega
 case c4=>omega
 case c5=>have:=hb1.size;simp;omega
 intro v' w2 hown' hgrow _
 have hlt:b < w1.heap.size:=by
  rcases Nat.lt_or_ge b w1.heap.size with h' | h'
  ·exact h'
  ·simp[Array.getElem?_eq_none h'] at xG
 have hb2:w2.heap[b]?=some (.cells #[.pointer (some ⟨b,0,none⟩),v] 61 (0,0)):=by rw[hgrow.block b Tae (λ e=>hne e.symm),Lib.alloc_old w1 _ b hlt];exact xG
 open zgE in exact Zem):p:=h
theorem Tp (B b:Nat)(bs:List Value)(c:Int)(w:World)(h:Lib.IsBuilder 61 5 B b bs w)(hlen:bs.length+1<=140737488355328)(Bu:B<=w.heap.size):
  Calls Tryz.prog 148 #[.pointer (some ⟨b,0,none⟩),.int .u8 c] w λ e w'=>e=.returned .nilIface/\Lib.BuilderAt 61 5 B b (.pointer (some ⟨b,0,none⟩)) (bs++ [.int .u8 c]) w'/\Below B w w':=by obtain⟨i0,hi,hz0,hz1,hz2⟩:=info_parts Gb;go_enter Tryz.func148,Tryz.ntmps148;go_wp2_with fail;refine(Tn B b bs _ h).mono ?_;rintro e w1 ⟨rfl,h1,hb1⟩;obtain⟨hB,v,xG,hown,hne⟩:=h1;open zhY in exact Zgz
theorem CH (B b:Nat)(l:List UInt8)(c:UInt8)(w:World)(h:KT B b l w)(hlen:l.length+1<=140737488355328)(Bu:B<=w.heap.size):
  Calls Tryz.prog 148 #[.pointer (some ⟨b,0,none⟩),.int .u8 (c.toNat:Int)] w λ e w'=>e=.returned .nilIface/\KT B b (l++ [c]) w'/\Below B w w':=by
 refine(Tp B b (Lib.byteCells l) c.toNat w h (by rw[Lib.byteCells_length];exact hlen) Bu).mono ?_;rintro e w' ⟨he,h1,h2⟩;refine⟨he,.inr ?_,h2⟩;have:Lib.byteCells (l++ [c])=Lib.byteCells l++ [.int .u8 (c.toNat:Int)]:=by simp[Lib.byteCells]
 rw[this];exact h1
end Go.Proofs.YtehhdlgjfdnafaaGreatDoor
