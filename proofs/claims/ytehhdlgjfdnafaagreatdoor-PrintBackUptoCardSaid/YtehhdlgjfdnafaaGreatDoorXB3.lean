/- Parts of the proof. -/
import Derived.Test.YtehhdlgjfdnafaaGreatDoorXB2
namespace Go.Proofs.YtehhdlgjfdnafaaGreatDoor
open List
variable{p:Prop}
set_option maxHeartbeats 90000000
set_option maxRecDepth 100000
open Go.Lib (hid)
set_option linter.unusedSimpArgs false
set_option linter.unusedVariables false
def bJ (c:UInt8):Bool:=(decide (97<=c)&& decide (c<=122))||(decide (65<=c)&& decide (c<=90))|| c==95
def aL (c:UInt8):Bool:=decide (48<=c)&& decide (c<=57)
def cx (c:UInt8):Bool:=bJ c || aL c
def cO (c:UInt8):Bool:=c==32 || c==9 || c==10 || c==13
def yO (c:UInt8):Bool:=decide (65<=c)&& decide (c<=90)
def oU (c:UInt8):UInt8:=if yO c then c+32 else c
def bM:Bool->List UInt8->List UInt8
 | _,[]=> []
 | true,c::r=>if c=10 then bM false r else bM true r
 | false,c::r=>if cO c then bM false r else if c=45/\r.head?=some 45 then bM true r else c::r
def gO (l:List UInt8):Nat:=l.foldl (λ v c=>v*10+(c.toNat - 48)) 0
def pQ (l:List UInt8):Bool:=(decide (l.length<=1)|| !(l.head?==some 48))&& decide (gO l<=9223372036854775807)
def gu:List UInt8->Option (List UInt8×List UInt8)
 | []=>none
 | [c]=>if c=39 then some ([],[])else none
 | c::d::r=>if c=39 then(if d=39 then(gu r).map λ x=>(39::x.1,x.2)else some ([],d::r))else(gu (d::r)).map λ x=>(c::x.1,x.2)
def signs:List (List UInt8):=[[60,62],[60,61],[62,61],[40],[41],[44],[42],[43],[45],[47],[37],[61],[60],[62],[59]]
def gV:List (List UInt8)->List UInt8->Option (List UInt8)
 | [],_=>none
 | s::l,r=>if s.isPrefixOf r then some s else gV l r
structure Wd where
 k:Nat
 s:List UInt8
 n:Int
deriving DecidableEq
structure np where
 w:Wd
 p:Nat
deriving DecidableEq
def dH:List UInt8->Except Nat (Wd×List UInt8)
 | []=> .error 30
 | c::r=>
   if bJ c then(if ((c::r).takeWhile cx).length<=32 then .ok (⟨1,((c::r).takeWhile cx).map oU,0⟩,(c::r).dropWhile cx)else .error 2)
   else if aL c then(if pQ ((c::r).takeWhile aL)&& !(((c::r).dropWhile aL).head?.any bJ)then .ok (⟨2,[],gO ((c::r).takeWhile aL)⟩,(c::r).dropWhile aL)else .error 30)
   else if c=39 then(match gu r with
    | some (t,rest)=> .ok (⟨3,t,0⟩,rest)
    | none=> .error 30)
   else match gV signs (c::r)with
    | some s=> .ok (⟨4,s,0⟩,(c::r).drop s.length)
    | none=> .error 30
def rf (n:Nat):Nat->List UInt8->Except (Nat×Nat) (List np)
 | 0,_=> .error (0,30)
 | f+1,r=>match bM false r with
   | []=> .ok [⟨⟨0,[],0⟩,n⟩]
   | c::r'=>match dH (c::r')with
     | .error e=> .error (n - (c::r').length,e)
     | .ok (w,rest)=>match rf n f rest with
       | .error e=> .error e
       | .ok l=> .ok (⟨w,n - (c::r').length⟩::l)
def lY (s:List UInt8):Except (Nat×Nat) (List np):=if 4096 < s.length then .error (0,2)else rf s.length (s.length+1) s
def jN:List (List UInt8):=[[97,110,100],[97,115],[98,121],[99,97,108,108],[99,114,101,97,116,101],[100,101,108,101,116,101],[100,101,115,99],[100,114,111,112],[102,97,108,115,101],[102,114,111,109],[103,114,111,117,112],[104,97,118,105,110,103],[105,110,115,101,114,116],[105,110,116,111],[105,115],[108,105,109,105,116],[110,111,116],[110,117,108,108],[111,110,108,121],[111,114],[111,114,100,101,114],[115,101,108,101,99,116],[115,101,116],[116,114,117,101],[117,112,100,97,116,101],[118,97,108,117,101,115],[119,104,101,114,101]]
def kO (s:List UInt8):Bool:=jN.contains s
def pR (s:List UInt8):Bool:=
 match s with
 | []=>false
 | c::r=>decide ((c::r).length<=32)&& !kO (c::r)&& !aL c &&(c::r).all (λ c=> !yO c && cx c)
theorem jY:∀(b:Bool) (r:List UInt8),(bM b r).length<=r.length
 | _,[]=>by simp[bM]
 | true,c::r=>by have h1:=jY false r;have h2:=jY true r;simp only[bM];split <;> simp only[length_cons] <;> omega
 | false,c::r=>by
   have h1:=jY false r;have h2:=jY true r;simp only[bM];split
   ·simp only[length_cons];omega
   ·split <;> simp only[length_cons] <;> omega
theorem sO:∀(r:List UInt8) (t rest:List UInt8),gu r=some (t,rest)->∃b,r=b++rest/\b≠ []
 | [],t,rest,h=>by simp[gu] at h
 | [c],t,rest,h=>by
   simp only[gu] at h;split at h
   ·rename_i hc;injection h with h;injection h with h1 h2;subst h1 h2 hc;exact⟨[39],rfl,by simp⟩
   ·cases h
 | c::d::r,t,rest,h=>by
   simp only[gu] at h;split at h
   ·rename_i hc;subst hc;split at h
    ·rename_i hd;subst hd;cases hr:gu r with
     | none=>rw[hr] at h;cases h
     | some x=>obtain⟨t',rest'⟩:=x;rw[hr] at h;simp only[Option.map_some,Option.some.injEq,Prod.mk.injEq] at h;obtain⟨rfl,rfl⟩:=h;obtain⟨b,hb,_⟩:=sO r t' _ hr;exact⟨39::39::b,by rw[hb];rfl,by simp⟩
    ·injection h with h;injection h with h1 h2;subst h1 h2;exact⟨[39],rfl,by simp⟩
   ·cases hr:gu (d::r)with
    | none=>rw[hr] at h;cases h
    | some x=>obtain⟨t',rest'⟩:=x;rw[hr] at h;simp only[Option.map_some,Option.some.injEq,Prod.mk.injEq] at h;obtain⟨rfl,rfl⟩:=h;obtain⟨b,hb,_⟩:=sO (d::r) t' _ hr;exact⟨c::b,by rw[hb];rfl,by simp⟩
theorem sP:∀ {l:List (List UInt8)} {r s:List UInt8},gV l r=some s->s∈l/\s <+: r
 | [],r,s,h=>by simp[gV] at h
 | x::l,r,s,h=>by
   simp only[gV] at h;split at h
   ·rename_i hp;injection h with h;subst h;exact⟨mem_cons_self,by simpa using hp⟩
   ·obtain⟨h1,h2⟩:=sP h;exact⟨mem_cons_of_mem _ h1,h2⟩
variable{r rest:List UInt8}
theorem BM{w:Wd}(h:dH r=.ok (w,rest)):∃b,r=b++rest/\b≠ []:=by
 match r with
 | []=>simp[dH] at h
 | c::r=>
   simp only[dH] at h;split at h
   ·rename_i hc;split at h
    ·injection h with h;injection h with h1 h2;subst h1 h2;refine⟨_,(takeWhile_append_dropWhile (p:=cx)).symm,?_⟩;have:cx c=true:=by simp[cx,hc]
     simp[takeWhile_cons,this]
    ·cases h
   ·split at h
    ·rename_i hc;split at h
     ·injection h with h;injection h with h1 h2;subst h1 h2;refine⟨_,(takeWhile_append_dropWhile (p:=aL)).symm,?_⟩;simp[takeWhile_cons,hc]
     ·cases h
    ·split at h
     ·split at h
      ·rename_i t rest' ht;injection h with h;injection h with h1 h2;subst h1 h2;obtain⟨b,hb,_⟩:=sO _ _ _ ht;exact⟨c::b,by rw[hb];rfl,by simp⟩
      ·cases h
     ·split at h
      ·rename_i s hs;injection h with h;injection h with h1 h2;subst h1 h2;obtain⟨h1,t,h2⟩:=sP hs;refine⟨s,?_,?_⟩
       ·rw[<- h2];simp
       ·intro e;subst e;revert h1;decide
      ·cases h
theorem uv{w:Wd}(h:dH r=.ok (w,rest)):rest.length < r.length:=by obtain⟨b,rfl,hb⟩:=BM h;have:0 < b.length:=List.length_pos_iff.2 hb;simp;omega
theorem Fe (n:Nat):∀(f g:Nat) (r:List UInt8),r.length < f->r.length < g->rf n f r=rf n g r
 | 0,_,_,h,_=>by omega
 | _,0,_,_,h=>by omega
 | f+1,g+1,r,hf,hg=>by
   have hs:=jY false r;simp only[rf];cases hk:bM false r with
   | nil=>rfl
   | cons c r'=>
     rw[hk] at hs;simp only;cases ho:dH (c::r')with
     | error e=>rfl
     | ok x=>obtain⟨w,rest⟩:=x;have:=uv ho;simp only;rw[Fe n f g rest Taa Taa]
def ee (p:UInt8->Bool)(l:List UInt8)(k:Nat):Nat:=k+((l.drop k).takeWhile p).length
theorem oZ (p:UInt8->Bool)(l:List UInt8)(k:Nat)(hk:k<=l.length):ee p l k<=l.length:=by have:=(takeWhile_sublist (p:=p) (l:=l.drop k)).length_le;simp only[length_drop] at this;unfold ee;omega
theorem rh (p:UInt8->Bool)(l:List UInt8)(k:Nat):k<=ee p l k:=by unfold ee;omega
theorem byte_at (s:ByteArray)(k:Nat)(hk:k < s.size):s.data.toList[k]?=some s[k]:=by rw[getElem?_eq_getElem TaB];simp[ByteArray.getElem_eq_getElem_data]
variable{l:List UInt8}{c:UInt8}
theorem drop_at{k:Nat} (h:l[k]?=some c):l.drop k=c::l.drop (k+1):=by
 have hk:k < l.length:=by
  rcases Nat.lt_or_ge k l.length with h' | h'
  ·exact h'
  ·exact ZgP
 rw[drop_eq_getElem_cons hk];rw[getElem?_eq_getElem hk] at h;injection h with h;rw[h]
theorem pS{p:UInt8->Bool}  {k:Nat} (h:l[k]?=some c)(hp:p c=true):ee p l k=ee p l (k+1):=by unfold ee;rw[drop_at h,takeWhile_cons,if_pos hp,length_cons];omega
theorem Bd{p:UInt8->Bool}  {k:Nat} (h:l[k]?=some c)(hp:p c=false):ee p l k=k:=by unfold ee;rw[drop_at h,takeWhile_cons,if_neg (by rw[hp];decide)];rfl
theorem wU{p:UInt8->Bool}  {k:Nat}(h:l.length<=k):ee p l k=k:=by unfold ee;rw[drop_eq_nil_of_le h];rfl
theorem Qd (p:UInt8->Bool):∀r:List UInt8,r.drop (r.takeWhile p).length=r.dropWhile p
 | []=>rfl
 | c::r=>by
   rw[takeWhile_cons,dropWhile_cons];split
   ·simpa using Qd p r
   ·rfl
theorem Q3 (p:UInt8->Bool)(r:List UInt8):r.take (r.takeWhile p).length=r.takeWhile p:=by
 induction r with
 | nil=>rfl
 | cons c r ih=>
   rw[takeWhile_cons];split
   ·simpa using ih
   ·rfl
theorem mM (p:UInt8->Bool)(l:List UInt8)(k:Nat):l.drop (ee p l k)=(l.drop k).dropWhile p:=by unfold ee;rw[<- drop_drop,Qd]
theorem JU (p:UInt8->Bool)(l:List UInt8)(k:Nat):(l.drop k).take (ee p l k - k)=(l.drop k).takeWhile p:=by unfold ee;rw[Nat.add_sub_cancel_left,Q3]
theorem vE:∀r:List UInt8,bM false r=bM false (r.dropWhile cO)
 | []=>rfl
 | c::r=>by
   rw[dropWhile_cons];split
   ·rename_i h;rw[bM,if_pos h];exact vE r
   ·rfl
theorem wV:∀r:List UInt8,bM true r=bM false (r.dropWhile λ c=> !(c==10))
 | []=>rfl
 | c::r=>by
   rw[dropWhile_cons];by_cases h:c=10
   ·subst h;simp only[bM,beq_self_eq_true,Bool.not_true,Bool.false_eq_true,if_false];simp[cO]
   ·have h2:(!(c==10))=true:=by simp[h]
    rw[if_pos h2,bM,if_neg h];exact wV r
theorem Wx(h:Lib.hasPrefix r [45,45]=true):bM false r=bM false (r.dropWhile λ c=> !(c==10)):=by
 rw[<- wV]
 match r with
 | []=>simp[Lib.hasPrefix] at h
 | [c]=>simp[Lib.hasPrefix,List.isPrefixOf] at h
 | c::d::r=>simp[Lib.hasPrefix,List.isPrefixOf] at h;obtain⟨rfl,rfl⟩:=h;simp[bM,cO]
theorem Sm(h:Lib.hasPrefix (r.dropWhile cO) [45,45]=false):bM false r=r.dropWhile cO:=by
 rw[vE];generalize hr:r.dropWhile cO=q at*
 match q with
 | []=>rfl
 | c::q=>
   have hb:cO c=false:=by have:=head?_dropWhile_not cO r;rw[hr] at this;simpa using this
   rw[bM,hb,if_neg Tab];rw[if_neg];rintro⟨rfl,h2⟩
   cases q with
   | nil=>simp at h2
   | cons d q=>simp at h2;subst h2;simp[Lib.hasPrefix,List.isPrefixOf] at h
theorem mN:∀(b:Bool) (r:List UInt8),bM b r <:+ r
 | _,[]=>by simp[bM]
 | true,c::r=>by
   simp only[bM];split
   ·exact(mN false r).trans (suffix_cons _ _)
   ·exact(mN true r).trans (suffix_cons _ _)
 | false,c::r=>by
   simp only[bM];split
   ·exact(mN false r).trans (suffix_cons _ _)
   ·split
    ·exact(mN true r).trans (suffix_cons _ _)
    ·exact suffix_refl _
theorem drop_suffix(h:r <:+ l):l.drop (l.length - r.length)=r:=by obtain⟨p,rfl⟩:=h;simp
theorem JV (l:List UInt8)(c:UInt8):gO (l++ [c])=gO l*10+(c.toNat - 48):=by simp[gO]
theorem JW (l:List UInt8):∀v,v<=l.foldl (λ v c=>v*10+(c.toNat - 48)) v:=by
 induction l with
 | nil=>intro v;exact Nat.le_refl _
 | cons c l ih=>intro v;have:=ih (v*10+(c.toNat - 48));simp only[foldl_cons];omega
theorem zV:∀(l:List UInt8) (v:Nat),(∀c∈l,aL c=true)->v<=18446744073709551615->
  Lib.parseUintM 18446744073709551615 v l=if l.foldl (λ v c=>v*10+(c.toNat - 48)) v<=18446744073709551615 then .ok (l.foldl (λ v c=>v*10+(c.toNat - 48)) v)else .range
 | [],v,_,hv=>by simp[Lib.parseUintM,hv]
 | c::l,v,hd,hv=>by
   have hc:48<=c.toNat/\c.toNat<=57:=by have:=hd c mem_cons_self;simpa [aL,UInt8.le_iff_toNat_le] using this
   have hm:=JW l (v*10+(c.toNat - 48));rw[Lib.parseUintM,if_pos hc,foldl_cons];by_cases h1:1844674407370955162<=v
   ·rw[if_pos h1,if_neg Taa]
   ·rw[if_neg h1];by_cases h2:18446744073709551615 < v*10+(c.toNat - 48)
    ·rw[if_pos h2,if_neg Taa]
    ·rw[if_neg h2];exact zV l _ (λ c h=>hd c (mem_cons_of_mem _ h)) Taa
theorem BN(hne:l≠ [])(hd:∀c∈l,aL c=true):Lib.parseIntB 64 l=if gO l<=9223372036854775807 then .ok (gO l:Int)else .range:=by
 match l with
 | []=>exact absurd rfl hne
 | c::r=>
   have hc:48<=c.toNat/\c.toNat<=57:=by have:=hd c mem_cons_self;simpa [aL,UInt8.le_iff_toNat_le] using this
   have hu:=zV (c::r) 0 hd Taa;change _=if gO (c::r)<=_ then Lib.NumEnd.ok (gO (c::r))else _ at hu;have e1:¬(c.toNat=43\/c.toNat=45):=by omega
   have e2:¬c.toNat=45:=by omega
   have e3:¬c.toNat=43:=by omega
   simp only[Lib.parseIntB,e2,e3,or_false,if_false,Lib.parseUintB,if_neg hne];rw[show 2 ^ 64 - 1=18446744073709551615 from rfl,hu];by_cases h1:gO (c::r)<=18446744073709551615
   ·rw[if_pos h1];simp only[show 2 ^(64 - 1)=9223372036854775808 from rfl];by_cases h2:gO (c::r)<=9223372036854775807
    ·rw[if_pos h2,if_neg Taa,if_neg Tae]
    ·rw[if_neg h2,if_pos Tad]
   ·rw[if_neg h1,if_neg Taa]
theorem MX(h:cx c=true):c.toNat < 128:=by simp[cx,bJ,aL,UInt8.le_iff_toNat_le,<- UInt8.toNat_inj] at h;omega
theorem Be{p:UInt8->Bool}(l:List UInt8):∀c∈l.takeWhile p,p c=true:=λ c hc=>List.all_eq_true.1 (all_takeWhile (p:=p) (l:=l)) c hc
open Go.ChangeShapes Go.WideShapes Go.ChangeAt Go.RowKit Go.Shelf
def Hc (f:FuncId)(p:UInt8->Bool):Prop:=∀(c:UInt8) (W:World),Calls Tryz.prog f #[.int .u8 (c.toNat:Int)] W λ e w'=>e=.returned (.bool (p c))/\W=w'
variable{a b:Bool}
theorem cW(h:a=b):Ending.returned (.bool a)=.returned (.bool b):=by rw[h]
theorem kr{k:IntKind} {a b:Int}(h:a=b):Ending.returned (.int k a)=.returned (.int k b):=by rw[h]
theorem BO (c:UInt8):bJ c=((decide ((97:Int)<=c.toNat)&& decide ((c.toNat:Int)<=122))||(decide ((65:Int)<=c.toNat)&& decide ((c.toNat:Int)<=90))||((c.toNat:Int)==95)):=by rw[Bool.eq_iff_iff];simp only[bJ,UInt8.le_iff_toNat_le,<- UInt8.toNat_inj,Bool.or_eq_true,Bool.and_eq_true,decide_eq_true_eq,beq_iff_eq];simp;omega
theorem Ff (c:UInt8):aL c=(decide ((48:Int)<=c.toNat)&& decide ((c.toNat:Int)<=57)):=by rw[Bool.eq_iff_iff];simp only[aL,UInt8.le_iff_toNat_le,Bool.and_eq_true,decide_eq_true_eq];simp;omega
theorem ri:Hc 103 bJ:=by intro c W;rw[BO];have h1:=c.toNat_lt;generalize c.toNat=n at*;go_enter Tryz.func103,Tryz.ntmps103;exact Za0
theorem nL:Hc 105 aL:=by intro c W;rw[Ff];have h1:=c.toNat_lt;generalize c.toNat=n at*;go_enter Tryz.func105,Tryz.ntmps105;exact Za0
theorem MZ (c:UInt8)(k:UInt8):(c==k)=((c.toNat:Int)==(k.toNat:Int)):=by rw[Bool.eq_iff_iff];simp[<- UInt8.toNat_inj];omega
theorem uw (c:UInt8):cO c=(((c.toNat:Int)==32)||((c.toNat:Int)==9)||((c.toNat:Int)==10)||((c.toNat:Int)==13)):=by simp only[cO,MZ];rfl
theorem Sn:Hc 100 cO:=by intro c W;rw[uw];generalize c.toNat=n at*;go_enter Tryz.func100,Tryz.ntmps100;exact Za0
theorem Sp:Hc 102 (λ c=> !(c==10)):=by intro c W;simp only[MZ];generalize c.toNat=n at*;go_enter Tryz.func102,Tryz.ntmps102;exact Za0
theorem Sq:Hc 107 (λ c=>c==39):=by intro c W;simp only[MZ];generalize c.toNat=n at*;go_enter Tryz.func107,Tryz.ntmps107;exact Za0
theorem Sr:Hc 144 cx:=by
 intro c W;unfold cx;cases h:bJ c
 ·exact ZcU
 ·exact ZcU
def se (s:ByteArray)(at_:Nat):Array Value:= #[.string s,.int .i64 at_]
variable{g:Nat}{t:TypeId}
theorem cQ{w:World}   {s:ByteArray} {a:Nat}(h:av w g t (se s a)):w.cell? ⟨g,0,none⟩=some (.string s)/\w.cell? ⟨g,1,none⟩=some (.int .i64 a):=⟨h.cell 0,h.cell 1⟩
structure JX (f:FuncId) (p:UInt8->Bool):Prop where
 enter:∀args w,(callFunc f args).run Tryz.prog w=.ok (.enter f args) w
 says:Hc f p
theorem kB:JX 103 bJ:=⟨enters_of Tryz.func103 Tac rfl,ri⟩
theorem vF:JX 105 aL:=⟨enters_of Tryz.func105 Tac rfl,nL⟩
theorem Na:JX 100 cO:=⟨enters_of Tryz.func100 Tac rfl,Sn⟩
theorem Ss:JX 102 (λ c=> !(c==10)):=⟨enters_of Tryz.func102 Tac rfl,Sp⟩
theorem BP:JX 107 (λ c=>c==39):=⟨enters_of Tryz.func107 Tac rfl,Sq⟩
theorem Fg:JX 144 cx:=⟨enters_of Tryz.func144 Tac rfl,Sr⟩
variable{f:FuncId}
theorem nw{p:UInt8->Bool}(hf:JX f p)(s:ByteArray)(at_ k:Nat)(g:Nat)(w:World)(hL:av w g 118 (se s at_))(hk:k<=s.size)(hs:s.size<=4294967280):
  Calls Tryz.prog 99 #[.pointer (some ⟨g,0,none⟩),.int .i64 k,.func (.func f) #[] #[]] w λ e w'=>e=.returned (.int .i64 (ee p s.data.toList k))/\w=w':=by
 obtain⟨c0,c1⟩:=cQ hL;have hlen:s.data.toList.length=s.size:=by simp
 have HL:=hid hlen;clear hlen;have ef:=hf.enter;go_enter Tryz.func99,Tryz.ntmps99;go_wp2_with fail;go_loop [1] (λ u=>∃j:Nat,j<=s.size/\u=.int .i64 j/\ee p s.data.toList k=ee p s.data.toList j) (λ u=>s.size - (intOf u).toNat);case atStart=>exact⟨k,hk,rfl,rfl⟩
 case round=>
  obtain⟨j,hj,rfl,Wy⟩:=hrel;have HF:=hid Wy;clear Wy;by_cases hlt:j < s.size
  ·have HB:=hid (byte_at s j hlt);cases hpp:p s[j]
   ·have HP:=hid hpp;clear hpp;go_wp2_with (go_at_fn f;refine(hf.says s[j] _).mono ?_;rintro e w' ⟨rfl,rfl⟩;rw[HP.out]);go_ret;exact⟨kr (by rw[HF.out,Bd HB.out HP.out]),rfl⟩
   ·have HP:=hid hpp;clear hpp;go_wp2_with (go_at_fn f;refine(hf.says s[j] _).mono ?_;rintro e w' ⟨rfl,rfl⟩;rw[HP.out]);go_round;case rel=>exact⟨j+1,hlt,by go_num,by rw[HF.out,pS HB.out HP.out]⟩
    case measure=>exact Zcu
  ·go_wp2_with fail;go_ret;exact⟨kr (by rw[HF.out,wU TaT]),rfl⟩
def Sep (x:List UInt8):Prop:=x=[]\/∃c r,x=c::r/\cO c=true
theorem tT(h:cO c=true):c=32\/c=9\/c=10\/c=13:=by
 simp only[cO,Bool.or_eq_true,beq_iff_eq] at h;rcases h with ((h | h)| h)| h <;> simp[h]
variable{x:List UInt8}
theorem Gk{p:UInt8->Bool} {b:List UInt8}(hb:∀c∈b,p c=true)(hx:x.head?.any p=false):(b++x).takeWhile p=b/\(b++x).dropWhile p=x:=by
 rw[takeWhile_append_of_pos hb,dropWhile_append_of_pos hb]
 cases x with
 | nil=>simp
 | cons d x=>
   have:p d=false:=by simpa using hx
   simp[takeWhile_cons,dropWhile_cons,this]
theorem E3{s:List UInt8}(hs:s∈signs) (hx:Sep x):gV signs (s++x)=some s:=by
 simp only[signs,mem_cons,not_mem_nil,or_false] at hs;rcases hx with rfl |⟨c,r,rfl,hc⟩
 ·rcases hs with rfl | rfl | rfl | rfl | rfl | rfl | rfl | rfl | rfl | rfl | rfl | rfl | rfl | rfl | rfl <;> rfl
 ·rcases hs with rfl | rfl | rfl | rfl | rfl | rfl | rfl | rfl | rfl | rfl | rfl | rfl | rfl | rfl | rfl <;> rcases tT hc with rfl | rfl | rfl | rfl <;> rfl
theorem E4{s:List UInt8}(hs:s∈signs):(∃c,s=[c])\/∃c d,s=[c,d]:=by
 simp only[signs,mem_cons,not_mem_nil,or_false] at hs;rcases hs with rfl | rfl | rfl | rfl | rfl | rfl | rfl | rfl | rfl | rfl | rfl | rfl | rfl | rfl | rfl <;> first | exact .inl ⟨_,rfl⟩| exact .inr ⟨_,_,rfl⟩
inductive Vd:List UInt8->List (Wd×Nat)->List UInt8->Prop
 | stop (r:List UInt8):Vd r [] (bM false r)
 | step {r r1 rest q:List UInt8} {c:UInt8} {w:Wd} {ws:List (Wd×Nat)} (hs:bM false r=c::r1) (ho:dH (c::r1)=.ok (w,rest)) (h:Vd rest ws q):Vd r ((w,(c::r1).length)::ws) q
def E5 (n:Nat)(x:Wd×Nat):np:=⟨x.1,n - x.2⟩
def PF (n:Nat):np:=⟨⟨0,[],0⟩,n⟩
variable{q:List UInt8}{ws:List (Wd×Nat)}
theorem E6{n:Nat}  (h:Vd r ws q):∀ {f:Nat},r.length < f->q=[]->rf n f r=.ok (ws.map (E5 n)++ [PF n]):=by
 induction h with
 | stop r=>
   intro f hf hq
   cases f with
   | zero=>omega
   | succ f=>simp only[rf,hq];rfl
 | @step r r1 rest q c w ws hs ho h ih=>
   intro f hf hq
   cases f with
   | zero=>omega
   | succ f=>have hle:=jY false r;rw[hs] at hle;have:=uv ho;simp only[rf,hs,ho,ih (f:=f) Taa hq];rfl
theorem Vd.start{t:List UInt8} (h:Vd t ws q)(e:bM false r=bM false t):Vd r ws q:=by
 cases h with
 | stop r'=>rw[<- e];exact .stop r
 | step hs ho h=>exact .step (e.trans hs) ho h
theorem PG{s:List UInt8}(h:s.length<=4096):lY s=rf s.length (s.length+1) s:=by unfold lY;rw[if_neg Taa]
theorem aaU{s:List UInt8} (hl:s.length<=4096)(h:Vd s ws q)(hq:q=[]):lY s=.ok (ws.map (E5 s.length)++ [PF s.length]):=by rw[PG hl];exact E6 h Taa hq
theorem Jg(h:bJ c=true):aL c=false:=by
 cases hd:aL c
 ·rfl
 ·simp[bJ,aL,UInt8.le_iff_toNat_le,<- UInt8.toNat_inj] at h hd;omega
theorem Jh(h:bJ c=true):bM false (c::r)=c::r:=by
 have h1:¬cO c=true:=by intro hb;rcases tT hb with rfl | rfl | rfl | rfl <;> revert h <;> decide
 have h2:¬(c=45/\r.head?=some 45):=by rintro⟨rfl,_⟩;revert h;decide
 rw[bM,if_neg h1,if_neg h2]
theorem rj:(Tryz.prog.info? 61).map (·.size)=some 2:=by exact Zhj
theorem Hi:liesAt Tryz.prog Tryz.prog.depth 61 (2 / Tryz.prog.cellsOf 61) 0 61 1=true:=by exact Zhj
theorem Fk:(Tryz.prog.info? 5).map (λ i=>(i.zero,i.size,i.bytes))=some (some (.int .u8 0),1,1):=by exact Zhj
theorem BU (b:Nat)(w:World)(h0:w.cell? ⟨b,0,none⟩=some (.pointer (some ⟨b,0,none⟩))):
  Calls Tryz.prog 138 #[.pointer (some ⟨b,0,none⟩)] w λ e w'=>e=.returned (.tuple #[])/\w=w':=by obtain⟨j,hj,_⟩:=Option.map_eq_some_iff.1 rj;go_enter Tryz.func138,Tryz.ntmps138;go_wp2_with fail;rw[Lib.run_neq_ptr_same w _ Tryz.underlying58 hj];go_wp2_with fail;go_end0;exact⟨rfl,rfl⟩
theorem zf5.KbK(h:p:=by rw[Lib.run_from_unsafe w ⟨b,0,none⟩ Tryz.underlying184 Tryz.underlying58 hj Su Hi];exact Zf4):p:=h
theorem Ke (b:Nat)(w:World)(h0:w.cell? ⟨b,0,none⟩=some (.pointer none))(Su:w.shape? b=some (61,2))(hfz:w.frozen? ⟨b,0,none⟩=false):
  Calls Tryz.prog 138 #[.pointer (some ⟨b,0,none⟩)] w λ e w'=>e=.returned (.tuple #[])/\w'=w.setCell ⟨b,0,none⟩ (.pointer (some ⟨b,0,none⟩)):=by obtain⟨j,hj,WC⟩:=Option.map_eq_some_iff.1 rj;go_enter Tryz.func138,Tryz.ntmps138;go_wp2_with fail;rw[Lib.run_to_unsafe w ⟨b,0,none⟩ Tryz.underlying58 Tryz.underlying184 hj (by rw[WC];decide) Su (Nat.zero_lt_succ 1)];open zf5 in exact Zds
def Kf (B b:Nat)(l:List UInt8)(w:World):Prop:=Lib.IsBuilder 61 5 B b (Lib.byteCells l) w
theorem Sv (B b:Nat)(bs:List Value)(w:World)(h:Lib.IsBuilder 61 5 B b bs w):
  Calls Tryz.prog 138 #[.pointer (some ⟨b,0,none⟩)] w λ e w'=>e=.returned (.tuple #[])/\Lib.BuilderAt 61 5 B b (.pointer (some ⟨b,0,none⟩)) bs w'/\Below B w w':=by
 rcases h with h | h
 ·refine(Ke b w h.cell0 h.shape h.frozen0).mono ?_;rintro e w' ⟨rfl,rfl⟩;exact⟨rfl,h.used _,(Below.refl B w).setCell (p:=⟨b,0,none⟩) h.1 _⟩
 ·refine(BU b w h.cell0).mono ?_;rintro e w' ⟨rfl,rfl⟩;exact⟨rfl,h,Below.refl B _⟩
theorem zg7.Kb9(h:p:=by
 obtain⟨g,cap,rfl⟩:∃g cap,v'=.slice (some ⟨g,0,none⟩) (bs.length+1) cap:=by
  rcases hown'.2 with ⟨_,h0⟩|⟨g,cap,cur,hv,_⟩
  ·omega
  ·exact⟨g,cap,hv⟩
 go_wp2_with fail;go_ret;refine⟨rfl,?_,?_⟩
 ·exact Lib.BuilderAt.put (T:=61) (e:=5) hB hb2 (bs':=bs++ [.int .u8 c]) (by simpa using hown') Tab
 ·exact((hb1.alloc (by have:=hb1.size;omega) _).grown hgrow (by have:=hb1.size;simp;omega) (λ k hk=>(hown.lt k hk).1)).setCell (p:=⟨b,1,none⟩) hB _):p:=h
theorem ziu.KcM(h:p:=by
 go_wp2_with (at_builtin;refine wpList_append_own _ rfl _ _ 59 rfl B 5 i0 (.int .u8 0) 1 1 Tryz.underlying59 hi hz0 hz1 hz2 rfl Tab _ _ _ rfl (hown.alloc _) ⟨w1.heap.size,0,none⟩ 1 1 [.int .u8 c] rfl rfl ?c1 ?c2 ?c3 ?c4 ?c5 ?_)
 case c1=>
  intro j u hj
  match j,hj with
  | 0,hj=>simp at hj;subst hj;simp[Addr.add]
 case c2=>intro u hu;simp at hu;subst hu;rfl
 case c3=>unfold maxLen;omega
 case c4=>omega
 case c5=>have:=hb1.size;simp;omega
 intro v' w2 hown' hgrow _
 have hlt:b < w1.heap.size:=by
  rcases Nat.lt_or_ge b w1.heap.size with h' | h'
  ·exact h'
  ·simp[Array.getElem?_eq_none h'] at vH
 have hb2:w2.heap[b]?=some (.cells #[.pointer (some ⟨b,0,none⟩),v] 61 (0,0)):=by rw[hgrow.block b Tad (λ e=>hne e.symm),Lib.alloc_old w1 _ b hlt];exact vH
 open zg7 in exact Zew):p:=h
theorem Sw (B b:Nat)(bs:List Value)(c:Int)(w:World)(h:Lib.IsBuilder 61 5 B b bs w)(hlen:bs.length+1<=140737488355328)(AA:B<=w.heap.size):
  Calls Tryz.prog 148 #[.pointer (some ⟨b,0,none⟩),.int .u8 c] w λ e w'=>e=.returned .nilIface/\Lib.BuilderAt 61 5 B b (.pointer (some ⟨b,0,none⟩)) (bs++ [.int .u8 c]) w'/\Below B w w':=by obtain⟨i0,hi,hz0,hz1,hz2⟩:=info_parts Fk;go_enter Tryz.func148,Tryz.ntmps148;go_wp2_with fail;refine(Sv B b bs _ h).mono ?_;rintro e w1 ⟨rfl,h1,hb1⟩;obtain⟨hB,v,vH,hown,hne⟩:=h1;open ziu in exact ZgI
theorem BV (B b:Nat)(l:List UInt8)(c:UInt8)(w:World)(h:Kf B b l w)(hlen:l.length+1<=140737488355328)(AA:B<=w.heap.size):
  Calls Tryz.prog 148 #[.pointer (some ⟨b,0,none⟩),.int .u8 (c.toNat:Int)] w λ e w'=>e=.returned .nilIface/\Kf B b (l++ [c]) w'/\Below B w w':=by
 refine(Sw B b (Lib.byteCells l) c.toNat w h (by rw[Lib.byteCells_length];exact hlen) AA).mono ?_;rintro e w' ⟨he,h1,h2⟩;refine⟨he,.inr ?_,h2⟩;have:Lib.byteCells (l++ [c])=Lib.byteCells l++ [.int .u8 (c.toNat:Int)]:=by simp[Lib.byteCells]
 rw[this];exact h1
end Go.Proofs.YtehhdlgjfdnafaaGreatDoor
