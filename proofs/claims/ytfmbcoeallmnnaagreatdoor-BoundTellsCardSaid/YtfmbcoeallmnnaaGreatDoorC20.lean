/- Parts of the proof. -/
import Derived.WalkKit
import Derived.Deep.AppendLies
import Derived.Deep.Draws
namespace Go.Proofs.YtfmbcoeallmnnaaGreatDoor.R
set_option linter.unusedSimpArgs false
set_option linter.unusedVariables false
def fx (c:UInt8):Bool:=(decide (97≤c)&& decide (c≤122))||(decide (65≤c)&& decide (c≤90))|| c==95
def bz (c:UInt8):Bool:=decide (48≤c)&& decide (c≤57)
def eL (c:UInt8):Bool:=fx c || bz c
def nW (c:UInt8):Bool:=c==32 || c==9 || c==10 || c==13
def yO (c:UInt8):Bool:=decide (65≤c)&& decide (c≤90)
def ra (c:UInt8):UInt8:=if yO c then c+32 else c
def cy:Bool→List UInt8→List UInt8
 | _,[]=> []
 | true,c::r=>if c=10 then cy false r else cy true r
 | false,c::r=>if nW c then cy false r else if c=45∧r.head?=some 45 then cy true r else c::r
def kh (l:List UInt8):Nat:=l.foldl (fun v c=>v*10+(c.toNat - 48)) 0
def rb (l:List UInt8):Bool:=(decide (l.length≤1)|| !(l.head?==some 48))&& decide (kh l≤9223372036854775807)
def fy:List UInt8→Option (List UInt8×List UInt8)
 | []=>none
 | [c]=>if c=39 then some ([],[])else none
 | c::d::r=>if c=39 then(if d=39 then(fy r).map fun x=>(39::x.1,x.2)else some ([],d::r))else(fy (d::r)).map fun x=>(c::x.1,x.2)
def signs:List (List UInt8):=[[60,62],[60,61],[62,61],[40],[41],[44],[42],[43],[45],[47],[37],[61],[60],[62],[59]]
def jI:List (List UInt8)→List UInt8→Option (List UInt8)
 | [],_=>none
 | s::l,r=>if s.isPrefixOf r then some s else jI l r
structure Wd where
 k:Nat
 s:List UInt8
 n:Int
deriving DecidableEq
structure Tok where
 w:Wd
 p:Nat
deriving DecidableEq
def gT:List UInt8→Except Nat (Wd×List UInt8)
 | []=> .error 30
 | c::r=>
   if fx c then(if ((c::r).takeWhile eL).length≤32 then .ok (⟨1,((c::r).takeWhile eL).map ra,0⟩,(c::r).dropWhile eL)else .error 2)
   else if bz c then(if rb ((c::r).takeWhile bz)&& !(((c::r).dropWhile bz).head?.any fx)then .ok (⟨2,[],kh ((c::r).takeWhile bz)⟩,(c::r).dropWhile bz)else .error 30)
   else if c=39 then(match fy r with
    | some (t,rest)=> .ok (⟨3,t,0⟩,rest)
    | none=> .error 30)
   else match jI signs (c::r)with
    | some s=> .ok (⟨4,s,0⟩,(c::r).drop s.length)
    | none=> .error 30
def si (n:Nat):Nat→List UInt8→Except (Nat×Nat) (List Tok)
 | 0,_=> .error (0,30)
 | f+1,r=>match cy false r with
   | []=> .ok [⟨⟨0,[],0⟩,n⟩]
   | c::r'=>match gT (c::r')with
     | .error e=> .error (n - (c::r').length,e)
     | .ok (w,rest)=>match si n f rest with
       | .error e=> .error e
       | .ok l=> .ok (⟨w,n - (c::r').length⟩::l)
def qm (s:List UInt8):Except (Nat×Nat) (List Tok):=if 4096 < s.length then .error (0,2)else si s.length (s.length+1) s
def kI:List (List UInt8):=[[97,110,100],[97,115],[98,121],[99,97,108,108],[99,114,101,97,116,101],[100,101,108,101,116,101],[100,101,115,99],[100,114,111,112],[102,97,108,115,101],[102,114,111,109],[103,114,111,117,112],[104,97,118,105,110,103],[105,110,115,101,114,116],[105,110,116,111],[105,115],[108,105,109,105,116],[110,111,116],[110,117,108,108],[111,110,108,121],[111,114],[111,114,100,101,114],[115,101,108,101,99,116],[115,101,116],[116,114,117,101],[117,112,100,97,116,101],[118,97,108,117,101,115],[119,104,101,114,101]]
def wV (s:List UInt8):Bool:=kI.contains s
theorem jB:∀(b:Bool) (r:List UInt8),(cy b r).length≤r.length
 | _,[]=>by simp[cy]
 | true,c::r=>by have h1:=jB false r;have h2:=jB true r;simp only[cy];split <;> simp only[List.length_cons] <;> omega
 | false,c::r=>by
   have h1:=jB false r;have h2:=jB true r;simp only[cy];split
   ·simp only[List.length_cons];omega
   ·split <;> simp only[List.length_cons] <;> omega
theorem nX:∀(r:List UInt8) (t rest:List UInt8),fy r=some (t,rest)→∃b,r=b++rest∧b≠ []
 | [],t,rest,h=>by simp[fy] at h
 | [c],t,rest,h=>by
   simp only[fy] at h;split at h
   ·rename_i hc;injection h with h;injection h with h1 h2;subst h1 h2 hc;exact⟨[39],rfl,by simp⟩
   ·cases h
 | c::d::r,t,rest,h=>by
   simp only[fy] at h;split at h
   ·rename_i hc;subst hc;split at h
    ·rename_i hd;subst hd;cases hr:fy r with
     | none=>rw[hr] at h;cases h
     | some x=>obtain⟨t',rest'⟩:=x;rw[hr] at h;simp only[Option.map_some,Option.some.injEq,Prod.mk.injEq] at h;obtain⟨rfl,rfl⟩:=h;obtain⟨b,hb,_⟩:=nX r t' _ hr;exact⟨39::39::b,by rw[hb];rfl,by simp⟩
    ·injection h with h;injection h with h1 h2;subst h1 h2;exact⟨[39],rfl,by simp⟩
   ·cases hr:fy (d::r)with
    | none=>rw[hr] at h;cases h
    | some x=>obtain⟨t',rest'⟩:=x;rw[hr] at h;simp only[Option.map_some,Option.some.injEq,Prod.mk.injEq] at h;obtain⟨rfl,rfl⟩:=h;obtain⟨b,hb,_⟩:=nX (d::r) t' _ hr;exact⟨c::b,by rw[hb];rfl,by simp⟩
theorem nY:∀ {l:List (List UInt8)} {r s:List UInt8},jI l r=some s→s∈l∧s <+: r
 | [],r,s,h=>by simp[jI] at h
 | x::l,r,s,h=>by
   simp only[jI] at h;split at h
   ·rename_i hp;injection h with h;subst h;exact⟨List.mem_cons_self,by simpa using hp⟩
   ·obtain⟨h1,h2⟩:=nY h;exact⟨List.mem_cons_of_mem _ h1,h2⟩
theorem vq {r rest:List UInt8} {w:Wd}(h:gT r=.ok (w,rest)):∃b,r=b++rest∧b≠ []:=by
 match r with
 | []=>simp[gT] at h
 | c::r=>
   simp only[gT] at h;split at h
   ·rename_i hc;split at h
    ·injection h with h;injection h with h1 h2;subst h1 h2;refine⟨_,(List.takeWhile_append_dropWhile (p:=eL)).symm,?_⟩;have:eL c=true:=by simp[eL,hc]
     simp[List.takeWhile_cons,this]
    ·cases h
   ·split at h
    ·rename_i hc;split at h
     ·injection h with h;injection h with h1 h2;subst h1 h2;refine⟨_,(List.takeWhile_append_dropWhile (p:=bz)).symm,?_⟩;simp[List.takeWhile_cons,hc]
     ·cases h
    ·split at h
     ·split at h
      ·rename_i t rest' ht;injection h with h;injection h with h1 h2;subst h1 h2;obtain⟨b,hb,_⟩:=nX _ _ _ ht;exact⟨c::b,by rw[hb];rfl,by simp⟩
      ·cases h
     ·split at h
      ·rename_i s hs;injection h with h;injection h with h1 h2;subst h1 h2;obtain⟨h1,t,h2⟩:=nY hs;refine⟨s,?_,?_⟩
       ·rw[← h2];simp
       ·intro e;subst e;revert h1;decide
      ·cases h
theorem uq {r rest:List UInt8} {w:Wd}(h:gT r=.ok (w,rest)):rest.length < r.length:=by obtain⟨b,rfl,hb⟩:=vq h;have:0 < b.length:=List.length_pos_iff.2 hb;simp;omega
theorem xF (n:Nat):∀(f g:Nat) (r:List UInt8),r.length < f→r.length < g→si n f r=si n g r
 | 0,_,_,h,_=>by omega
 | _,0,_,_,h=>by omega
 | f+1,g+1,r,hf,hg=>by
   have hs:=jB false r;simp only[si];cases hk:cy false r with
   | nil=>rfl
   | cons c r'=>
     rw[hk] at hs;simp only;cases ho:gT (c::r')with
     | error e=>rfl
     | ok x=>obtain⟨w,rest⟩:=x;have:=uq ho;simp only;rw[xF n f g rest (by omega) (by omega)]
structure Val where
 k:Int
 n:Int
 s:ByteArray
inductive Tr where
 | mk (op:Int) (v:Val) (name:ByteArray) (width:Int) (args:List Tr)
def fg:Val:=⟨0,0,ByteArray.empty⟩
def gH (op:Int)(l:List Tr):Tr:=.mk op fg ByteArray.empty 0 l
def ig (v:Val):Tr:=.mk 1 v ByteArray.empty 0 []
def jJ (n:ByteArray):Tr:=.mk 2 fg n 0 []
def QK:List UInt8:=[111,114]
def JK:List UInt8:=[97,110,100]
def ll:List UInt8:=[110,111,116]
def pw:List UInt8:=[105,115]
def fo:List UInt8:=[110,117,108,108]
def jK:List UInt8:=[116,114,117,101]
def jn:List UInt8:=[102,97,108,115,101]
def dc:List UInt8:=[115,101,108,101,99,116]
def mR:List UInt8:=[102,114,111,109]
def nZ:List UInt8:=[111,110,108,121]
def mS:List UInt8:=[119,104,101,114,101]
def jo:List UInt8:=[103,114,111,117,112]
def vr:List UInt8:=[98,121]
def od:List UInt8:=[104,97,118,105,110,103]
def jq:List UInt8:=[111,114,100,101,114]
def lp:List UInt8:=[108,105,109,105,116]
def qo:List UInt8:=[100,101,115,99]
def vt:List UInt8:=[97,115]
def og:List UInt8:=[99,114,101,97,116,101]
def vu:List UInt8:=[100,114,111,112]
def vv:List UInt8:=[105,110,115,101,114,116]
def vw:List UInt8:=[117,112,100,97,116,101]
def vx:List UInt8:=[100,101,108,101,116,101]
def Dc:List UInt8:=[99,97,108,108]
def ur:List UInt8:=[116,97,98,108,101]
def yP:List UInt8:=[118,105,101,119]
def OE:List UInt8:=[106,111,98]
def OG:List UInt8:=[105,110,116]
def JL:List UInt8:=[98,111,111,108]
def QL:List UInt8:=[116,101,120,116]
def JM:List UInt8:=[116,105,109,101]
def uu:List UInt8:=[101,118,101,114,121]
def EI:List UInt8:=[115,112,97,99,101]
def Dd:List UInt8:=[105,110,116,111]
def iq:List UInt8:=[114,101,102,114,101,115,104]
def ja:List UInt8:=[99,111,109,112,114,101,115,115]
def rh:List UInt8:=[100,101,99,111,109,112,114,101,115,115]
def wW:List UInt8:=[100,114,111,112,95,99,104,117,110,107,115]
def Ud:List UInt8:=[116,111]
def EJ:List UInt8:=[97,102,116,101,114]
def JN:List UInt8:=[118,97,108,117,101,115]
def Ue:List UInt8:=[115,101,116]
def AL:List UInt8:=[98,117,99,107,101,116]
def EK:List UInt8:=[99,111,117,110,116]
def OH:List UInt8:=[115,117,109]
def OI:List UInt8:=[109,105,110]
def OJ:List UInt8:=[109,97,120]
def OL:List UInt8:=[97,118,103]
def EL:List UInt8:=[102,105,114,115,116]
def JO:List UInt8:=[108,97,115,116]
def aU:List UInt8:=[44]
def cj:List UInt8:=[40]
def aN:List UInt8:=[41]
def qp:List UInt8:=[59]
def dZ:List UInt8:=[42]
def lu:List UInt8:=[45]
def De:List UInt8:=[43]
def yQ:List UInt8:=[47]
def sj:List UInt8:=[37]
def QM:List UInt8:=[61]
def Uf:List UInt8:=[60,62]
def Ug:List UInt8:=[60]
def Uh:List UInt8:=[60,61]
def Ui:List UInt8:=[62]
def Uj:List UInt8:=[62,61]
structure Qu where
 items:List (Tr×ByteArray):=[]
 cq:ByteArray:=ByteArray.empty
 only:Bool:=false
 bU:List Tr:=[]
 group:List Tr:=[]
 having:List Tr:=[]
 order:List (Tr×Bool):=[]
 bP:List Int:=[]
structure St where
 kind:Int:=0
 name:ByteArray:=ByteArray.empty
 cols:List (ByteArray×Int):=[]
 time:ByteArray:=ByteArray.empty
 every:Int:=0
 space:ByteArray:=ByteArray.empty
 parts:Int:=0
 query:Qu:= {}
 what:Int:=0
 Cn:ByteArray:=ByteArray.empty
 a:Int:=0
 b:Int:=0
 rows:List (List Tr):=[]
 iI:List (ByteArray×Tr):=[]
 bU:List Tr:=[]
 cq:Val:=fg
 OM:Val:=fg
abbrev fA:=List Wd
def Ps (α:Type):Type:=fA→Except Nat (α×fA)
instance:Monad Ps where
 pure x:=fun l=> .ok (x,l)
 bind p f:=fun l=>match p l with
  | .error n=> .error n
  | .ok (x,r)=>f x r
def kW (s:List UInt8)(t:Wd):Bool:=(t.k==1 || t.k==4)&& t.s==s
def bQ (s:List UInt8):fA→Bool
 | []=>false
 | t::_=>kW s t
def sk {α:Type}:Ps α:=fun l=> .error l.length
def may (s:List UInt8):Ps Bool:=fun l=>if bQ s l then .ok (true,l.tail)else .ok (false,l)
def must (s:List UInt8):Ps Unit:=fun l=>if bQ s l then .ok ((),l.tail)else .error l.length
def ri:List (List UInt8)→Ps (List UInt8)
 | []=>sk
 | s::ks=>fun l=>if bQ s l then .ok (s,l.tail)else ri ks l
def bE:Ps ByteArray
 | []=> .error 0
 | t::r=>if t.k=1∧wV t.s=false then .ok (⟨t.s.toArray⟩,r)else .error (t::r).length
def gu:Ps Int
 | []=> .error 0
 | t::r=>if t.k=2 then .ok (t.n,r)else .error (t::r).length
def kJ {α:Type}(el:Ps α):Nat→List α→Ps (List α)
 | 0,acc=>pure acc
 | f+1,acc=>fun l=>if bQ aU l then(do let y ← el;kJ el f (acc++ [y])) l.tail else .ok (acc,l)
def gI {α:Type}(el:Ps α):Ps (List α):=do
 let x ← el
 fun l=>kJ el l.length [x] l
def opsL:Nat→List (List UInt8×Int)
 | 0=> [(QK,17)]
 | 1=> [(JK,16)]
 | 3=> [(QM,10),(Uf,11),(Ug,12),(Uh,13),(Ui,14),(Uj,15)]
 | 4=> [(De,5),(lu,6)]
 | 5=> [(dZ,7),(yQ,8),(sj,9)]
 | _=> []
def gU:List (List UInt8×Int)→fA→Option Int
 | [],_=>none
 |(s,o)::k,l=>if bQ s l then some o else gU k l
def iJ (below:Ps Tr)(lv:Nat):Nat→Tr→Ps Tr
 | 0,x=>pure x
 | f+1,x=>fun l=>match gU (opsL lv) l with
   | none=> .ok (x,l)
   | some o=>(do let y ← below;iJ below lv f (gH o [x,y])) l.tail
def ly (below:Ps Tr)(lv:Nat):Ps Tr:=do
 let x ← below
 fun l=>iJ below lv l.length x l
def sq (below:Ps Tr)(x:Tr):Ps Tr:=fun l=>match gU (opsL 3) l with
 | none=> .ok (x,l)
 | some o=>(do let y ← below;return gH o [x,y]) l.tail
def GF (below:Ps Tr):Ps Tr:=do
 let x ← below
 if ← may pw then
  let n ← may ll
  must fo
  return gH (if n then 19 else 18) [x]
 else sq below x
def Df (s:List UInt8)(op:Int)(same below:Ps Tr):Ps Tr:=do
 if ← may s then
  let x ← same
  return gH op [x]
 else below
def AO:List (List UInt8×Int):=[(AL,20),(EK,22),(OH,23),(OI,24),(OJ,25),(OL,26),(EL,27),(JO,28)]
def fB (n:ByteArray):Option Int:=AO.lookup n.data.toList
def lR (op:Int):Ps Int:=
 if op=20 then(do
  let n ← gu
  must aU
  return n)else pure 0
def jr (whole:Ps Tr)(op:Int):Ps (List Tr):=
 if op=27∨op=28 then(do
  must aU
  let y ← whole
  return [y])else pure []
def oh (whole:Ps Tr)(op:Int):Ps Tr:=do
 let width ← lR op
 let x ← whole
 let ys ← jr whole op
 must aN
 return .mk op fg ByteArray.empty width (x::ys)
def countP (whole:Ps Tr):Ps Tr:=do
 if ← may dZ then
  must aN
  return gH 21 []
 else oh whole 22
def iK (whole:Ps Tr)(op:Int):Ps Tr:=if op=22 then countP whole else oh whole op
def vy (whole:Ps Tr):Ps Tr:=do
 let n ← bE
 fun l=>if bQ cj l then(match fB n with
  | none=> .error l.length
  | some op=>iK whole op l.tail)else .ok (jJ n,l)
def jU (whole:Ps Tr):Ps Tr:=fun l=>
 match l with
 | []=> .error 0
 | t::r=>
   if t.k=2 then .ok (ig ⟨2,t.n,ByteArray.empty⟩,r)
   else if t.k=3 then .ok (ig ⟨3,0,⟨t.s.toArray⟩⟩,r)
   else if kW jK t then .ok (ig ⟨1,1,ByteArray.empty⟩,r)
   else if kW jn t then .ok (ig ⟨1,0,ByteArray.empty⟩,r)
   else if kW fo t then .ok (ig fg,r)
   else if kW cj t then(do let x ← whole;must aN;return x) r
   else vy whole (t::r)
def pE:Nat→Nat→Ps Tr
 | 0,_=>sk
 | f+1,0=>ly (pE f 1) 0
 | f+1,1=>ly (pE f 2) 1
 | f+1,2=>Df ll 4 (pE f 2) (pE f 3)
 | f+1,3=>GF (pE f 4)
 | f+1,4=>ly (pE f 5) 4
 | f+1,5=>ly (pE f 6) 5
 | f+1,6=>Df lu 3 (pE f 6) (pE f 7)
 | f+1,_=>jU (pE f 0)
def ar (lv:Nat):Ps Tr:=fun l=>pE (8*l.length+8 - lv) lv l
def dE:Ps Tr:=ar 0
def dA (s:List UInt8):Ps (List Tr):=do
 if ← may s then
  let x ← dE
  return [x]
 else return []
def gJ:Ps (Tr×ByteArray):=do
 let x ← dE
 if ← may vt then
  let n ← bE
  return (x,n)
 else return (x,ByteArray.empty)
def fS:Ps (Tr×Bool):=do
 let x ← dE
 let d ← may qo
 return (x,d)
def lS:Ps (List (Tr×ByteArray)):=do
 if ← may dZ then
  return []
 else gI gJ
def jL:Ps (List Tr):=do
 if ← may jo then
  must vr
  gI dE
 else return []
def gX:Ps (List (Tr×Bool)):=do
 if ← may jq then
  must vr
  gI fS
 else return []
def jb:Ps (List Int):=do
 if ← may lp then
  let n ← gu
  return [n]
 else return []
def kK:Ps Qu:=do
 must dc
 let items ← lS
 must mR
 let only ← may nZ
 let cq ← bE
 let bU ← dA mS
 let group ← jL
 let having ← dA od
 let order ← gX
 let bP ← jb
 return { items,cq,only,bU,group,having,order,bP }
def typeOf (s:List UInt8):Int:=if s=OG then 2 else if s=JL then 1 else 3
def uv:Ps (ByteArray×Int):=do
 let n ← bE
 let t ← ri [OG,JL,QL]
 return (n,typeOf t)
def Dg:Ps (ByteArray×Int):=do
 if ← may EI then
  let s ← bE
  must Dd
  let n ← gu
  return (s,n)
 else return (ByteArray.empty,0)
def yR:Ps St:=do
 let name ← bE
 must cj
 let cols ← gI uv
 must aN
 must JM
 let time ← bE
 must uu
 let every ← gu
 let sp ← Dg
 return { kind:=1,name,cols,time,every,space:=sp.1,parts:=sp.2 }
def OO:Ps St:=do
 let name ← bE
 must vt
 let query ← kK
 return { kind:=2,name,query }
def OP (s:List UInt8):Ps (Int×Int):=do
 if s=iq then
  must mR
  let a ← gu
  must Ud
  let b ← gu
  return (a,b)
 else
  must EJ
  let a ← gu
  return (a,0)
def MU:Ps St:=do
 let name ← bE
 let s ← ri [iq,ja,vu]
 let Cn ← bE
 let ab ← OP s
 must uu
 let every ← gu
 return { kind:=3,name,what:=if s=iq then 9 else if s=ja then 10 else 12,Cn,a:=ab.1,b:=ab.2,every }
def yS:Ps St:=do
 let s ← ri [ur,yP,OE]
 if s=ur then yR else if s=yP then OO else MU
def OQ:Ps St:=do
 let s ← ri [ur,yP,OE]
 let name ← bE
 return { kind:=4,what:=if s=ur then 1 else if s=yP then 2 else 3,name }
def Uk:Ps (List Tr):=do
 must cj
 let l ← gI dE
 must aN
 return l
def EM:Ps St:=do
 must Dd
 let name ← bE
 must JN
 let rows ← gI Uk
 return { kind:=5,name,rows }
def Ul:Ps (ByteArray×Tr):=do
 let n ← bE
 must QM
 let x ← dE
 return (n,x)
def EN:Ps St:=do
 let name ← bE
 must Ue
 let iI ← gI Ul
 let bU ← dA mS
 return { kind:=6,name,iI,bU }
def EO:Ps St:=do
 must mR
 let name ← bE
 let bU ← dA mS
 return { kind:=7,name,bU }
def yT:Ps St:=do
 let query ← kK
 return { kind:=8,query }
def MV:Ps Val:=do
 if ← may fo then
  return fg
 else
  let less ← may lu
  let n ← gu
  return ⟨2,if less then -n else n,ByteArray.empty⟩
def vz (k:Int):Ps Val:=do
 if k=9 then
  let v ← MV
  must aU
  return v
 else return fg
def OS:Ps St:=do
 let s ← ri [iq,ja,rh,wW]
 let kind:Int:=if s=iq then 9 else if s=ja then 10 else if s=rh then 11 else 12
 must cj
 let name ← bE
 must aU
 let cq ← vz kind
 let OM ← MV
 must aN
 return { kind,name,cq,OM }
def cH:Ps St:=fun l=>
 match l with
 | []=> .error 0
 | t::r=>
   if¬t.k=1 then .error (t::r).length
   else if t.s=dc then yT (t::r)
   else if t.s=og then yS r
   else if t.s=vu then OQ r
   else if t.s=vv then EM r
   else if t.s=vw then EN r
   else if t.s=vx then EO r
   else if t.s=Dc then OS r
   else .error (t::r).length
def AP:Ps Unit
 | []=> .error 0
 | t::r=>if t.k=0 then .ok ((),t::r)else .error (t::r).length
def qq:Ps St:=do
 let s ← cH
 let _ ← may qp
 AP
 return s
mutual
def Tr.depth:Tr→Nat
 | .mk _ _ _ _ args=>Tr.gM args+1
def Tr.gM:List Tr→Nat
 | []=>0
 | t::l=>max t.depth (Tr.gM l)
end
def Qu.exprs (q:Qu):List Tr:=q.items.map (·.1)++q.bU++q.group++q.having++q.order.map (·.1)
def St.exprs (s:St):List Tr:=s.rows.flatten++s.iI.map (·.2)++s.bU++s.query.exprs
def AQ (l:List Tr):Bool:=l.any fun t=>decide (32 < t.depth)
def Qu.long (q:Qu):Bool:=decide (64 < q.items.length)|| decide (64 < q.group.length)|| decide (64 < q.order.length)
def St.long (s:St):Bool:=decide (64 < s.cols.length)|| decide (64 < s.rows.length)|| s.rows.any (fun r=>decide (64 < r.length))|| decide (64 < s.iI.length)|| s.query.long
def mU (s:List UInt8):Except (Nat×Nat) St:=
 match qm s with
 | .error x=> .error x
 | .ok l=>match qq (l.map (·.w))with
   | .error n=> .error (((l[l.length - n]?).map (·.p)).getD 0,31)
   | .ok (t,_)=>if t.long then .error (0,2)else if AQ t.exprs then .error (0,32)else .ok t
theorem ee {α β:Type}(p:Ps α)(f:α→Ps β)(l:fA):(p >>= f) l=match p l with | .error n=> .error n | .ok (x,r)=>f x r:=rfl
def fT (l:fA):Prop:=∃x e,l=x++ [e]∧e.k=0
theorem fT.tail {t:Wd} {r:fA}(h:fT (t::r))(ht:t.k≠0):fT r:=by
 obtain⟨x,e,hx,he⟩:=h
 match x with
 | []=>simp at hx;exact absurd (hx.1▸he) ht
 | y::x=>simp at hx;exact⟨x,e,hx.2,he⟩
theorem fT.pos {l:fA}(h:fT l):0 < l.length:=by obtain⟨x,e,rfl,_⟩:=h;simp
theorem tC {s:List UInt8} {t:Wd}(h:kW s t=true):t.k≠0:=by unfold kW at h;simp at h;omega
theorem fU {s:List UInt8} {l:fA}(h:bQ s l=true):∃t r,l=t::r∧kW s t=true:=by
 match l with
 | []=>simp[bQ] at h
 | t::r=>exact⟨t,r,rfl,h⟩
def bX {α:Type}(p:Ps α):Prop:=∀l,match p l with
 | .ok (_,r)=>r <:+ l∧(fT l→fT r)
 | .error n=>n≤l.length∧(fT l→0 < n)
theorem bX.ok {α:Type} {p:Ps α}(h:bX p) {l r:fA} {x:α}(e:p l=.ok (x,r)):r <:+ l∧(fT l→fT r):=by have:=h l;rw[e] at this;exact this
theorem bX.err {α:Type} {p:Ps α}(h:bX p) {l:fA} {n:Nat}(e:p l=.error n):n≤l.length∧(fT l→0 < n):=by have:=h l;rw[e] at this;exact this
theorem bX.len {α:Type} {p:Ps α}(h:bX p) {l r:fA} {x:α}(e:p l=.ok (x,r)):r.length≤l.length:=(h.ok e).1.length_le
theorem aY {α:Type}(x:α):bX (pure x:Ps α):=fun l=>⟨List.suffix_refl _,id⟩
theorem aQ {α β:Type} {p:Ps α} {f:α→Ps β}(h:bX p)(k:∀x,bX (f x)):bX (p >>= f):=by
 intro l;rw[ee];cases e:p l with
 | error n=>exact h.err e
 | ok y=>
   obtain⟨x,r⟩:=y;obtain⟨h1,h2⟩:=h.ok e;show match f x r with | .ok (_,r)=>r <:+ l∧(fT l→fT r)| .error n=>n≤l.length∧(fT l→0 < n)
   cases e2:f x r with
   | error n=>obtain⟨k1,k2⟩:=(k x).err e2;exact⟨Nat.le_trans k1 h1.length_le,fun hl=>k2 (h2 hl)⟩
   | ok y=>obtain⟨z,r2⟩:=y;obtain⟨k1,k2⟩:=(k x).ok e2;exact⟨k1.trans h1,fun hl=>k2 (h2 hl)⟩
theorem yU {α:Type} {q:fA→Ps α}(h:∀l,bX (q l)):bX (fun l=>q l l):=fun l=>h l l
theorem kL {α:Type}:bX (sk:Ps α):=fun l=>⟨Nat.le_refl _,fT.pos⟩
theorem mr {α:Type}(s:List UInt8) {p q:Ps α}(hp:bX p)(hq:bX q):bX (fun l=>if bQ s l then p l.tail else q l):=by
 intro l;by_cases h:bQ s l=true
 ·obtain⟨t,r,rfl,ht⟩:=fU h;simp only[h,if_true,List.tail_cons];cases e:p r with
  | error n=>obtain⟨k1,k2⟩:=hp.err e;exact⟨by simp;omega,fun hl=>k2 (hl.tail (tC ht))⟩
  | ok y=>obtain⟨z,r2⟩:=y;obtain⟨k1,k2⟩:=hp.ok e;exact⟨k1.trans (List.suffix_cons _ _),fun hl=>k2 (hl.tail (tC ht))⟩
 ·simp only[h];exact hq l
theorem cI (s:List UInt8):bX (may s):=mr s (p:=pure true) (q:=pure false) (aY _) (aY _)
theorem aK (s:List UInt8):bX (must s):=mr s (p:=pure ()) (q:=sk) (aY _) kL
theorem fV:∀ks,bX (ri ks)
 | []=>kL
 | s::ks=>mr s (p:=pure s) (q:=ri ks) (aY _) (fV ks)
theorem xG {α:Type} {c:Wd→Prop} [DecidablePred c] {v:Wd→α}(hc:∀t,c t→t.k≠0):
  bX (fun l=>match l with | []=> .error 0 | t::r=>if c t then .ok (v t,r)else .error (t::r).length:Ps α):=by
 intro l
 match l with
 | []=>exact⟨Nat.le_refl _,fun h=>h.pos⟩
 | t::r=>
   by_cases h:c t
   ·simp only[h,if_true];exact⟨List.suffix_cons _ _,fun hl=>hl.tail (hc t h)⟩
   ·simp only[h];exact⟨Nat.le_refl _,fun hl=>by simp⟩
theorem bK:bX bE:=by
 have:=xG (c:=fun t=>t.k=1∧wV t.s=false) (v:=fun t=>(⟨t.s.toArray⟩:ByteArray)) (fun t h=>by rw[h.1];decide);intro l;have h:=this l
 match l with
 | []=>exact h
 | t::r=>exact h
theorem dK:bX gu:=by
 have:=xG (c:=fun t=>t.k=2) (v:=fun t=>t.n) (fun t h=>by rw[h];decide);intro l;have h:=this l
 match l with
 | []=>exact h
 | t::r=>exact h
theorem xH {α:Type} {el:Ps α}(h:bX el):∀f acc,bX (kJ el f acc)
 | 0,acc=>aY _
 | f+1,acc=>mr aU (p:=do let y ← el;kJ el f (acc++ [y])) (q:=pure acc) (aQ h fun y=>xH h f _) (aY _)
theorem jc {α:Type} {el:Ps α}(h:bX el):bX (gI el):=aQ h fun x=>yU (q:=fun l=>kJ el l.length [x]) fun l=>xH h _ _
theorem eO {α:Type} {c:Prop} [Decidable c] {p q:Ps α}(hp:bX p)(hq:bX q):bX (if c then p else q):=by
 split
 ·exact hp
 ·exact hq
def JP:Tr:=gH 0 []
theorem gw:∀ {ks:List (List UInt8×Int)} {l:fA} {o:Int},gU ks l=some o→∃s,(s,o)∈ks∧bQ s l=true
 | [],l,o,h=>by simp[gU] at h
 |(s,k)::ks,l,o,h=>by
  simp only[gU] at h;split at h
  ·rename_i hs;injection h with h;subst h;exact⟨s,List.mem_cons_self,hs⟩
  ·obtain⟨s',h1,h2⟩:=gw h;exact⟨s',List.mem_cons_of_mem _ h1,h2⟩
theorem oM {α:Type} {p:Ps α}(hp:bX p) {s:List UInt8} {l:fA}(h:bQ s l=true):match p l.tail with
 | .ok (_,r)=>r <:+ l∧(fT l→fT r)
 | .error n=>n≤l.length∧(fT l→0 < n):=by
 have:=mr s hp (q:=sk) kL l;simpa only[h,if_true] using this
theorem vA {below:Ps Tr}(hb:bX below)(lv:Nat):∀f x,bX (iJ below lv f x)
 | 0,x=>aY _
 | f+1,x=>by
   intro l;simp only[iJ];cases e:gU (opsL lv) l with
   | none=>exact aY x l
   | some o=>obtain⟨s,_,hs⟩:=gw e;exact oM (p:=do let y ← below;iJ below lv f (gH o [x,y])) (aQ hb fun y=>vA hb lv f _) hs
theorem mV {below:Ps Tr}(hb:bX below)(lv:Nat):bX (ly below lv):=aQ hb fun x=>yU (q:=fun l=>iJ below lv l.length x) fun l=>vA hb lv _ _
theorem GG {below:Ps Tr}(hb:bX below)(x:Tr):bX (sq below x):=by
 intro l;unfold sq;cases e:gU (opsL 3) l with
 | none=>exact aY x l
 | some o=>obtain⟨s,_,hs⟩:=gw e;exact oM (p:=do let y ← below;return gH o [x,y]) (aQ hb fun y=>aY _) hs
theorem JQ {below:Ps Tr}(hb:bX below):bX (GF below):=
 aQ hb fun x=>aQ (cI _) fun b=>eO (aQ (cI _) fun n=>aQ (aK _) fun _=>aY _) (GG hb x)
theorem EP {same below:Ps Tr}(s:List UInt8)(op:Int)(hs:bX same)(hb:bX below):bX (Df s op same below):=by
 refine aQ (cI _) fun b=>?_
 split
 ·exact aQ hs fun x=>aY _
 ·exact hb
theorem xI {whole:Ps Tr}(hw:bX whole)(op:Int):bX (oh whole op):=
 aQ (eO (aQ dK fun n=>aQ (aK _) fun _=>aY _) (aY _)) fun _=>aQ hw fun x=>
  aQ (eO (aQ (aK _) fun _=>aQ hw fun y=>aY _) (aY _)) fun _=>aQ (aK _) fun _=>aY _
theorem JR {whole:Ps Tr}(hw:bX whole)(op:Int):bX (iK whole op):=
 eO (aQ (cI _) fun b=>eO (aQ (aK _) fun _=>aY _) (xI hw _)) (xI hw op)
theorem Dh {whole:Ps Tr}(hw:bX whole):bX (vy whole):=by
 refine aQ bK fun n=>?_
 intro l;by_cases h:bQ cj l=true
 ·simp only[h,if_true];cases e:fB n with
  | none=>exact kL (α:=Tr) l
  | some op=>exact oM (JR hw op) h
 ·simp only[h];exact aY (jJ n) l
theorem GH {whole:Ps Tr}(hw:bX whole):bX (jU whole):=by
 intro l
 match l with
 | []=>exact⟨Nat.le_refl _,fun h=>h.pos⟩
 | t::r=>
   have one:∀(x:Tr),t.k≠0→r <:+ t::r∧(fT (t::r)→fT r):=fun x h=>⟨List.suffix_cons _ _,fun hl=>hl.tail h⟩
   simp only[jU];by_cases h1:t.k=2
   ·simp only[h1,if_true];exact one JP (by omega)
   by_cases h2:t.k=3
   ·simp only[h1,h2,if_true];exact one JP (by omega)
   by_cases h3:kW jK t=true
   ·simp only[h1,h2,h3,if_true];exact one JP (tC h3)
   by_cases h4:kW jn t=true
   ·simp only[h1,h2,h3,h4,if_true];exact one JP (tC h4)
   by_cases h5:kW fo t=true
   ·simp only[h1,h2,h3,h4,h5,if_true];exact one JP (tC h5)
   by_cases h6:kW cj t=true
   ·simp only[h1,h2,h3,h4,h5,h6,if_true];exact oM (l:=t::r) (s:=cj) (p:=do let x ← whole;must aN;return x) (aQ hw fun x=>aQ (aK _) fun _=>aY _) h6
   ·simp only[h1,h2,h3,h4,h5,h6,if_false];exact Dh hw (t::r)
theorem cC:∀f lv,bX (pE f lv)
 | 0,_=>kL
 | f+1,0=>mV (cC f 1) 0
 | f+1,1=>mV (cC f 2) 1
 | f+1,2=>EP _ _ (cC f 2) (cC f 3)
 | f+1,3=>JQ (cC f 4)
 | f+1,4=>mV (cC f 5) 4
 | f+1,5=>mV (cC f 6) 5
 | f+1,6=>EP _ _ (cC f 6) (cC f 7)
 | f+1,_+7=>GH (cC f 0)
theorem df (lv:Nat):bX (ar lv):=yU (q:=fun l=>pE (8*l.length+8 - lv) lv) fun l=>cC _ _
theorem fj:bX dE:=df 0
theorem fW:bX gJ:=by unfold gJ;repeat (first | exact aY _ | exact cI _ | exact aK _ | exact bK | exact dK | exact fV _ | exact fj | exact lB _ | apply eO | apply jc | refine aQ ?_ fun _=>?_)
theorem fX:bX fS:=by unfold fS;repeat (first | exact aY _ | exact cI _ | exact aK _ | exact bK | exact dK | exact fV _ | exact fj | exact lB _ | exact fW | apply eO | apply jc | refine aQ ?_ fun _=>?_)
theorem om:bX jb:=by unfold jb;repeat (first | exact aY _ | exact cI _ | exact aK _ | exact bK | exact dK | exact fV _ | exact fj | exact lB _ | exact fW | exact fX | exact tD | exact tE | exact rj | apply eO | apply jc | refine aQ ?_ fun _=>?_)
theorem rk:bX uv:=by unfold uv;repeat (first | exact aY _ | exact cI _ | exact aK _ | exact bK | exact dK | exact fV _ | exact fj | exact lB _ | exact fW | exact fX | exact tD | exact tE | exact rj | exact om | exact AU | apply eO | apply jc | refine aQ ?_ fun _=>?_)
theorem xJ:bX MV:=by unfold MV;repeat (first | exact aY _ | exact cI _ | exact aK _ | exact bK | exact dK | exact fV _ | exact fj | exact lB _ | exact fW | exact fX | exact tD | exact tE | exact rj | exact om | exact AU | exact rk | exact OT | exact OU | exact QN | exact Ss _ | exact Su | exact yV | exact Di | exact Sv | exact yX | exact Sw | exact yY | exact yZ | exact za | apply eO | apply jc | refine aQ ?_ fun _=>?_)
theorem ze (k:Int):bX (vz k):=by unfold vz;repeat (first | exact aY _ | exact cI _ | exact aK _ | exact bK | exact dK | exact fV _ | exact fj | exact xJ | apply eO | apply jc | refine aQ ?_ fun _=>?_)
def eA {α:Type}(m:Nat)(p q:Ps α):Prop:=∀l:fA,l.length≤m→p l=q l
theorem dg {α:Type}(m:Nat)(p:Ps α):eA m p p:=fun _ _=>rfl
theorem dh {α β:Type} {m:Nat} {p q:Ps α} {f g:α→Ps β}(h:eA m p q)(hp:bX p)(k:∀x,eA m (f x) (g x)):eA m (p >>= f) (q >>= g):=by
 intro l hl;rw[ee,ee,← h l hl];cases e:p l with
 | error n=>rfl
 | ok y=>obtain⟨x,r⟩:=y;exact k x r (by have:=hp.len e;omega)
theorem oN {α:Type} {m:Nat} {c:Prop} [Decidable c] {p q p' q':Ps α}(h:eA m p p')(k:eA m q q'):eA m (if c then p else q) (if c then p' else q'):=by
 split
 ·exact h
 ·exact k
theorem head_tail {s:List UInt8} {l:fA}(h:bQ s l=true):l.tail.length+1=l.length:=by obtain⟨t,r,rfl,_⟩:=fU h;rfl
theorem tF {m:Nat} {p q:Ps Tr}(h:eA m p q)(hp:bX p)(lv:Nat):∀f x,eA m (iJ p lv f x) (iJ q lv f x)
 | 0,x=>dg _ _
 | f+1,x=>by
   intro l hl;simp only[iJ];cases e:gU (opsL lv) l with
   | none=>rfl
   | some o=>obtain⟨s,_,hs⟩:=gw e;have:=head_tail hs;exact dh h hp (fun y=>tF h hp lv f _) l.tail (by omega)
theorem eT {m:Nat} {p q:Ps Tr}(h:eA m p q)(hp:bX p)(lv:Nat):eA m (ly p lv) (ly q lv):=dh h hp fun x l hl=>tF h hp lv _ _ l hl
theorem xK {m:Nat} {p q:Ps Tr}(h:eA m p q)(hp:bX p):eA m (GF p) (GF q):=by
 refine dh h hp fun x=>dh (dg _ _) (cI _) fun b=>oN (dg _ _) ?_
 intro l hl;unfold sq;cases e:gU (opsL 3) l with
 | none=>rfl
 | some o=>obtain⟨s,_,hs⟩:=gw e;have:=head_tail hs;exact dh h hp (fun y=>dg _ _) l.tail (by omega)
theorem Dj {α:Type} {m:Nat}(s:List UInt8) {p q p' q':Ps α}(h:eA m p p')(k:eA (m+1) q q'):eA (m+1) (fun l=>if bQ s l then p l.tail else q l) (fun l=>if bQ s l then p' l.tail else q' l):=by
 intro l hl;by_cases e:bQ s l=true
 ·have:=head_tail e;simp only[e,if_true];exact h l.tail (by omega)
 ·simp only[e];exact k l hl
theorem vB {α:Type}(s:List UInt8)(f:Bool→Ps α):(may s >>= f)=fun l=>if bQ s l then f true l.tail else f false l:=by
 funext l;rw[ee];unfold may;by_cases e:bQ s l=true
 ·simp only[e,if_true]
 ·simp only[e];rfl
theorem rp {m:Nat} {p q p' q':Ps Tr}(s:List UInt8)(op:Int)(h:eA m p p')(hp:bX p)(k:eA (m+1) q q'):eA (m+1) (Df s op p q) (Df s op p' q'):=by unfold Df;rw[vB,vB];exact Dj s (dh h hp fun x=>dg _ _) k
theorem vC {m:Nat} {p q:Ps Tr}(h:eA m p q)(hp:bX p)(op:Int):eA m (oh p op) (oh q op):=
 dh (dg _ _) (eO (aQ dK fun n=>aQ (aK _) fun _=>aY _) (aY _)) fun _=>dh h hp fun x=>
  dh (oN (dh (dg _ _) (aK _) fun _=>dh h hp fun y=>dg _ _) (dg _ _)) (eO (aQ (aK _) fun _=>aQ hp fun y=>aY _) (aY _)) fun _=>dg _ _
theorem GI {m:Nat} {p q:Ps Tr}(h:eA m p q)(hp:bX p)(op:Int):eA m (iK p op) (iK q op):=
 oN (dh (dg _ _) (cI _) fun b=>oN (dg _ _) (vC h hp _)) (vC h hp op)
theorem AZ {m:Nat} {p q:Ps Tr}(h:eA m p q)(hp:bX p):eA (m+1) (vy p) (vy q):=by
 refine dh (dg _ _) bK fun n=>?_
 intro l hl;by_cases e:bQ cj l=true
 ·have:=head_tail e;simp only[e,if_true];cases fB n with
  | none=>rfl
  | some op=>exact GI h hp op l.tail (by omega)
 ·simp only[e];rfl
theorem vD {m:Nat} {p q:Ps Tr}(h:eA m p q)(hp:bX p):eA (m+1) (jU p) (jU q):=by
 intro l hl
 match l with
 | []=>rfl
 | t::r=>have e1:(do let x ← p;must aN;return x:Ps Tr) r=(do let x ← q;must aN;return x:Ps Tr) r:=dh h hp (fun x=>dg _ _) r (by simp at hl;omega);have e2:=AZ h hp (t::r) hl;simp only[jU];rw[e1,e2]
theorem gB:∀(f g lv:Nat) (m:Nat),lv≤7→8*m+8 - lv≤f→8*m+8 - lv≤g→eA m (pE f lv) (pE g lv)
 | 0,_,_,_,_,h,_=>by omega
 | _,0,_,_,_,_,h=>by omega
 | f+1,g+1,0,m,_,hf,hg=>eT (gB f g 1 m (by omega) (by omega) (by omega)) (cC _ _) 0
 | f+1,g+1,1,m,_,hf,hg=>eT (gB f g 2 m (by omega) (by omega) (by omega)) (cC _ _) 1
 | f+1,g+1,2,0,_,hf,hg=>fun l hl=>by
   match l,hl with
   | [],_=>exact gB f g 3 0 (by omega) (by omega) (by omega) [] (Nat.le_refl _)
 | f+1,g+1,2,m+1,_,hf,hg=>rp _ _ (gB f g 2 m (by omega) (by omega) (by omega)) (cC _ _) (gB f g 3 (m+1) (by omega) (by omega) (by omega))
 | f+1,g+1,3,m,_,hf,hg=>xK (gB f g 4 m (by omega) (by omega) (by omega)) (cC _ _)
 | f+1,g+1,4,m,_,hf,hg=>eT (gB f g 5 m (by omega) (by omega) (by omega)) (cC _ _) 4
 | f+1,g+1,5,m,_,hf,hg=>eT (gB f g 6 m (by omega) (by omega) (by omega)) (cC _ _) 5
 | f+1,g+1,6,0,_,hf,hg=>fun l hl=>by
   match l,hl with
   | [],_=>exact gB f g 7 0 (by omega) (by omega) (by omega) [] (Nat.le_refl _)
 | f+1,g+1,6,m+1,_,hf,hg=>rp _ _ (gB f g 6 m (by omega) (by omega) (by omega)) (cC _ _) (gB f g 7 (m+1) (by omega) (by omega) (by omega))
 | f+1,g+1,7,0,_,hf,hg=>fun l hl=>by
   match l,hl with
   | [],_=>rfl
 | f+1,g+1,7,m+1,_,hf,hg=>vD (gB f g 0 m (by omega) (by omega) (by omega)) (cC _ _)
 | _+1,_+1,_+8,_,h,_,_=>by omega
theorem JV {f lv:Nat} {l:fA}(hlv:lv≤7)(h:8*l.length+8 - lv≤f):pE f lv l=ar lv l:=gB f _ lv l.length hlv h (Nat.le_refl _) l (Nat.le_refl _)
theorem dT {f lv m:Nat}(hlv:lv≤7)(h:8*m+8 - lv≤f):eA m (pE f lv) (ar lv):=fun l hl=>JV hlv (by omega)
theorem MW:ar 0=ly (ar 1) 0:=funext fun l=>eT (dT (f:=8*l.length+7) (m:=l.length) (by omega) (by omega)) (cC _ _) 0 l (Nat.le_refl _)
theorem MX:ar 1=ly (ar 2) 1:=funext fun l=>eT (dT (f:=8*l.length+6) (m:=l.length) (by omega) (by omega)) (cC _ _) 1 l (Nat.le_refl _)
theorem MZ:ar 2=Df ll 4 (ar 2) (ar 3):=funext fun l=>by
 match l with
 | []=>rfl
 | t::r=>exact rp ll 4 (dT (f:=8*(t::r).length+5) (m:=r.length) (by omega) (by simp only[List.length_cons];omega)) (cC _ _) (dT (m:=r.length+1) (by omega) (by simp only[List.length_cons];omega)) (t::r) (by simp)
theorem Na:ar 3=GF (ar 4):=funext fun l=>xK (dT (f:=8*l.length+4) (m:=l.length) (by omega) (by omega)) (cC _ _) l (Nat.le_refl _)
theorem Nb:ar 4=ly (ar 5) 4:=funext fun l=>eT (dT (f:=8*l.length+3) (m:=l.length) (by omega) (by omega)) (cC _ _) 4 l (Nat.le_refl _)
theorem Nc:ar 5=ly (ar 6) 5:=funext fun l=>eT (dT (f:=8*l.length+2) (m:=l.length) (by omega) (by omega)) (cC _ _) 5 l (Nat.le_refl _)
theorem Nd:ar 6=Df lu 3 (ar 6) (ar 7):=funext fun l=>by
 match l with
 | []=>rfl
 | t::r=>exact rp lu 3 (dT (f:=8*(t::r).length+1) (m:=r.length) (by omega) (by simp only[List.length_cons];omega)) (cC _ _) (dT (m:=r.length+1) (by omega) (by simp only[List.length_cons];omega)) (t::r) (by simp)
theorem mW:ar 7=jU (ar 0):=funext fun l=>by
 match l with
 | []=>rfl
 | t::r=>exact vD (dT (f:=8*(t::r).length) (m:=r.length) (by omega) (by simp only[List.length_cons];omega)) (cC _ _) (t::r) (by simp)
open Go.RowKit
theorem mJ (a:Addr)(n:Nat):(a.add n).block=a.block:=by unfold Addr.add;split <;> rfl
def Reads (w:World)(B size:Nat)(A:Option Addr)(n:Nat)(xs:List Value):Prop:=
 xs.length=n*size∧(0 < n→∃ad,A=some ad∧ad.block < B∧∀j u,xs[j]?=some u→w.cell? (ad.add j)=some u)
section
variable {w w':World} {B B' size n:Nat} {A:Option Addr} {xs:List Value}
theorem Reads.none_:Reads w B size A 0 []:=⟨by simp,fun h=>absurd h (by omega)⟩
theorem Reads.keep (h:Reads w B size A n xs)(hk:∀p:Addr,p.block < B→w'.cell? p=w.cell? p):Reads w' B size A n xs:=
 ⟨h.1,fun hn=>by
   obtain⟨ad,e,hb,hc⟩:=h.2 hn
   exact⟨ad,e,hb,fun j u hu=>(hk _ (by rw[mJ];exact hb)).trans (hc j u hu)⟩⟩
theorem Reads.more (h:Reads w B size A n xs)(hB:B≤B'):Reads w B' size A n xs:=
 ⟨h.1,fun hn=>by
   obtain⟨ad,e,hb,hc⟩:=h.2 hn
   exact⟨ad,e,by omega,hc⟩⟩
theorem Reads.below (h:Reads w B size A n xs)(hb:Below B w w'):Reads w' B size A n xs:=h.keep fun _ hp=>hb.cell hp
theorem Reads.Cu {base:Nat} {e:TypeId} {c:Nat}(h:w.ownsRow base e size (.slice A n c) n xs):Reads w w.heap.size size A n xs:=by
 refine⟨h.1,fun hn=>?_⟩;obtain⟨g,cap,hv,_,hlt⟩:=h.form hn;have hA:A=some ⟨g,0,none⟩:=by injection hv
 subst hA;exact⟨_,rfl,hlt,h.cells (g:=g) rfl⟩
end
section
variable {P:Program} (w:World)
theorem iz (base:Nat)(t ty e:TypeId)(i:TypeInfo)(size:Nat)(ht:P.underlying t=some (.slice e))(hi:P.info? e=some i)
  (v:Value) (n:Nat) (xs:List Value) (hown:w.ownsRow base e size v n xs) (c:Nat):(Builtin.append_ #[t,t] ty #[v,.slice none 0 c]).run P w=.ok v w:=by
 rcases hown.2 with ⟨rfl,rfl⟩|⟨g,cap,cur,rfl,_,_,Wj,_⟩
 ·simp[Builtin.append_,run_underlying ht,sizeOf,typeInfo,hi,Builtin.lenOf,Builtin.firstCells]
 ·simp[Builtin.append_,run_underlying ht,sizeOf,typeInfo,hi,Builtin.lenOf,Builtin.firstCells,Wj,storeCells]
theorem fL (base:Nat)(t ty e:TypeId)(i:TypeInfo)(z:Value)(size bytes:Nat)(ht:P.underlying t=some (.slice e))(hi:P.info? e=some i)(hz:i.zero=some z)
  (hsize:i.size=size) (hby:i.bytes=bytes) (hzs:z.cells.size=size) (hsz:0 < size)
  (v:Value) (n:Nat) (xs:List Value) (hown:w.ownsRow base e size v n xs)
  (B:Nat) (A:Option Addr) (m c:Nat) (news:List Value) (hr:Reads w B size A m news) (h1:∀u∈news,u.oneCell'=true)
  (h63:n+m≤maxLen) (hbytes:(n+m)*bytes≤140737488355328) (hbase:base≤w.heap.size):
  ∃v' w',(Builtin.append_ #[t,t] ty #[v,.slice A m c]).run P w=.ok v' w'∧w'.ownsRow base e size v' (n+m) (xs++news)∧w.grownBy w' v.ownBlock∧
   (v'.ownBlock=v.ownBlock∨v'.ownBlock=some w.heap.size):=by
 rcases A with _ | ad
 ·have hm:m=0:=by
   rcases Nat.eq_zero_or_pos m with h0 | h0
   ·exact h0
   ·obtain⟨ad,h,_⟩:=hr.2 h0;cases h
  subst hm;have hn:news=[]:=List.eq_nil_of_length_eq_zero (by simpa using hr.1);subst hn;exact⟨v,w,iz w base t ty e i size ht hi v n xs hown c,by simpa using hown,World.grownBy.refl w _,.inl rfl⟩
 ·have rL:∀j u,news[j]?=some u→w.cell? (ad.add j)=some u:=by
   intro j u hu;rcases Nat.eq_zero_or_pos m with h0 | h0
   ·subst h0;have hn:news=[]:=List.eq_nil_of_length_eq_zero (by simpa using hr.1);subst hn;simp at hu
   ·obtain⟨G6,h,_,hc⟩:=hr.2 h0;injection h with h;subst h;exact hc j u hu
  obtain⟨v',w',hrun,h2,h3,_,h5⟩:=run_append_own_at (P:=P) w base t ty e i z size bytes ht hi hz hsize hby hzs hsz v n xs hown ad m c news hr.1 rL h1 h63 hbytes hbase;exact⟨v',w',hrun,h2,h3,h5⟩
theorem lM {o:Oper} {a:Act} {K:Act→World→Prop} {Q:Exit→Act→World→Prop}(s x:Operand)(t:TypeId)
  (ho:o.op=.call { callee:=.builtin .append,args:= #[s,x],argTypes:= #[t,t] })
  (base:Nat) (e:TypeId) (i:TypeInfo) (z:Value) (size bytes:Nat) (ht:P.underlying t=some (.slice e)) (hi:P.info? e=some i) (hz:i.zero=some z)
  (hsize:i.size=size) (hby:i.bytes=bytes) (hzs:z.cells.size=size) (hsz:0 < size)
  (v:Value) (n:Nat) (xs:List Value) (hs:a.eval s=v) (hown:w.ownsRow base e size v n xs)
  (B:Nat) (A:Option Addr) (m c:Nat) (news:List Value) (hx:a.eval x=.slice A m c) (hr:Reads w B size A m news) (h1:∀u∈news,u.oneCell'=true)
  (h63:n+m≤maxLen) (hbytes:(n+m)*bytes≤140737488355328) (hbase:base≤w.heap.size)
  (h:∀v' w',w'.ownsRow base e size v' (n+m) (xs++news)→w.grownBy w' v.ownBlock→(v'.ownBlock=v.ownBlock∨v'.ownBlock=some w.heap.size)→K (a.put o.dst v') w'):o.wp P a w K Q:=by
 obtain⟨v',w',hrun,h2,h3,h4⟩:=fL (P:=P) w base t o.type e i z size bytes ht hi hz hsize hby hzs hsz v n xs hown B A m c news hr h1 h63 hbytes hbase;unfold Oper.wp execOp;simp only[ho,resolve,invoke,builtin,Sem.run_bind,Sem.run_pure,Result.andThen_ok,List.map_toArray,List.map_cons,List.map_nil,hs,hx,hrun];exact h v' w' h2 h3 h4
theorem eu {ops:Array Oper} {rest:List Oper} {o:Oper} {a:Act} {Q:Exit→Act→World→Prop}(hgd:o.guard=none)(s x:Operand)(t:TypeId)
  (ho:o.op=.call { callee:=.builtin .append,args:= #[s,x],argTypes:= #[t,t] })
  (base:Nat) (e:TypeId) (i:TypeInfo) (z:Value) (size bytes:Nat) (ht:P.underlying t=some (.slice e)) (hi:P.info? e=some i) (hz:i.zero=some z)
  (hsize:i.size=size) (hby:i.bytes=bytes) (hzs:z.cells.size=size) (hsz:0 < size)
  (v:Value) (n:Nat) (xs:List Value) (hs:a.eval s=v) (hown:w.ownsRow base e size v n xs)
  (B:Nat) (A:Option Addr) (m c:Nat) (news:List Value) (hx:a.eval x=.slice A m c) (hr:Reads w B size A m news) (h1:∀u∈news,u.oneCell'=true)
  (h63:n+m≤maxLen) (hbytes:(n+m)*bytes≤140737488355328) (hbase:base≤w.heap.size)
  (h:∀v' w',w'.ownsRow base e size v' (n+m) (xs++news)→w.grownBy w' v.ownBlock→(v'.ownBlock=v.ownBlock∨v'.ownBlock=some w.heap.size)→wpList P ops Q rest (a.put o.dst v') w'):wpList P ops Q (o::rest) a w:=
 wpList_plain hgd fun _ hK=>lM w s x t ho base e i z size bytes ht hi hz hsize hby hzs hsz v n xs hs hown B A m c news hx hr h1 h63 hbytes hbase fun v' w' h2 h3 h4=>hK _ _ (h v' w' h2 h3 h4)
end
end Go.Proofs.YtfmbcoeallmnnaaGreatDoor.R
