/- Parts of the proof. -/
import Derived.WalkKit
import Derived.Deep.AppendLies
import Derived.Deep.Draws
namespace Go.Proofs.YtfmbcoeallmnnaaGreatDoor.R
set_option linter.unusedSimpArgs false
set_option linter.unusedVariables false
def fL (c:UInt8):Bool:=(decide (97≤c)&& decide (c≤122))||(decide (65≤c)&& decide (c≤90))|| c==95
def bH (c:UInt8):Bool:=decide (48≤c)&& decide (c≤57)
def eO (c:UInt8):Bool:=fL c || bH c
def oZ (c:UInt8):Bool:=c==32 || c==9 || c==10 || c==13
def Bq (c:UInt8):Bool:=decide (65≤c)&& decide (c≤90)
def sR (c:UInt8):UInt8:=if Bq c then c+32 else c
def cD:Bool→List UInt8→List UInt8
 | _,[]=> []
 | true,c::r=>if c=10 then cD false r else cD true r
 | false,c::r=>if oZ c then cD false r else if c=45∧r.head?=some 45 then cD true r else c::r
def kM (l:List UInt8):Nat:=l.foldl (fun v c=>v*10+(c.toNat - 48)) 0
def sS (l:List UInt8):Bool:=(decide (l.length≤1)|| !(l.head?==some 48))&& decide (kM l≤9223372036854775807)
def fM:List UInt8→Option (List UInt8×List UInt8)
 | []=>none
 | [c]=>if c=39 then some ([],[])else none
 | c::d::r=>if c=39 then(if d=39 then(fM r).map fun x=>(39::x.1,x.2)else some ([],d::r))else(fM (d::r)).map fun x=>(c::x.1,x.2)
def signs:List (List UInt8):=[[60,62],[60,61],[62,61],[40],[41],[44],[42],[43],[45],[47],[37],[61],[60],[62],[59]]
def kp:List (List UInt8)→List UInt8→Option (List UInt8)
 | [],_=>none
 | s::l,r=>if s.isPrefixOf r then some s else kp l r
structure Wd where
 k:Nat
 s:List UInt8
 n:Int
deriving DecidableEq
structure Tok where
 w:Wd
 p:Nat
deriving DecidableEq
def iw:List UInt8→Except Nat (Wd×List UInt8)
 | []=> .error 30
 | c::r=>
   if fL c then(if ((c::r).takeWhile eO).length≤32 then .ok (⟨1,((c::r).takeWhile eO).map sR,0⟩,(c::r).dropWhile eO)else .error 2)
   else if bH c then(if sS ((c::r).takeWhile bH)&& !(((c::r).dropWhile bH).head?.any fL)then .ok (⟨2,[],kM ((c::r).takeWhile bH)⟩,(c::r).dropWhile bH)else .error 30)
   else if c=39 then(match fM r with
    | some (t,rest)=> .ok (⟨3,t,0⟩,rest)
    | none=> .error 30)
   else match kp signs (c::r)with
    | some s=> .ok (⟨4,s,0⟩,(c::r).drop s.length)
    | none=> .error 30
def tY (n:Nat):Nat→List UInt8→Except (Nat×Nat) (List Tok)
 | 0,_=> .error (0,30)
 | f+1,r=>match cD false r with
   | []=> .ok [⟨⟨0,[],0⟩,n⟩]
   | c::r'=>match iw (c::r')with
     | .error e=> .error (n - (c::r').length,e)
     | .ok (w,rest)=>match tY n f rest with
       | .error e=> .error e
       | .ok l=> .ok (⟨w,n - (c::r').length⟩::l)
def ru (s:List UInt8):Except (Nat×Nat) (List Tok):=if 4096 < s.length then .error (0,2)else tY s.length (s.length+1) s
def lB:List (List UInt8):=[[97,110,100],[97,115],[98,121],[99,97,108,108],[99,114,101,97,116,101],[100,101,108,101,116,101],[100,101,115,99],[100,114,111,112],[102,97,108,115,101],[102,114,111,109],[103,114,111,117,112],[104,97,118,105,110,103],[105,110,115,101,114,116],[105,110,116,111],[105,115],[108,105,109,105,116],[110,111,116],[110,117,108,108],[111,110,108,121],[111,114],[111,114,100,101,114],[115,101,108,101,99,116],[115,101,116],[116,114,117,101],[117,112,100,97,116,101],[118,97,108,117,101,115],[119,104,101,114,101]]
def zh (s:List UInt8):Bool:=lB.contains s
theorem jZ:∀(b:Bool) (r:List UInt8),(cD b r).length≤r.length
 | _,[]=>by simp[cD]
 | true,c::r=>by have h1:=jZ false r;have h2:=jZ true r;simp only[cD];split <;> simp only[List.length_cons] <;> omega
 | false,c::r=>by
   have h1:=jZ false r;have h2:=jZ true r;simp only[cD];split
   ·simp only[List.length_cons];omega
   ·split <;> simp only[List.length_cons] <;> omega
theorem pc:∀(r:List UInt8) (t rest:List UInt8),fM r=some (t,rest)→∃b,r=b++rest∧b≠ []
 | [],t,rest,h=>by simp[fM] at h
 | [c],t,rest,h=>by
   simp only[fM] at h;split at h
   ·rename_i hc;injection h with h;injection h with h1 h2;subst h1 h2 hc;exact⟨[39],rfl,by simp⟩
   ·cases h
 | c::d::r,t,rest,h=>by
   simp only[fM] at h;split at h
   ·rename_i hc;subst hc;split at h
    ·rename_i hd;subst hd;cases hr:fM r with
     | none=>rw[hr] at h;cases h
     | some x=>obtain⟨t',rest'⟩:=x;rw[hr] at h;simp only[Option.map_some,Option.some.injEq,Prod.mk.injEq] at h;obtain⟨rfl,rfl⟩:=h;obtain⟨b,hb,_⟩:=pc r t' _ hr;exact⟨39::39::b,by rw[hb];rfl,by simp⟩
    ·injection h with h;injection h with h1 h2;subst h1 h2;exact⟨[39],rfl,by simp⟩
   ·cases hr:fM (d::r)with
    | none=>rw[hr] at h;cases h
    | some x=>obtain⟨t',rest'⟩:=x;rw[hr] at h;simp only[Option.map_some,Option.some.injEq,Prod.mk.injEq] at h;obtain⟨rfl,rfl⟩:=h;obtain⟨b,hb,_⟩:=pc (d::r) t' _ hr;exact⟨c::b,by rw[hb];rfl,by simp⟩
theorem pd:∀ {l:List (List UInt8)} {r s:List UInt8},kp l r=some s→s∈l∧s <+: r
 | [],r,s,h=>by simp[kp] at h
 | x::l,r,s,h=>by
   simp only[kp] at h;split at h
   ·rename_i hp;injection h with h;subst h;exact⟨List.mem_cons_self,by simpa using hp⟩
   ·obtain⟨h1,h2⟩:=pd h;exact⟨List.mem_cons_of_mem _ h1,h2⟩
theorem xA {r rest:List UInt8} {w:Wd}(h:iw r=.ok (w,rest)):∃b,r=b++rest∧b≠ []:=by
 match r with
 | []=>simp[iw] at h
 | c::r=>
   simp only[iw] at h;split at h
   ·rename_i hc;split at h
    ·injection h with h;injection h with h1 h2;subst h1 h2;refine⟨_,(List.takeWhile_append_dropWhile (p:=eO)).symm,?_⟩;have:eO c=true:=by simp[eO,hc]
     simp[List.takeWhile_cons,this]
    ·cases h
   ·split at h
    ·rename_i hc;split at h
     ·injection h with h;injection h with h1 h2;subst h1 h2;refine⟨_,(List.takeWhile_append_dropWhile (p:=bH)).symm,?_⟩;simp[List.takeWhile_cons,hc]
     ·cases h
    ·split at h
     ·split at h
      ·rename_i t rest' ht;injection h with h;injection h with h1 h2;subst h1 h2;obtain⟨b,hb,_⟩:=pc _ _ _ ht;exact⟨c::b,by rw[hb];rfl,by simp⟩
      ·cases h
     ·split at h
      ·rename_i s hs;injection h with h;injection h with h1 h2;subst h1 h2;obtain⟨h1,t,h2⟩:=pd hs;refine⟨s,?_,?_⟩
       ·rw[← h2];simp
       ·intro e;subst e;revert h1;decide
      ·cases h
theorem vM {r rest:List UInt8} {w:Wd}(h:iw r=.ok (w,rest)):rest.length < r.length:=by obtain⟨b,rfl,hb⟩:=xA h;have:0 < b.length:=List.length_pos_iff.2 hb;simp;omega
theorem Ac (n:Nat):∀(f g:Nat) (r:List UInt8),r.length < f→r.length < g→tY n f r=tY n g r
 | 0,_,_,h,_=>by omega
 | _,0,_,_,h=>by omega
 | f+1,g+1,r,hf,hg=>by
   have hs:=jZ false r;simp only[tY];cases hk:cD false r with
   | nil=>rfl
   | cons c r'=>
     rw[hk] at hs;simp only;cases ho:iw (c::r')with
     | error e=>rfl
     | ok x=>obtain⟨w,rest⟩:=x;have:=vM ho;simp only;rw[Ac n f g rest (by omega) (by omega)]
structure Val where
 k:Int
 n:Int
 s:ByteArray
inductive Tr where
 | mk (op:Int) (v:Val) (name:ByteArray) (width:Int) (args:List Tr)
def fu:Val:=⟨0,0,ByteArray.empty⟩
def gZ (op:Int)(l:List Tr):Tr:=.mk op fu ByteArray.empty 0 l
def iH (v:Val):Tr:=.mk 1 v ByteArray.empty 0 []
def eF (n:ByteArray):Tr:=.mk 2 fu n 0 []
def Vo:List UInt8:=[111,114]
def Nx:List UInt8:=[97,110,100]
def lY:List UInt8:=[110,111,116]
def qp:List UInt8:=[105,115]
def fG:List UInt8:=[110,117,108,108]
def kq:List UInt8:=[116,114,117,101]
def jL:List UInt8:=[102,97,108,115,101]
def dp:List UInt8:=[115,101,108,101,99,116]
def nK:List UInt8:=[102,114,111,109]
def pg:List UInt8:=[111,110,108,121]
def nL:List UInt8:=[119,104,101,114,101]
def jM:List UInt8:=[103,114,111,117,112]
def xB:List UInt8:=[98,121]
def pj:List UInt8:=[104,97,118,105,110,103]
def jN:List UInt8:=[111,114,100,101,114]
def lZ:List UInt8:=[108,105,109,105,116]
def rv:List UInt8:=[100,101,115,99]
def xC:List UInt8:=[97,115]
def pk:List UInt8:=[99,114,101,97,116,101]
def xD:List UInt8:=[100,114,111,112]
def xE:List UInt8:=[105,110,115,101,114,116]
def xF:List UInt8:=[117,112,100,97,116,101]
def xG:List UInt8:=[100,101,108,101,116,101]
def Gg:List UInt8:=[99,97,108,108]
def vN:List UInt8:=[116,97,98,108,101]
def Br:List UInt8:=[118,105,101,119]
def Tf:List UInt8:=[106,111,98]
def Tg:List UInt8:=[105,110,116]
def Ny:List UInt8:=[98,111,111,108]
def Vp:List UInt8:=[116,101,120,116]
def Nz:List UInt8:=[116,105,109,101]
def vO:List UInt8:=[101,118,101,114,121]
def IC:List UInt8:=[115,112,97,99,101]
def Gh:List UInt8:=[105,110,116,111]
def iQ:List UInt8:=[114,101,102,114,101,115,104]
def jz:List UInt8:=[99,111,109,112,114,101,115,115]
def sT:List UInt8:=[100,101,99,111,109,112,114,101,115,115]
def zi:List UInt8:=[100,114,111,112,95,99,104,117,110,107,115]
def YW:List UInt8:=[116,111]
def ID:List UInt8:=[97,102,116,101,114]
def NA:List UInt8:=[118,97,108,117,101,115]
def YX:List UInt8:=[115,101,116]
def Dy:List UInt8:=[98,117,99,107,101,116]
def IE:List UInt8:=[99,111,117,110,116]
def Th:List UInt8:=[115,117,109]
def Ti:List UInt8:=[109,105,110]
def Tj:List UInt8:=[109,97,120]
def Tk:List UInt8:=[97,118,103]
def IG:List UInt8:=[102,105,114,115,116]
def NC:List UInt8:=[108,97,115,116]
def aX:List UInt8:=[44]
def cp:List UInt8:=[40]
def aP:List UInt8:=[41]
def ry:List UInt8:=[59]
def ek:List UInt8:=[42]
def ma:List UInt8:=[45]
def Gi:List UInt8:=[43]
def Bt:List UInt8:=[47]
def tZ:List UInt8:=[37]
def Vq:List UInt8:=[61]
def YY:List UInt8:=[60,62]
def YZ:List UInt8:=[60]
def Za:List UInt8:=[60,61]
def Zb:List UInt8:=[62]
def Zc:List UInt8:=[62,61]
structure Qu where
 items:List (Tr×ByteArray):=[]
 cy:ByteArray:=ByteArray.empty
 only:Bool:=false
 cf:List Tr:=[]
 group:List Tr:=[]
 having:List Tr:=[]
 order:List (Tr×Bool):=[]
 bU:List Int:=[]
structure St where
 kind:Int:=0
 name:ByteArray:=ByteArray.empty
 cols:List (ByteArray×Int):=[]
 time:ByteArray:=ByteArray.empty
 every:Int:=0
 space:ByteArray:=ByteArray.empty
 parts:Int:=0
 query:Qu:= {}
 what:Int:=0
 Fg:ByteArray:=ByteArray.empty
 a:Int:=0
 b:Int:=0
 rows:List (List Tr):=[]
 jf:List (ByteArray×Tr):=[]
 cf:List Tr:=[]
 cy:Val:=fu
 Tl:Val:=fu
abbrev fN:=List Wd
def Ps (α:Type):Type:=fN→Except Nat (α×fN)
instance:Monad Ps where
 pure x:=fun l=> .ok (x,l)
 bind p f:=fun l=>match p l with
  | .error n=> .error n
  | .ok (x,r)=>f x r
def lR (s:List UInt8)(t:Wd):Bool:=(t.k==1 || t.k==4)&& t.s==s
def bV (s:List UInt8):fN→Bool
 | []=>false
 | t::_=>lR s t
def ua {α:Type}:Ps α:=fun l=> .error l.length
def may (s:List UInt8):Ps Bool:=fun l=>if bV s l then .ok (true,l.tail)else .ok (false,l)
def must (s:List UInt8):Ps Unit:=fun l=>if bV s l then .ok ((),l.tail)else .error l.length
def sU:List (List UInt8)→Ps (List UInt8)
 | []=>ua
 | s::ks=>fun l=>if bV s l then .ok (s,l.tail)else sU ks l
def bL:Ps ByteArray
 | []=> .error 0
 | t::r=>if t.k=1∧zh t.s=false then .ok (⟨t.s.toArray⟩,r)else .error (t::r).length
def gQ:Ps Int
 | []=> .error 0
 | t::r=>if t.k=2 then .ok (t.n,r)else .error (t::r).length
def lC {α:Type}(el:Ps α):Nat→List α→Ps (List α)
 | 0,acc=>pure acc
 | f+1,acc=>fun l=>if bV aX l then(do let y ← el;lC el f (acc++ [y])) l.tail else .ok (acc,l)
def ic {α:Type}(el:Ps α):Ps (List α):=do
 let x ← el
 fun l=>lC el l.length [x] l
def opsL:Nat→List (List UInt8×Int)
 | 0=> [(Vo,17)]
 | 1=> [(Nx,16)]
 | 3=> [(Vq,10),(YY,11),(YZ,12),(Za,13),(Zb,14),(Zc,15)]
 | 4=> [(Gi,5),(ma,6)]
 | 5=> [(ek,7),(Bt,8),(tZ,9)]
 | _=> []
def ix:List (List UInt8×Int)→fN→Option Int
 | [],_=>none
 |(s,o)::k,l=>if bV s l then some o else ix k l
def jg (below:Ps Tr)(lv:Nat):Nat→Tr→Ps Tr
 | 0,x=>pure x
 | f+1,x=>fun l=>match ix (opsL lv) l with
   | none=> .ok (x,l)
   | some o=>(do let y ← below;jg below lv f (gZ o [x,y])) l.tail
def mb (below:Ps Tr)(lv:Nat):Ps Tr:=do
 let x ← below
 fun l=>jg below lv l.length x l
def ub (below:Ps Tr)(x:Tr):Ps Tr:=fun l=>match ix (opsL 3) l with
 | none=> .ok (x,l)
 | some o=>(do let y ← below;return gZ o [x,y]) l.tail
def KM (below:Ps Tr):Ps Tr:=do
 let x ← below
 if ← may qp then
  let n ← may lY
  must fG
  return gZ (if n then 19 else 18) [x]
 else ub below x
def Gj (s:List UInt8)(op:Int)(same below:Ps Tr):Ps Tr:=do
 if ← may s then
  let x ← same
  return gZ op [x]
 else below
def Dz:List (List UInt8×Int):=[(Dy,20),(IE,22),(Th,23),(Ti,24),(Tj,25),(Tk,26),(IG,27),(NC,28)]
def fO (n:ByteArray):Option Int:=Dz.lookup n.data.toList
def my (op:Int):Ps Int:=
 if op=20 then(do
  let n ← gQ
  must aX
  return n)else pure 0
def jO (whole:Ps Tr)(op:Int):Ps (List Tr):=
 if op=27∨op=28 then(do
  must aX
  let y ← whole
  return [y])else pure []
def pn (whole:Ps Tr)(op:Int):Ps Tr:=do
 let width ← my op
 let x ← whole
 let ys ← jO whole op
 must aP
 return .mk op fu ByteArray.empty width (x::ys)
def countP (whole:Ps Tr):Ps Tr:=do
 if ← may ek then
  must aP
  return gZ 21 []
 else pn whole 22
def jh (whole:Ps Tr)(op:Int):Ps Tr:=if op=22 then countP whole else pn whole op
def xH (whole:Ps Tr):Ps Tr:=do
 let n ← bL
 fun l=>if bV cp l then(match fO n with
  | none=> .error l.length
  | some op=>jh whole op l.tail)else .ok (eF n,l)
def kF (whole:Ps Tr):Ps Tr:=fun l=>
 match l with
 | []=> .error 0
 | t::r=>
   if t.k=2 then .ok (iH ⟨2,t.n,ByteArray.empty⟩,r)
   else if t.k=3 then .ok (iH ⟨3,0,⟨t.s.toArray⟩⟩,r)
   else if lR kq t then .ok (iH ⟨1,1,ByteArray.empty⟩,r)
   else if lR jL t then .ok (iH ⟨1,0,ByteArray.empty⟩,r)
   else if lR fG t then .ok (iH fu,r)
   else if lR cp t then(do let x ← whole;must aP;return x) r
   else xH whole (t::r)
def pE:Nat→Nat→Ps Tr
 | 0,_=>ua
 | f+1,0=>mb (pE f 1) 0
 | f+1,1=>mb (pE f 2) 1
 | f+1,2=>Gj lY 4 (pE f 2) (pE f 3)
 | f+1,3=>KM (pE f 4)
 | f+1,4=>mb (pE f 5) 4
 | f+1,5=>mb (pE f 6) 5
 | f+1,6=>Gj ma 3 (pE f 6) (pE f 7)
 | f+1,_=>kF (pE f 0)
def aq (lv:Nat):Ps Tr:=fun l=>pE (8*l.length+8 - lv) lv l
def dL:Ps Tr:=aq 0
def dI (s:List UInt8):Ps (List Tr):=do
 if ← may s then
  let x ← dL
  return [x]
 else return []
def ie:Ps (Tr×ByteArray):=do
 let x ← dL
 if ← may xC then
  let n ← bL
  return (x,n)
 else return (x,ByteArray.empty)
def gB:Ps (Tr×Bool):=do
 let x ← dL
 let d ← may rv
 return (x,d)
def mz:Ps (List (Tr×ByteArray)):=do
 if ← may ek then
  return []
 else ic ie
def kr:Ps (List Tr):=do
 if ← may jM then
  must xB
  ic dL
 else return []
def iB:Ps (List (Tr×Bool)):=do
 if ← may jN then
  must xB
  ic gB
 else return []
def jA:Ps (List Int):=do
 if ← may lZ then
  let n ← gQ
  return [n]
 else return []
def lD:Ps Qu:=do
 must dp
 let items ← mz
 must nK
 let only ← may pg
 let cy ← bL
 let cf ← dI nL
 let group ← kr
 let having ← dI pj
 let order ← iB
 let bU ← jA
 return { items,cy,only,cf,group,having,order,bU }
def typeOf (s:List UInt8):Int:=if s=Tg then 2 else if s=Ny then 1 else 3
def vP:Ps (ByteArray×Int):=do
 let n ← bL
 let t ← sU [Tg,Ny,Vp]
 return (n,typeOf t)
def Gk:Ps (ByteArray×Int):=do
 if ← may IC then
  let s ← bL
  must Gh
  let n ← gQ
  return (s,n)
 else return (ByteArray.empty,0)
def Bu:Ps St:=do
 let name ← bL
 must cp
 let cols ← ic vP
 must aP
 must Nz
 let time ← bL
 must vO
 let every ← gQ
 let sp ← Gk
 return { kind:=1,name,cols,time,every,space:=sp.1,parts:=sp.2 }
def Tm:Ps St:=do
 let name ← bL
 must xC
 let query ← lD
 return { kind:=2,name,query }
def Tn (s:List UInt8):Ps (Int×Int):=do
 if s=iQ then
  must nK
  let a ← gQ
  must YW
  let b ← gQ
  return (a,b)
 else
  must ID
  let a ← gQ
  return (a,0)
def Rj:Ps St:=do
 let name ← bL
 let s ← sU [iQ,jz,xD]
 let Fg ← bL
 let ab ← Tn s
 must vO
 let every ← gQ
 return { kind:=3,name,what:=if s=iQ then 9 else if s=jz then 10 else 12,Fg,a:=ab.1,b:=ab.2,every }
def Bv:Ps St:=do
 let s ← sU [vN,Br,Tf]
 if s=vN then Bu else if s=Br then Tm else Rj
def Tp:Ps St:=do
 let s ← sU [vN,Br,Tf]
 let name ← bL
 return { kind:=4,what:=if s=vN then 1 else if s=Br then 2 else 3,name }
def Zd:Ps (List Tr):=do
 must cp
 let l ← ic dL
 must aP
 return l
def II:Ps St:=do
 must Gh
 let name ← bL
 must NA
 let rows ← ic Zd
 return { kind:=5,name,rows }
def Ze:Ps (ByteArray×Tr):=do
 let n ← bL
 must Vq
 let x ← dL
 return (n,x)
def IJ:Ps St:=do
 let name ← bL
 must YX
 let jf ← ic Ze
 let cf ← dI nL
 return { kind:=6,name,jf,cf }
def IK:Ps St:=do
 must nK
 let name ← bL
 let cf ← dI nL
 return { kind:=7,name,cf }
def Bw:Ps St:=do
 let query ← lD
 return { kind:=8,query }
def Rk:Ps Val:=do
 if ← may fG then
  return fu
 else
  let less ← may ma
  let n ← gQ
  return ⟨2,if less then -n else n,ByteArray.empty⟩
def xI (k:Int):Ps Val:=do
 if k=9 then
  let v ← Rk
  must aX
  return v
 else return fu
def Tq:Ps St:=do
 let s ← sU [iQ,jz,sT,zi]
 let kind:Int:=if s=iQ then 9 else if s=jz then 10 else if s=sT then 11 else 12
 must cp
 let name ← bL
 must aX
 let cy ← xI kind
 let Tl ← Rk
 must aP
 return { kind,name,cy,Tl }
def cM:Ps St:=fun l=>
 match l with
 | []=> .error 0
 | t::r=>
   if¬t.k=1 then .error (t::r).length
   else if t.s=dp then Bw (t::r)
   else if t.s=pk then Bv r
   else if t.s=xD then Tp r
   else if t.s=xE then II r
   else if t.s=xF then IJ r
   else if t.s=xG then IK r
   else if t.s=Gg then Tq r
   else .error (t::r).length
def DA:Ps Unit
 | []=> .error 0
 | t::r=>if t.k=0 then .ok ((),t::r)else .error (t::r).length
def rA:Ps St:=do
 let s ← cM
 let _ ← may ry
 DA
 return s
mutual
def Tr.depth:Tr→Nat
 | .mk _ _ _ _ args=>Tr.il args+1
def Tr.il:List Tr→Nat
 | []=>0
 | t::l=>max t.depth (Tr.il l)
end
def Qu.exprs (q:Qu):List Tr:=q.items.map (·.1)++q.cf++q.group++q.having++q.order.map (·.1)
def St.exprs (s:St):List Tr:=s.rows.flatten++s.jf.map (·.2)++s.cf++s.query.exprs
def DB (l:List Tr):Bool:=l.any fun t=>decide (32 < t.depth)
def Qu.long (q:Qu):Bool:=decide (64 < q.items.length)|| decide (64 < q.group.length)|| decide (64 < q.order.length)
def St.long (s:St):Bool:=decide (64 < s.cols.length)|| decide (64 < s.rows.length)|| s.rows.any (fun r=>decide (64 < r.length))|| decide (64 < s.jf.length)|| s.query.long
def nM (s:List UInt8):Except (Nat×Nat) St:=
 match ru s with
 | .error x=> .error x
 | .ok l=>match rA (l.map (·.w))with
   | .error n=> .error (((l[l.length - n]?).map (·.p)).getD 0,31)
   | .ok (t,_)=>if t.long then .error (0,2)else if DB t.exprs then .error (0,32)else .ok t
theorem ep {α β:Type}(p:Ps α)(f:α→Ps β)(l:fN):(p >>= f) l=match p l with | .error n=> .error n | .ok (x,r)=>f x r:=rfl
def gC (l:fN):Prop:=∃x e,l=x++ [e]∧e.k=0
theorem gC.tail {t:Wd} {r:fN}(h:gC (t::r))(ht:t.k≠0):gC r:=by
 obtain⟨x,e,hx,he⟩:=h
 match x with
 | []=>simp at hx;exact absurd (hx.1▸he) ht
 | y::x=>simp at hx;exact⟨x,e,hx.2,he⟩
theorem gC.pos {l:fN}(h:gC l):0 < l.length:=by obtain⟨x,e,rfl,_⟩:=h;simp
theorem uS {s:List UInt8} {t:Wd}(h:lR s t=true):t.k≠0:=by unfold lR at h;simp at h;omega
theorem gD {s:List UInt8} {l:fN}(h:bV s l=true):∃t r,l=t::r∧lR s t=true:=by
 match l with
 | []=>simp[bV] at h
 | t::r=>exact⟨t,r,rfl,h⟩
def cg {α:Type}(p:Ps α):Prop:=∀l,match p l with
 | .ok (_,r)=>r <:+ l∧(gC l→gC r)
 | .error n=>n≤l.length∧(gC l→0 < n)
theorem cg.ok {α:Type} {p:Ps α}(h:cg p) {l r:fN} {x:α}(e:p l=.ok (x,r)):r <:+ l∧(gC l→gC r):=by have:=h l;rw[e] at this;exact this
theorem cg.err {α:Type} {p:Ps α}(h:cg p) {l:fN} {n:Nat}(e:p l=.error n):n≤l.length∧(gC l→0 < n):=by have:=h l;rw[e] at this;exact this
theorem cg.len {α:Type} {p:Ps α}(h:cg p) {l r:fN} {x:α}(e:p l=.ok (x,r)):r.length≤l.length:=(h.ok e).1.length_le
theorem bj {α:Type}(x:α):cg (pure x:Ps α):=fun l=>⟨List.suffix_refl _,id⟩
theorem aU {α β:Type} {p:Ps α} {f:α→Ps β}(h:cg p)(k:∀x,cg (f x)):cg (p >>= f):=by
 intro l;rw[ep];cases e:p l with
 | error n=>exact h.err e
 | ok y=>
   obtain⟨x,r⟩:=y;obtain⟨h1,h2⟩:=h.ok e;show match f x r with | .ok (_,r)=>r <:+ l∧(gC l→gC r)| .error n=>n≤l.length∧(gC l→0 < n)
   cases e2:f x r with
   | error n=>obtain⟨k1,k2⟩:=(k x).err e2;exact⟨Nat.le_trans k1 h1.length_le,fun hl=>k2 (h2 hl)⟩
   | ok y=>obtain⟨z,r2⟩:=y;obtain⟨k1,k2⟩:=(k x).ok e2;exact⟨k1.trans h1,fun hl=>k2 (h2 hl)⟩
theorem Bz {α:Type} {q:fN→Ps α}(h:∀l,cg (q l)):cg (fun l=>q l l):=fun l=>h l l
theorem lF {α:Type}:cg (ua:Ps α):=fun l=>⟨Nat.le_refl _,gC.pos⟩
theorem mZ {α:Type}(s:List UInt8) {p q:Ps α}(hp:cg p)(hq:cg q):cg (fun l=>if bV s l then p l.tail else q l):=by
 intro l;by_cases h:bV s l=true
 ·obtain⟨t,r,rfl,ht⟩:=gD h;simp only[h,if_true,List.tail_cons];cases e:p r with
  | error n=>obtain⟨k1,k2⟩:=hp.err e;exact⟨by simp;omega,fun hl=>k2 (hl.tail (uS ht))⟩
  | ok y=>obtain⟨z,r2⟩:=y;obtain⟨k1,k2⟩:=hp.ok e;exact⟨k1.trans (List.suffix_cons _ _),fun hl=>k2 (hl.tail (uS ht))⟩
 ·simp only[h];exact hq l
theorem cP (s:List UInt8):cg (may s):=mZ s (p:=pure true) (q:=pure false) (bj _) (bj _)
theorem aN (s:List UInt8):cg (must s):=mZ s (p:=pure ()) (q:=ua) (bj _) lF
theorem gF:∀ks,cg (sU ks)
 | []=>lF
 | s::ks=>mZ s (p:=pure s) (q:=sU ks) (bj _) (gF ks)
theorem Ad {α:Type} {c:Wd→Prop} [DecidablePred c] {v:Wd→α}(hc:∀t,c t→t.k≠0):
  cg (fun l=>match l with | []=> .error 0 | t::r=>if c t then .ok (v t,r)else .error (t::r).length:Ps α):=by
 intro l
 match l with
 | []=>exact⟨Nat.le_refl _,fun h=>h.pos⟩
 | t::r=>
   by_cases h:c t
   ·simp only[h,if_true];exact⟨List.suffix_cons _ _,fun hl=>hl.tail (hc t h)⟩
   ·simp only[h];exact⟨Nat.le_refl _,fun hl=>by simp⟩
theorem bS:cg bL:=by
 have:=Ad (c:=fun t=>t.k=1∧zh t.s=false) (v:=fun t=>(⟨t.s.toArray⟩:ByteArray)) (fun t h=>by rw[h.1];decide);intro l;have h:=this l
 match l with
 | []=>exact h
 | t::r=>exact h
theorem dM:cg gQ:=by
 have:=Ad (c:=fun t=>t.k=2) (v:=fun t=>t.n) (fun t h=>by rw[h];decide);intro l;have h:=this l
 match l with
 | []=>exact h
 | t::r=>exact h
theorem Ae {α:Type} {el:Ps α}(h:cg el):∀f acc,cg (lC el f acc)
 | 0,acc=>bj _
 | f+1,acc=>mZ aX (p:=do let y ← el;lC el f (acc++ [y])) (q:=pure acc) (aU h fun y=>Ae h f _) (bj _)
theorem jB {α:Type} {el:Ps α}(h:cg el):cg (ic el):=aU h fun x=>Bz (q:=fun l=>lC el l.length [x]) fun l=>Ae h _ _
theorem eX {α:Type} {c:Prop} [Decidable c] {p q:Ps α}(hp:cg p)(hq:cg q):cg (if c then p else q):=by
 split
 ·exact hp
 ·exact hq
def ND:Tr:=gZ 0 []
theorem gS:∀ {ks:List (List UInt8×Int)} {l:fN} {o:Int},ix ks l=some o→∃s,(s,o)∈ks∧bV s l=true
 | [],l,o,h=>by simp[ix] at h
 |(s,k)::ks,l,o,h=>by
  simp only[ix] at h;split at h
  ·rename_i hs;injection h with h;subst h;exact⟨s,List.mem_cons_self,hs⟩
  ·obtain⟨s',h1,h2⟩:=gS h;exact⟨s',List.mem_cons_of_mem _ h1,h2⟩
theorem pP {α:Type} {p:Ps α}(hp:cg p) {s:List UInt8} {l:fN}(h:bV s l=true):match p l.tail with
 | .ok (_,r)=>r <:+ l∧(gC l→gC r)
 | .error n=>n≤l.length∧(gC l→0 < n):=by
 have:=mZ s hp (q:=ua) lF l;simpa only[h,if_true] using this
theorem xJ {below:Ps Tr}(hb:cg below)(lv:Nat):∀f x,cg (jg below lv f x)
 | 0,x=>bj _
 | f+1,x=>by
   intro l;simp only[jg];cases e:ix (opsL lv) l with
   | none=>exact bj x l
   | some o=>obtain⟨s,_,hs⟩:=gS e;exact pP (p:=do let y ← below;jg below lv f (gZ o [x,y])) (aU hb fun y=>xJ hb lv f _) hs
theorem nN {below:Ps Tr}(hb:cg below)(lv:Nat):cg (mb below lv):=aU hb fun x=>Bz (q:=fun l=>jg below lv l.length x) fun l=>xJ hb lv _ _
theorem KN {below:Ps Tr}(hb:cg below)(x:Tr):cg (ub below x):=by
 intro l;unfold ub;cases e:ix (opsL 3) l with
 | none=>exact bj x l
 | some o=>obtain⟨s,_,hs⟩:=gS e;exact pP (p:=do let y ← below;return gZ o [x,y]) (aU hb fun y=>bj _) hs
theorem NF {below:Ps Tr}(hb:cg below):cg (KM below):=
 aU hb fun x=>aU (cP _) fun b=>eX (aU (cP _) fun n=>aU (aN _) fun _=>bj _) (KN hb x)
theorem IL {same below:Ps Tr}(s:List UInt8)(op:Int)(hs:cg same)(hb:cg below):cg (Gj s op same below):=by
 refine aU (cP _) fun b=>?_
 split
 ·exact aU hs fun x=>bj _
 ·exact hb
theorem Af {whole:Ps Tr}(hw:cg whole)(op:Int):cg (pn whole op):=
 aU (eX (aU dM fun n=>aU (aN _) fun _=>bj _) (bj _)) fun _=>aU hw fun x=>
  aU (eX (aU (aN _) fun _=>aU hw fun y=>bj _) (bj _)) fun _=>aU (aN _) fun _=>bj _
theorem NG {whole:Ps Tr}(hw:cg whole)(op:Int):cg (jh whole op):=
 eX (aU (cP _) fun b=>eX (aU (aN _) fun _=>bj _) (Af hw _)) (Af hw op)
theorem Gl {whole:Ps Tr}(hw:cg whole):cg (xH whole):=by
 refine aU bS fun n=>?_
 intro l;by_cases h:bV cp l=true
 ·simp only[h,if_true];cases e:fO n with
  | none=>exact lF (α:=Tr) l
  | some op=>exact pP (NG hw op) h
 ·simp only[h];exact bj (eF n) l
theorem KO {whole:Ps Tr}(hw:cg whole):cg (kF whole):=by
 intro l
 match l with
 | []=>exact⟨Nat.le_refl _,fun h=>h.pos⟩
 | t::r=>
   have one:∀(x:Tr),t.k≠0→r <:+ t::r∧(gC (t::r)→gC r):=fun x h=>⟨List.suffix_cons _ _,fun hl=>hl.tail h⟩
   simp only[kF];by_cases h1:t.k=2
   ·simp only[h1,if_true];exact one ND (by omega)
   by_cases h2:t.k=3
   ·simp only[h1,h2,if_true];exact one ND (by omega)
   by_cases h3:lR kq t=true
   ·simp only[h1,h2,h3,if_true];exact one ND (uS h3)
   by_cases h4:lR jL t=true
   ·simp only[h1,h2,h3,h4,if_true];exact one ND (uS h4)
   by_cases h5:lR fG t=true
   ·simp only[h1,h2,h3,h4,h5,if_true];exact one ND (uS h5)
   by_cases h6:lR cp t=true
   ·simp only[h1,h2,h3,h4,h5,h6,if_true];exact pP (l:=t::r) (s:=cp) (p:=do let x ← whole;must aP;return x) (aU hw fun x=>aU (aN _) fun _=>bj _) h6
   ·simp only[h1,h2,h3,h4,h5,h6,if_false];exact Gl hw (t::r)
theorem cK:∀f lv,cg (pE f lv)
 | 0,_=>lF
 | f+1,0=>nN (cK f 1) 0
 | f+1,1=>nN (cK f 2) 1
 | f+1,2=>IL _ _ (cK f 2) (cK f 3)
 | f+1,3=>NF (cK f 4)
 | f+1,4=>nN (cK f 5) 4
 | f+1,5=>nN (cK f 6) 5
 | f+1,6=>IL _ _ (cK f 6) (cK f 7)
 | f+1,_+7=>KO (cK f 0)
theorem dr (lv:Nat):cg (aq lv):=Bz (q:=fun l=>pE (8*l.length+8 - lv) lv) fun l=>cK _ _
theorem fB:cg dL:=dr 0
theorem gG:cg ie:=by unfold ie;repeat (first | exact bj _ | exact cP _ | exact aN _ | exact bS | exact dM | exact gF _ | exact fB | exact mf _ | apply eX | apply jB | refine aU ?_ fun _=>?_)
theorem gH:cg gB:=by unfold gB;repeat (first | exact bj _ | exact cP _ | exact aN _ | exact bS | exact dM | exact gF _ | exact fB | exact mf _ | exact gG | apply eX | apply jB | refine aU ?_ fun _=>?_)
theorem po:cg jA:=by unfold jA;repeat (first | exact bj _ | exact cP _ | exact aN _ | exact bS | exact dM | exact gF _ | exact fB | exact mf _ | exact gG | exact gH | exact uT | exact uU | exact sV | apply eX | apply jB | refine aU ?_ fun _=>?_)
theorem sW:cg vP:=by unfold vP;repeat (first | exact bj _ | exact cP _ | exact aN _ | exact bS | exact dM | exact gF _ | exact fB | exact mf _ | exact gG | exact gH | exact uT | exact uU | exact sV | exact po | exact DD | apply eX | apply jB | refine aU ?_ fun _=>?_)
theorem Ag:cg Rk:=by unfold Rk;repeat (first | exact bj _ | exact cP _ | exact aN _ | exact bS | exact dM | exact gF _ | exact fB | exact mf _ | exact gG | exact gH | exact uT | exact uU | exact sV | exact po | exact DD | exact sW | exact Ts | exact Tt | exact Vr | exact Xi _ | exact Xj | exact BA | exact Gm | exact Xk | exact BB | exact Xl | exact BC | exact BD | exact BF | apply eX | apply jB | refine aU ?_ fun _=>?_)
theorem BG (k:Int):cg (xI k):=by unfold xI;repeat (first | exact bj _ | exact cP _ | exact aN _ | exact bS | exact dM | exact gF _ | exact fB | exact Ag | apply eX | apply jB | refine aU ?_ fun _=>?_)
def eG {α:Type}(m:Nat)(p q:Ps α):Prop:=∀l:fN,l.length≤m→p l=q l
theorem dt {α:Type}(m:Nat)(p:Ps α):eG m p p:=fun _ _=>rfl
theorem dv {α β:Type} {m:Nat} {p q:Ps α} {f g:α→Ps β}(h:eG m p q)(hp:cg p)(k:∀x,eG m (f x) (g x)):eG m (p >>= f) (q >>= g):=by
 intro l hl;rw[ep,ep,← h l hl];cases e:p l with
 | error n=>rfl
 | ok y=>obtain⟨x,r⟩:=y;exact k x r (by have:=hp.len e;omega)
theorem pQ {α:Type} {m:Nat} {c:Prop} [Decidable c] {p q p' q':Ps α}(h:eG m p p')(k:eG m q q'):eG m (if c then p else q) (if c then p' else q'):=by
 split
 ·exact h
 ·exact k
theorem head_tail {s:List UInt8} {l:fN}(h:bV s l=true):l.tail.length+1=l.length:=by obtain⟨t,r,rfl,_⟩:=gD h;rfl
theorem uV {m:Nat} {p q:Ps Tr}(h:eG m p q)(hp:cg p)(lv:Nat):∀f x,eG m (jg p lv f x) (jg q lv f x)
 | 0,x=>dt _ _
 | f+1,x=>by
   intro l hl;simp only[jg];cases e:ix (opsL lv) l with
   | none=>rfl
   | some o=>obtain⟨s,_,hs⟩:=gS e;have:=head_tail hs;exact dv h hp (fun y=>uV h hp lv f _) l.tail (by omega)
theorem fc {m:Nat} {p q:Ps Tr}(h:eG m p q)(hp:cg p)(lv:Nat):eG m (mb p lv) (mb q lv):=dv h hp fun x l hl=>uV h hp lv _ _ l hl
theorem Ah {m:Nat} {p q:Ps Tr}(h:eG m p q)(hp:cg p):eG m (KM p) (KM q):=by
 refine dv h hp fun x=>dv (dt _ _) (cP _) fun b=>pQ (dt _ _) ?_
 intro l hl;unfold ub;cases e:ix (opsL 3) l with
 | none=>rfl
 | some o=>obtain⟨s,_,hs⟩:=gS e;have:=head_tail hs;exact dv h hp (fun y=>dt _ _) l.tail (by omega)
theorem Gn {α:Type} {m:Nat}(s:List UInt8) {p q p' q':Ps α}(h:eG m p p')(k:eG (m+1) q q'):eG (m+1) (fun l=>if bV s l then p l.tail else q l) (fun l=>if bV s l then p' l.tail else q' l):=by
 intro l hl;by_cases e:bV s l=true
 ·have:=head_tail e;simp only[e,if_true];exact h l.tail (by omega)
 ·simp only[e];exact k l hl
theorem xK {α:Type}(s:List UInt8)(f:Bool→Ps α):(may s >>= f)=fun l=>if bV s l then f true l.tail else f false l:=by
 funext l;rw[ep];unfold may;by_cases e:bV s l=true
 ·simp only[e,if_true]
 ·simp only[e];rfl
theorem sX {m:Nat} {p q p' q':Ps Tr}(s:List UInt8)(op:Int)(h:eG m p p')(hp:cg p)(k:eG (m+1) q q'):eG (m+1) (Gj s op p q) (Gj s op p' q'):=by unfold Gj;rw[xK,xK];exact Gn s (dv h hp fun x=>dt _ _) k
theorem xL {m:Nat} {p q:Ps Tr}(h:eG m p q)(hp:cg p)(op:Int):eG m (pn p op) (pn q op):=
 dv (dt _ _) (eX (aU dM fun n=>aU (aN _) fun _=>bj _) (bj _)) fun _=>dv h hp fun x=>
  dv (pQ (dv (dt _ _) (aN _) fun _=>dv h hp fun y=>dt _ _) (dt _ _)) (eX (aU (aN _) fun _=>aU hp fun y=>bj _) (bj _)) fun _=>dt _ _
theorem KP {m:Nat} {p q:Ps Tr}(h:eG m p q)(hp:cg p)(op:Int):eG m (jh p op) (jh q op):=
 pQ (dv (dt _ _) (cP _) fun b=>pQ (dt _ _) (xL h hp _)) (xL h hp op)
theorem DL {m:Nat} {p q:Ps Tr}(h:eG m p q)(hp:cg p):eG (m+1) (xH p) (xH q):=by
 refine dv (dt _ _) bS fun n=>?_
 intro l hl;by_cases e:bV cp l=true
 ·have:=head_tail e;simp only[e,if_true];cases fO n with
  | none=>rfl
  | some op=>exact KP h hp op l.tail (by omega)
 ·simp only[e];rfl
theorem xM {m:Nat} {p q:Ps Tr}(h:eG m p q)(hp:cg p):eG (m+1) (kF p) (kF q):=by
 intro l hl
 match l with
 | []=>rfl
 | t::r=>have e1:(do let x ← p;must aP;return x:Ps Tr) r=(do let x ← q;must aP;return x:Ps Tr) r:=dv h hp (fun x=>dt _ _) r (by simp at hl;omega);have e2:=DL h hp (t::r) hl;simp only[kF];rw[e1,e2]
theorem gT:∀(f g lv:Nat) (m:Nat),lv≤7→8*m+8 - lv≤f→8*m+8 - lv≤g→eG m (pE f lv) (pE g lv)
 | 0,_,_,_,_,h,_=>by omega
 | _,0,_,_,_,_,h=>by omega
 | f+1,g+1,0,m,_,hf,hg=>fc (gT f g 1 m (by omega) (by omega) (by omega)) (cK _ _) 0
 | f+1,g+1,1,m,_,hf,hg=>fc (gT f g 2 m (by omega) (by omega) (by omega)) (cK _ _) 1
 | f+1,g+1,2,0,_,hf,hg=>fun l hl=>by
   match l,hl with
   | [],_=>exact gT f g 3 0 (by omega) (by omega) (by omega) [] (Nat.le_refl _)
 | f+1,g+1,2,m+1,_,hf,hg=>sX _ _ (gT f g 2 m (by omega) (by omega) (by omega)) (cK _ _) (gT f g 3 (m+1) (by omega) (by omega) (by omega))
 | f+1,g+1,3,m,_,hf,hg=>Ah (gT f g 4 m (by omega) (by omega) (by omega)) (cK _ _)
 | f+1,g+1,4,m,_,hf,hg=>fc (gT f g 5 m (by omega) (by omega) (by omega)) (cK _ _) 4
 | f+1,g+1,5,m,_,hf,hg=>fc (gT f g 6 m (by omega) (by omega) (by omega)) (cK _ _) 5
 | f+1,g+1,6,0,_,hf,hg=>fun l hl=>by
   match l,hl with
   | [],_=>exact gT f g 7 0 (by omega) (by omega) (by omega) [] (Nat.le_refl _)
 | f+1,g+1,6,m+1,_,hf,hg=>sX _ _ (gT f g 6 m (by omega) (by omega) (by omega)) (cK _ _) (gT f g 7 (m+1) (by omega) (by omega) (by omega))
 | f+1,g+1,7,0,_,hf,hg=>fun l hl=>by
   match l,hl with
   | [],_=>rfl
 | f+1,g+1,7,m+1,_,hf,hg=>xM (gT f g 0 m (by omega) (by omega) (by omega)) (cK _ _)
 | _+1,_+1,_+8,_,h,_,_=>by omega
theorem NK {f lv:Nat} {l:fN}(hlv:lv≤7)(h:8*l.length+8 - lv≤f):pE f lv l=aq lv l:=gT f _ lv l.length hlv h (Nat.le_refl _) l (Nat.le_refl _)
theorem dW {f lv m:Nat}(hlv:lv≤7)(h:8*m+8 - lv≤f):eG m (pE f lv) (aq lv):=fun l hl=>NK hlv (by omega)
theorem Rl:aq 0=mb (aq 1) 0:=funext fun l=>fc (dW (f:=8*l.length+7) (m:=l.length) (by omega) (by omega)) (cK _ _) 0 l (Nat.le_refl _)
theorem Rm:aq 1=mb (aq 2) 1:=funext fun l=>fc (dW (f:=8*l.length+6) (m:=l.length) (by omega) (by omega)) (cK _ _) 1 l (Nat.le_refl _)
theorem Rn:aq 2=Gj lY 4 (aq 2) (aq 3):=funext fun l=>by
 match l with
 | []=>rfl
 | t::r=>exact sX lY 4 (dW (f:=8*(t::r).length+5) (m:=r.length) (by omega) (by simp only[List.length_cons];omega)) (cK _ _) (dW (m:=r.length+1) (by omega) (by simp only[List.length_cons];omega)) (t::r) (by simp)
theorem Ro:aq 3=KM (aq 4):=funext fun l=>Ah (dW (f:=8*l.length+4) (m:=l.length) (by omega) (by omega)) (cK _ _) l (Nat.le_refl _)
theorem Rp:aq 4=mb (aq 5) 4:=funext fun l=>fc (dW (f:=8*l.length+3) (m:=l.length) (by omega) (by omega)) (cK _ _) 4 l (Nat.le_refl _)
theorem Rq:aq 5=mb (aq 6) 5:=funext fun l=>fc (dW (f:=8*l.length+2) (m:=l.length) (by omega) (by omega)) (cK _ _) 5 l (Nat.le_refl _)
theorem Rs:aq 6=Gj ma 3 (aq 6) (aq 7):=funext fun l=>by
 match l with
 | []=>rfl
 | t::r=>exact sX ma 3 (dW (f:=8*(t::r).length+1) (m:=r.length) (by omega) (by simp only[List.length_cons];omega)) (cK _ _) (dW (m:=r.length+1) (by omega) (by simp only[List.length_cons];omega)) (t::r) (by simp)
theorem nO:aq 7=kF (aq 0):=funext fun l=>by
 match l with
 | []=>rfl
 | t::r=>exact xM (dW (f:=8*(t::r).length) (m:=r.length) (by omega) (by simp only[List.length_cons];omega)) (cK _ _) (t::r) (by simp)
open Go.RowKit
theorem nA (a:Addr)(n:Nat):(a.add n).block=a.block:=by unfold Addr.add;split <;> rfl
def Reads (w:World)(B size:Nat)(A:Option Addr)(n:Nat)(xs:List Value):Prop:=
 xs.length=n*size∧(0 < n→∃ad,A=some ad∧ad.block < B∧∀j u,xs[j]?=some u→w.cell? (ad.add j)=some u)
section
variable {w w':World} {B B' size n:Nat} {A:Option Addr} {xs:List Value}
theorem Reads.none_:Reads w B size A 0 []:=⟨by simp,fun h=>absurd h (by omega)⟩
theorem Reads.keep (h:Reads w B size A n xs)(hk:∀p:Addr,p.block < B→w'.cell? p=w.cell? p):Reads w' B size A n xs:=
 ⟨h.1,fun hn=>by
   obtain⟨ad,e,hb,hc⟩:=h.2 hn
   exact⟨ad,e,hb,fun j u hu=>(hk _ (by rw[nA];exact hb)).trans (hc j u hu)⟩⟩
theorem Reads.more (h:Reads w B size A n xs)(hB:B≤B'):Reads w B' size A n xs:=
 ⟨h.1,fun hn=>by
   obtain⟨ad,e,hb,hc⟩:=h.2 hn
   exact⟨ad,e,by omega,hc⟩⟩
theorem Reads.below (h:Reads w B size A n xs)(hb:Below B w w'):Reads w' B size A n xs:=h.keep fun _ hp=>hb.cell hp
theorem Reads.Fq {base:Nat} {e:TypeId} {c:Nat}(h:w.ownsRow base e size (.slice A n c) n xs):Reads w w.heap.size size A n xs:=by
 refine⟨h.1,fun hn=>?_⟩;obtain⟨g,cap,hv,_,hlt⟩:=h.form hn;have hA:A=some ⟨g,0,none⟩:=by injection hv
 subst hA;exact⟨_,rfl,hlt,h.cells (g:=g) rfl⟩
end
section
variable {P:Program} (w:World)
theorem iX (base:Nat)(t ty e:TypeId)(i:TypeInfo)(size:Nat)(ht:P.underlying t=some (.slice e))(hi:P.info? e=some i)
  (v:Value) (n:Nat) (xs:List Value) (hown:w.ownsRow base e size v n xs) (c:Nat):(Builtin.append_ #[t,t] ty #[v,.slice none 0 c]).run P w=.ok v w:=by
 rcases hown.2 with ⟨rfl,rfl⟩|⟨g,cap,cur,rfl,_,_,J7,_⟩
 ·simp[Builtin.append_,run_underlying ht,sizeOf,typeInfo,hi,Builtin.lenOf,Builtin.firstCells]
 ·simp[Builtin.append_,run_underlying ht,sizeOf,typeInfo,hi,Builtin.lenOf,Builtin.firstCells,J7,storeCells]
theorem gh (base:Nat)(t ty e:TypeId)(i:TypeInfo)(z:Value)(size bytes:Nat)(ht:P.underlying t=some (.slice e))(hi:P.info? e=some i)(hz:i.zero=some z)
  (hsize:i.size=size) (hby:i.bytes=bytes) (hzs:z.cells.size=size) (hsz:0 < size)
  (v:Value) (n:Nat) (xs:List Value) (hown:w.ownsRow base e size v n xs)
  (B:Nat) (A:Option Addr) (m c:Nat) (news:List Value) (hr:Reads w B size A m news) (h1:∀u∈news,u.oneCell'=true)
  (h63:n+m≤maxLen) (hbytes:(n+m)*bytes≤140737488355328) (hbase:base≤w.heap.size):
  ∃v' w',(Builtin.append_ #[t,t] ty #[v,.slice A m c]).run P w=.ok v' w'∧w'.ownsRow base e size v' (n+m) (xs++news)∧w.grownBy w' v.ownBlock∧
   (v'.ownBlock=v.ownBlock∨v'.ownBlock=some w.heap.size):=by
 rcases A with _ | ad
 ·have hm:m=0:=by
   rcases Nat.eq_zero_or_pos m with h0 | h0
   ·exact h0
   ·obtain⟨ad,h,_⟩:=hr.2 h0;cases h
  subst hm;have hn:news=[]:=List.eq_nil_of_length_eq_zero (by simpa using hr.1);subst hn;exact⟨v,w,iX w base t ty e i size ht hi v n xs hown c,by simpa using hown,World.grownBy.refl w _,.inl rfl⟩
 ·have tG:∀j u,news[j]?=some u→w.cell? (ad.add j)=some u:=by
   intro j u hu;rcases Nat.eq_zero_or_pos m with h0 | h0
   ·subst h0;have hn:news=[]:=List.eq_nil_of_length_eq_zero (by simpa using hr.1);subst hn;simp at hu
   ·obtain⟨ad',h,_,hc⟩:=hr.2 h0;injection h with h;subst h;exact hc j u hu
  obtain⟨v',w',hrun,h2,h3,_,h5⟩:=run_append_own_at (P:=P) w base t ty e i z size bytes ht hi hz hsize hby hzs hsz v n xs hown ad m c news hr.1 tG h1 h63 hbytes hbase;exact⟨v',w',hrun,h2,h3,h5⟩
theorem mq {o:Oper} {a:Act} {K:Act→World→Prop} {Q:Exit→Act→World→Prop}(s x:Operand)(t:TypeId)
  (ho:o.op=.call { callee:=.builtin .append,args:= #[s,x],argTypes:= #[t,t] })
  (base:Nat) (e:TypeId) (i:TypeInfo) (z:Value) (size bytes:Nat) (ht:P.underlying t=some (.slice e)) (hi:P.info? e=some i) (hz:i.zero=some z)
  (hsize:i.size=size) (hby:i.bytes=bytes) (hzs:z.cells.size=size) (hsz:0 < size)
  (v:Value) (n:Nat) (xs:List Value) (hs:a.eval s=v) (hown:w.ownsRow base e size v n xs)
  (B:Nat) (A:Option Addr) (m c:Nat) (news:List Value) (hx:a.eval x=.slice A m c) (hr:Reads w B size A m news) (h1:∀u∈news,u.oneCell'=true)
  (h63:n+m≤maxLen) (hbytes:(n+m)*bytes≤140737488355328) (hbase:base≤w.heap.size)
  (h:∀v' w',w'.ownsRow base e size v' (n+m) (xs++news)→w.grownBy w' v.ownBlock→(v'.ownBlock=v.ownBlock∨v'.ownBlock=some w.heap.size)→K (a.put o.dst v') w'):o.wp P a w K Q:=by
 obtain⟨v',w',hrun,h2,h3,h4⟩:=gh (P:=P) w base t o.type e i z size bytes ht hi hz hsize hby hzs hsz v n xs hown B A m c news hr h1 h63 hbytes hbase;unfold Oper.wp execOp;simp only[ho,resolve,invoke,builtin,Sem.run_bind,Sem.run_pure,Result.andThen_ok,List.map_toArray,List.map_cons,List.map_nil,hs,hx,hrun];exact h v' w' h2 h3 h4
theorem eD {ops:Array Oper} {rest:List Oper} {o:Oper} {a:Act} {Q:Exit→Act→World→Prop}(hgd:o.guard=none)(s x:Operand)(t:TypeId)
  (ho:o.op=.call { callee:=.builtin .append,args:= #[s,x],argTypes:= #[t,t] })
  (base:Nat) (e:TypeId) (i:TypeInfo) (z:Value) (size bytes:Nat) (ht:P.underlying t=some (.slice e)) (hi:P.info? e=some i) (hz:i.zero=some z)
  (hsize:i.size=size) (hby:i.bytes=bytes) (hzs:z.cells.size=size) (hsz:0 < size)
  (v:Value) (n:Nat) (xs:List Value) (hs:a.eval s=v) (hown:w.ownsRow base e size v n xs)
  (B:Nat) (A:Option Addr) (m c:Nat) (news:List Value) (hx:a.eval x=.slice A m c) (hr:Reads w B size A m news) (h1:∀u∈news,u.oneCell'=true)
  (h63:n+m≤maxLen) (hbytes:(n+m)*bytes≤140737488355328) (hbase:base≤w.heap.size)
  (h:∀v' w',w'.ownsRow base e size v' (n+m) (xs++news)→w.grownBy w' v.ownBlock→(v'.ownBlock=v.ownBlock∨v'.ownBlock=some w.heap.size)→wpList P ops Q rest (a.put o.dst v') w'):wpList P ops Q (o::rest) a w:=
 wpList_plain hgd fun _ hK=>mq w s x t ho base e i z size bytes ht hi hz hsize hby hzs hsz v n xs hs hown B A m c news hx hr h1 h63 hbytes hbase fun v' w' h2 h3 h4=>hK _ _ (h v' w' h2 h3 h4)
end
end Go.Proofs.YtfmbcoeallmnnaaGreatDoor.R
