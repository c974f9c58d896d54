/- Parts of the proof. -/
import Derived.Test.YtehhdlgjfdnafaaGreatDoorXE5
namespace Go.Proofs.YtehhdlgjfdnafaaGreatDoor
open List
set_option maxHeartbeats 90000000
set_option maxRecDepth 100000
set_option linter.unusedSimpArgs false
set_option linter.unusedVariables false
def RP:List UInt8:=[111,114]
def GH:List UInt8:=[97,110,100]
def dT:List UInt8:=[110,111,116]
def kH:List UInt8:=[105,115]
def bE:List UInt8:=[110,117,108,108]
def dZ:List UInt8:=[116,114,117,101]
def dI:List UInt8:=[102,97,108,115,101]
def cA:List UInt8:=[115,101,108,101,99,116]
def bZ:List UInt8:=[102,114,111,109]
def js:List UInt8:=[111,110,108,121]
def cV:List UInt8:=[119,104,101,114,101]
def iE:List UInt8:=[103,114,111,117,112]
def mJ:List UInt8:=[98,121]
def lY:List UInt8:=[104,97,118,105,110,103]
def iF:List UInt8:=[111,114,100,101,114]
def jf:List UInt8:=[108,105,109,105,116]
def mo:List UInt8:=[100,101,115,99]
def lZ:List UInt8:=[97,115]
def eN:List UInt8:=[99,114,101,97,116,101]
def fT:List UInt8:=[100,114,111,112]
def gD:List UInt8:=[105,110,115,101,114,116]
def gF:List UInt8:=[117,112,100,97,116,101]
def fL:List UInt8:=[100,101,108,101,116,101]
def kQ:List UInt8:=[99,97,108,108]
def cm:List UInt8:=[116,97,98,108,101]
def dc:List UInt8:=[118,105,101,119]
def gR:List UInt8:=[106,111,98]
def zS:List UInt8:=[105,110,116]
def uk:List UInt8:=[98,111,111,108]
def wK:List UInt8:=[116,101,120,116]
def kR:List UInt8:=[116,105,109,101]
def cd:List UInt8:=[101,118,101,114,121]
def jD:List UInt8:=[115,112,97,99,101]
def eP:List UInt8:=[105,110,116,111]
def bO:List UInt8:=[114,101,102,114,101,115,104]
def bJ:List UInt8:=[99,111,109,112,114,101,115,115]
def dn:List UInt8:=[100,101,99,111,109,112,114,101,115,115]
def eo:List UInt8:=[100,114,111,112,95,99,104,117,110,107,115]
def Cb:List UInt8:=[116,111]
def fq:List UInt8:=[97,102,116,101,114]
def iQ:List UInt8:=[118,97,108,117,101,115]
def rL:List UInt8:=[115,101,116]
def RQ:List UInt8:=[98,117,99,107,101,116]
def vo:List UInt8:=[99,111,117,110,116]
def ace:List UInt8:=[115,117,109]
def acf:List UInt8:=[109,105,110]
def acg:List UInt8:=[109,97,120]
def ach:List UInt8:=[97,118,103]
def WU:List UInt8:=[102,105,114,115,116]
def M3:List UInt8:=[108,97,115,116]
def bg:List UInt8:=[44]
def bp:List UInt8:=[40]
def aG:List UInt8:=[41]
def wL:List UInt8:=[59]
def eK:List UInt8:=[42]
def dr:List UInt8:=[45]
def EA:List UInt8:=[43]
def yQ:List UInt8:=[47]
def sS:List UInt8:=[37]
def EB:List UInt8:=[61]
def M4:List UInt8:=[60,62]
def M5:List UInt8:=[60]
def M6:List UInt8:=[60,61]
def M7:List UInt8:=[62]
def M8:List UInt8:=[62,61]
structure Qu where
 items:List (Tr×ByteArray):=[]
 aN:ByteArray:=ByteArray.empty
 only:Bool:=false
 aP:List Tr:=[]
 group:List Tr:=[]
 having:List Tr:=[]
 order:List (Tr×Bool):=[]
 aQ:List Int:=[]
structure St where
 kind:Int:=0
 name:ByteArray:=ByteArray.empty
 aY:List (ByteArray×Int):=[]
 time:ByteArray:=ByteArray.empty
 every:Int:=0
 space:ByteArray:=ByteArray.empty
 parts:Int:=0
 query:Qu:= {}
 what:Int:=0
 cI:ByteArray:=ByteArray.empty
 a:Int:=0
 b:Int:=0
 rows:List (List Tr):=[]
 bF:List (ByteArray×Tr):=[]
 aP:List Tr:=[]
 aN:Val:=bU
 dH:Val:=bU
abbrev aF:=List Wd
def Ps (α:Type):Type:=aF->Except Nat (α×aF)
instance:Monad Ps where
 pure x:=λ l=> .ok (x,l)
 bind p f:=λ l=>match p l with
  | .error n=> .error n
  | .ok (x,r)=>f x r
def fW (s:List UInt8)(t:Wd):Bool:=(t.k==1 || t.k==4)&& t.s==s
def ar (s:List UInt8):aF->Bool
 | []=>false
 | t::_=>fW s t
variable{α:Type}
def wM:Ps α:=λ l=> .error l.length
def may (s:List UInt8):Ps Bool:=λ l=>if ar s l then .ok (true,l.tail)else .ok (false,l)
def must (s:List UInt8):Ps Unit:=λ l=>if ar s l then .ok ((),l.tail)else .error l.length
def jU:List (List UInt8)->Ps (List UInt8)
 | []=>wM
 | s::ks=>λ l=>if ar s l then .ok (s,l.tail)else jU ks l
def ct:Ps ByteArray
 | []=> .error 0
 | t::r=>if t.k=1/\jT t.s=false then .ok (⟨t.s.toArray⟩,r)else .error (t::r).length
def mq:Ps Int
 | []=> .error 0
 | t::r=>if t.k=2 then .ok (t.n,r)else .error (t::r).length
def pn(el:Ps α):Nat->List α->Ps (List α)
 | 0,acc=>pure acc
 | f+1,acc=>λ l=>if ar bg l then(do let y <- el;pn el f (acc++ [y])) l.tail else .ok (acc,l)
def dC(el:Ps α):Ps (List α):=do
 let x <- el
 λ l=>pn el l.length [x] l
def opsL:Nat->List (List UInt8×Int)
 | 0=> [(RP,17)]
 | 1=> [(GH,16)]
 | 3=> [(EB,10),(M4,11),(M5,12),(M6,13),(M7,14),(M8,15)]
 | 4=> [(EA,5),(dr,6)]
 | 5=> [(eK,7),(yQ,8),(sS,9)]
 | _=> []
def eE:List (List UInt8×Int)->aF->Option Int
 | [],_=>none
 |(s,o)::k,l=>if ar s l then some o else eE k l
def kj (below:Ps Tr)(lv:Nat):Nat->Tr->Ps Tr
 | 0,x=>pure x
 | f+1,x=>λ l=>match eE (opsL lv) l with
   | none=> .ok (x,l)
   | some o=>(do let y <- below;kj below lv f (mB o [x,y])) l.tail
def jM (below:Ps Tr)(lv:Nat):Ps Tr:=do
 let x <- below
 λ l=>kj below lv l.length x l
def wO (below:Ps Tr)(x:Tr):Ps Tr:=λ l=>match eE (opsL 3) l with
 | none=> .ok (x,l)
 | some o=>(do let y <- below;return mB o [x,y]) l.tail
def qW (below:Ps Tr):Ps Tr:=do
 let x <- below
 if <- may kH then
  let n <- may dT
  must bE
  return mB (if n then 19 else 18) [x]
 else wO below x
def GI (s:List UInt8)(op:Int)(same below:Ps Tr):Ps Tr:=do
 if <- may s then
  let x <- same
  return mB op [x]
 else below
def WV:List (List UInt8×Int):=[(RQ,20),(vo,22),(ace,23),(acf,24),(acg,25),(ach,26),(WU,27),(M3,28)]
def kL (n:ByteArray):Option Int:=WV.lookup n.data.toList
def um (op:Int):Ps Int:=
 if op=20 then(do
  let n <- mq
  must bg
  return n)else pure 0
def qj (whole:Ps Tr)(op:Int):Ps (List Tr):=
 if op=27\/op=28 then(do
  must bg
  let y <- whole
  return [y])else pure []
def qL (whole:Ps Tr)(op:Int):Ps Tr:=do
 let width <- um op
 let x <- whole
 let ys <- qj whole op
 must aG
 return .mk op bU ByteArray.empty width (x::ys)
def countP (whole:Ps Tr):Ps Tr:=do
 if <- may eK then
  must aG
  return mB 21 []
 else qL whole 22
def po (whole:Ps Tr)(op:Int):Ps Tr:=if op=22 then countP whole else qL whole op
def kT (whole:Ps Tr):Ps Tr:=do
 let n <- ct
 λ l=>if ar bp l then(match kL n with
  | none=> .error l.length
  | some op=>po whole op l.tail)else .ok (ui n,l)
def ek (whole:Ps Tr):Ps Tr:=λ l=>
 match l with
 | []=> .error 0
 | t::r=>
   if t.k=2 then .ok (oM ⟨2,t.n,ByteArray.empty⟩,r)
   else if t.k=3 then .ok (oM ⟨3,0,⟨t.s.toArray⟩⟩,r)
   else if fW dZ t then .ok (oM ⟨1,1,ByteArray.empty⟩,r)
   else if fW dI t then .ok (oM ⟨1,0,ByteArray.empty⟩,r)
   else if fW bE t then .ok (oM bU,r)
   else if fW bp t then(do let x <- whole;must aG;return x) r
   else kT whole (t::r)
def pE:Nat->Nat->Ps Tr
 | 0,_=>wM
 | f+1,0=>jM (pE f 1) 0
 | f+1,1=>jM (pE f 2) 1
 | f+1,2=>GI dT 4 (pE f 2) (pE f 3)
 | f+1,3=>qW (pE f 4)
 | f+1,4=>jM (pE f 5) 4
 | f+1,5=>jM (pE f 6) 5
 | f+1,6=>GI dr 3 (pE f 6) (pE f 7)
 | f+1,_=>ek (pE f 0)
def aO (lv:Nat):Ps Tr:=λ l=>pE (8*l.length+8 - lv) lv l
def ey:Ps Tr:=aO 0
def gj (s:List UInt8):Ps (List Tr):=do
 if <- may s then
  let x <- ey
  return [x]
 else return []
def nz:Ps (Tr×ByteArray):=do
 let x <- ey
 if <- may lZ then
  let n <- ct
  return (x,n)
 else return (x,ByteArray.empty)
def km:Ps (Tr×Bool):=do
 let x <- ey
 let d <- may mo
 return (x,d)
def rM:Ps (List (Tr×ByteArray)):=do
 if <- may eK then
  return []
 else dC nz
def ql:Ps (List Tr):=do
 if <- may iE then
  must mJ
  dC ey
 else return []
def mK:Ps (List (Tr×Bool)):=do
 if <- may iF then
  must mJ
  dC km
 else return []
def rN:Ps (List Int):=do
 if <- may jf then
  let n <- mq
  return [n]
 else return []
def cQ:Ps Qu:=do
 must cA
 let items <- rM
 must bZ
 let only <- may js
 let aN <- ct
 let aP <- gj cV
 let group <- ql
 let having <- gj lY
 let order <- mK
 let aQ <- rN
 return { items,aN,only,aP,group,having,order,aQ }
def typeOf (s:List UInt8):Int:=if s=zS then 2 else if s=uk then 1 else 3
def gW:Ps (ByteArray×Int):=do
 let n <- ct
 let t <- jU [zS,uk,wK]
 return (n,typeOf t)
def wP:Ps (ByteArray×Int):=do
 if <- may jD then
  let s <- ct
  must eP
  let n <- mq
  return (s,n)
 else return (ByteArray.empty,0)
def EC:Ps St:=do
 let name <- ct
 must bp
 let aY <- dC gW
 must aG
 must kR
 let time <- ct
 must cd
 let every <- mq
 let sp <- wP
 return { kind:=1,name,aY,time,every,space:=sp.1,parts:=sp.2 }
def Zo:Ps St:=do
 let name <- ct
 must lZ
 let query <- cQ
 return { kind:=2,name,query }
def zT (s:List UInt8):Ps (Int×Int):=do
 if s=bO then
  must bZ
  let a <- mq
  must Cb
  let b <- mq
  return (a,b)
 else
  must fq
  let a <- mq
  return (a,0)
def Oh:Ps St:=do
 let name <- ct
 let s <- jU [bO,bJ,fT]
 let cI <- ct
 let ab <- zT s
 must cd
 let every <- mq
 return { kind:=3,name,what:=if s=bO then 9 else if s=bJ then 10 else 12,cI,a:=ab.1,b:=ab.2,every }
def lG:Ps St:=do
 let s <- jU [cm,dc,gR]
 if s=cm then EC else if s=dc then Zo else Oh
def Mq:Ps St:=do
 let s <- jU [cm,dc,gR]
 let name <- ct
 return { kind:=4,what:=if s=cm then 1 else if s=dc then 2 else 3,name }
def rO:Ps (List Tr):=do
 must bp
 let l <- dC ey
 must aG
 return l
def yR:Ps St:=do
 must eP
 let name <- ct
 must iQ
 let rows <- dC rO
 return { kind:=5,name,rows }
def vp:Ps (ByteArray×Tr):=do
 let n <- ct
 must EB
 let x <- ey
 return (n,x)
def yS:Ps St:=do
 let name <- ct
 must rL
 let bF <- dC vp
 let aP <- gj cV
 return { kind:=6,name,bF,aP }
def yT:Ps St:=do
 must bZ
 let name <- ct
 let aP <- gj cV
 return { kind:=7,name,aP }
def yU:Ps St:=do
 let query <- cQ
 return { kind:=8,query }
def tJ:Ps Val:=do
 if <- may bE then
  return bU
 else
  let less <- may dr
  let n <- mq
  return ⟨2,if less then -n else n,ByteArray.empty⟩
def pw (k:Int):Ps Val:=do
 if k=9 then
  let v <- tJ
  must bg
  return v
 else return bU
def Mr:Ps St:=do
 let s <- jU [bO,bJ,dn,eo]
 let kind:Int:=if s=bO then 9 else if s=bJ then 10 else if s=dn then 11 else 12
 must bp
 let name <- ct
 must bg
 let aN <- pw kind
 let dH <- tJ
 must aG
 return { kind,name,aN,dH }
def bQ:Ps St:=λ l=>
 match l with
 | []=> .error 0
 | t::r=>
   if¬t.k=1 then .error (t::r).length
   else if t.s=cA then yU (t::r)
   else if t.s=eN then lG r
   else if t.s=fT then Mq r
   else if t.s=gD then yR r
   else if t.s=gF then yS r
   else if t.s=fL then yT r
   else if t.s=kQ then Mr r
   else .error (t::r).length
def zU:Ps Unit
 | []=> .error 0
 | t::r=>if t.k=0 then .ok ((),t::r)else .error (t::r).length
def wQ:Ps St:=do
 let s <- bQ
 let _ <- may wL
 zU
 return s
mutual
def Tr.depth:Tr->Nat
 | .mk _ _ _ _ args=>Tr.ko args+1
def Tr.ko:List Tr->Nat
 | []=>0
 | t::l=>max t.depth (Tr.ko l)
end
def Qu.exprs (q:Qu):List Tr:=q.items.map (·.1)++q.aP++q.group++q.having++q.order.map (·.1)
def St.exprs (s:St):List Tr:=s.rows.flatten++s.bF.map (·.2)++s.aP++s.query.exprs
def cR (l:List Tr):Bool:=l.any λ t=>decide (32 < t.depth)
def Qu.long (q:Qu):Bool:=decide (64 < q.items.length)|| decide (64 < q.group.length)|| decide (64 < q.order.length)
def St.long (s:St):Bool:=decide (64 < s.aY.length)|| decide (64 < s.rows.length)|| s.rows.any (λ r=>decide (64 < r.length))|| decide (64 < s.bF.length)|| s.query.long
def kU (s:List UInt8):Except (Nat×Nat) St:=
 match kP s with
 | .error x=> .error x
 | .ok l=>match wQ (l.map (·.w))with
   | .error n=> .error (((l[l.length - n]?).map (·.p)).getD 0,31)
   | .ok (t,_)=>if t.long then .error (0,2)else if cR t.exprs then .error (0,32)else .ok t
variable{β:Type}
theorem gp(p:Ps α)(f:α->Ps β)(l:aF):(p >>= f) l=match p l with | .error n=> .error n | .ok (x,r)=>f x r:=rfl
variable{f:α->Ps β}{l r:aF}{x:α}
theorem ag{p:Ps α}   (h:p l=.ok (x,r)):(p >>= f) l=f x r:=by rw[gp,h]
variable{n:Nat}
theorem ak{p:Ps α}   (h:p l=.error n):(p >>= f) l=.error n:=by rw[gp,h]
def iG (l:aF):Prop:=∃x e,l=x++ [e]/\e.k=0
variable{t:Wd}
theorem iG.tail(h:iG (t::r))(ht:t.k≠0):iG r:=by
 obtain⟨x,e,hx,he⟩:=h
 match x with
 | []=>simp at hx;exact absurd (hx.1▸he) ht
 | y::x=>simp at hx;exact⟨x,e,hx.2,he⟩
theorem iG.pos(h:iG l):0 < l.length:=by obtain⟨x,e,rfl,_⟩:=h;simp
theorem Ai{s:List UInt8} (h:fW s t=true):t.k≠0:=by unfold fW at h;simp at h;omega
theorem ez{s:List UInt8} (h:ar s l=true):∃t r,l=t::r/\fW s t=true:=by
 match l with
 | []=>simp[ar] at h
 | t::r=>exact⟨t,r,rfl,h⟩
def cC(p:Ps α):Prop:=∀l,match p l with
 | .ok (_,r)=>r <:+ l/\(iG l->iG r)
 | .error n=>n<=l.length/\(iG l->0 < n)
theorem cC.ok{p:Ps α}(h:cC p)  (e:p l=.ok (x,r)):r <:+ l/\(iG l->iG r):=by have:=h l;rw[e] at this;exact this
theorem cC.err{p:Ps α}(h:cC p)  (e:p l=.error n):n<=l.length/\(iG l->0 < n):=by have:=h l;rw[e] at this;exact this
theorem cC.len{p:Ps α}(h:cC p)  (e:p l=.ok (x,r)):r.length<=l.length:=(h.ok e).1.length_le
theorem bL(x:α):cC (pure x:Ps α):=λ l=>⟨suffix_refl _,id⟩
theorem bt{p:Ps α} (h:cC p)(k:∀x,cC (f x)):cC (p >>= f):=by
 intro l;rw[gp]
 cases e:p l with
 | error n=>exact h.err e
 | ok y=>
   obtain⟨x,r⟩:=y;obtain⟨h1,h2⟩:=h.ok e;show match f x r with | .ok (_,r)=>r <:+ l/\(iG l->iG r)| .error n=>n<=l.length/\(iG l->0 < n)
   cases e2:f x r with
   | error n=>obtain⟨k1,k2⟩:=(k x).err e2;exact⟨Nat.le_trans k1 h1.length_le,λ hl=>k2 (h2 hl)⟩
   | ok y=>obtain⟨z,r2⟩:=y;obtain⟨k1,k2⟩:=(k x).ok e2;exact⟨k1.trans h1,λ hl=>k2 (h2 hl)⟩
theorem EM{q:aF->Ps α}(h:∀l,cC (q l)):cC (λ l=>q l l):=λ l=>h l l
theorem nI:cC (wM:Ps α):=λ l=>⟨Nat.le_refl _,iG.pos⟩
theorem pC(s:List UInt8) {p q:Ps α}(hp:cC p)(hq:cC q):cC (λ l=>if ar s l then p l.tail else q l):=by
 intro l;by_cases h:ar s l=true
 ·obtain⟨t,r,rfl,ht⟩:=ez h;simp only[h,if_true,tail_cons]
  cases e:p r with
  | error n=>obtain⟨k1,k2⟩:=hp.err e;exact⟨by simp;omega,λ hl=>k2 (hl.tail (Ai ht))⟩
  | ok y=>obtain⟨z,r2⟩:=y;obtain⟨k1,k2⟩:=hp.ok e;exact⟨k1.trans (suffix_cons _ _),λ hl=>k2 (hl.tail (Ai ht))⟩
 ·simp only[h];exact hq l
theorem il (s:List UInt8):cC (may s):=pC s (p:=pure true) (q:=pure false) (bL _) (bL _)
theorem cq (s:List UInt8):cC (must s):=pC s (p:=pure ()) (q:=wM) (bL _) nI
theorem pD:∀ks,cC (jU ks)
 | []=>nI
 | s::ks=>pC s (p:=pure s) (q:=jU ks) (bL _) (pD ks)
variable{v:Wd->α}
theorem Dd{c:Wd->Prop} [DecidablePred c] (hc:∀t,c t->t.k≠0):
  cC (λ l=>match l with | []=> .error 0 | t::r=>if c t then .ok (v t,r)else .error (t::r).length:Ps α):=by
 intro l
 match l with
 | []=>exact⟨Nat.le_refl _,λ h=>h.pos⟩
 | t::r=>
   by_cases h:c t
   ·simp only[h,if_true];exact⟨suffix_cons _ _,λ hl=>hl.tail (hc t h)⟩
   ·simp only[h];exact⟨Nat.le_refl _,λ hl=>by simp⟩
theorem jN:cC ct:=by have:=Dd (c:=λ t=>t.k=1/\jT t.s=false) (v:=λ t=>(⟨t.s.toArray⟩:ByteArray)) (λ t h=>by rw[h.1];decide);exact ZgW
theorem ku:cC mq:=by have:=Dd (c:=λ t=>t.k=2) (v:=λ t=>t.n) (λ t h=>by rw[h];decide);exact ZgW
variable{el:Ps α}
theorem De(h:cC el):∀f acc,cC (pn el f acc)
 | 0,acc=>bL _
 | f+1,acc=>pC bg (p:=do let y <- el;pn el f (acc++ [y])) (q:=pure acc) (bt h λ y=>De h f _) (bL _)
theorem pF(h:cC el):cC (dC el):=bt h λ x=>EM (q:=λ l=>pn el l.length [x]) λ l=>De h _ _
variable{c:Prop}
theorem iq   [Decidable c] {p q:Ps α}(hp:cC p)(hq:cC q):cC (if c then p else q):=by
 split
 ·exact hp
 ·exact hq
def Ss:Tr:=mB 0 []
theorem jO:∀ {ks:List (List UInt8×Int)} {l:aF} {o:Int},eE ks l=some o->∃s,(s,o)∈ks/\ar s l=true
 | [],l,o,h=>by simp[eE] at h
 |(s,k)::ks,l,o,h=>by
  simp only[eE] at h;split at h
  ·rename_i hs;injection h with h;subst h;exact⟨s,mem_cons_self,hs⟩
  ·obtain⟨s',h1,h2⟩:=jO h;exact⟨s',mem_cons_of_mem _ h1,h2⟩
theorem sX{p:Ps α}(hp:cC p) {s:List UInt8} (h:ar s l=true):match p l.tail with
 | .ok (_,r)=>r <:+ l/\(iG l->iG r)
 | .error n=>n<=l.length/\(iG l->0 < n):=by have:=pC s hp (q:=wM) nI l;simpa only[h,if_true] using this
variable{below:Ps Tr}
theorem Aj(hb:cC below)(lv:Nat):∀f x,cC (kj below lv f x)
 | 0,x=>bL _
 | f+1,x=>by
   intro l;simp only[kj];cases e:eE (opsL lv) l with
   | none=>exact bL x l
   | some o=>obtain⟨s,_,hs⟩:=jO e;exact sX (p:=do let y <- below;kj below lv f (mB o [x,y])) (bt hb λ y=>Aj hb lv f _) hs
theorem qp(hb:cC below)(lv:Nat):cC (jM below lv):=bt hb λ x=>EM (q:=λ l=>kj below lv l.length x) λ l=>Aj hb lv _ _
theorem OC(hb:cC below)(x:Tr):cC (wO below x):=by
 intro l;unfold wO
 cases e:eE (opsL 3) l with
 | none=>exact bL x l
 | some o=>obtain⟨s,_,hs⟩:=jO e;exact sX (p:=do let y <- below;return mB o [x,y]) (bt hb λ y=>bL _) hs
theorem Su(hb:cC below):cC (qW below):=
 bt hb λ x=>bt (il _) λ b=>iq (bt (il _) λ n=>bt (cq _) λ _=>bL _) (OC hb x)
variable{same:Ps Tr}
theorem MA(s:List UInt8)(op:Int)(hs:cC same)(hb:cC below):cC (GI s op same below):=by
 refine bt (il _) λ b=>?_
 split
 ·exact bt hs λ x=>bL _
 ·exact hb
variable{whole:Ps Tr}
theorem Df(hw:cC whole)(op:Int):cC (qL whole op):=
 bt (iq (bt ku λ n=>bt (cq _) λ _=>bL _) (bL _)) λ _=>bt hw λ x=>
  bt (iq (bt (cq _) λ _=>bt hw λ y=>bL _) (bL _)) λ _=>bt (cq _) λ _=>bL _
theorem Sv(hw:cC whole)(op:Int):cC (po whole op):=
 iq (bt (il _) λ b=>iq (bt (cq _) λ _=>bL _) (Df hw _)) (Df hw op)
theorem Kr(hw:cC whole):cC (kT whole):=by
 refine bt jN λ n=>?_
 intro l;by_cases h:ar bp l=true
 ·simp only[h,if_true]
  cases e:kL n with
  | none=>exact nI (α:=Tr) l
  | some op=>exact sX (Sv hw op) h
 ·simp only[h];exact bL (ui n) l
theorem OD(hw:cC whole):cC (ek whole):=by
 intro l
 match l with
 | []=>exact⟨Nat.le_refl _,λ h=>h.pos⟩
 | t::r=>
   have one:∀(x:Tr),t.k≠0->r <:+ t::r/\(iG (t::r)->iG r):=λ x h=>⟨suffix_cons _ _,λ hl=>hl.tail h⟩
   simp only[ek];by_cases h1:t.k=2
   ·simp only[h1,if_true];exact one Ss Taa
   by_cases h2:t.k=3
   ·simp only[h1,h2,if_true];exact one Ss Taa
   by_cases h3:fW dZ t=true
   ·simp only[h1,h2,h3,if_true];exact one Ss (Ai h3)
   by_cases h4:fW dI t=true
   ·simp only[h1,h2,h3,h4,if_true];exact one Ss (Ai h4)
   by_cases h5:fW bE t=true
   ·simp only[h1,h2,h3,h4,h5,if_true];exact one Ss (Ai h5)
   by_cases h6:fW bp t=true
   ·simp only[h1,h2,h3,h4,h5,h6,if_true];exact sX (l:=t::r) (s:=bp) (p:=do let x <- whole;must aG;return x) (bt hw λ x=>bt (cq _) λ _=>bL _) h6
   ·simp only[h1,h2,h3,h4,h5,h6,if_false];exact Kr hw (t::r)
theorem cW:∀f lv,cC (pE f lv)
 | 0,_=>nI
 | f+1,0=>qp (cW f 1) 0
 | f+1,1=>qp (cW f 2) 1
 | f+1,2=>MA _ _ (cW f 2) (cW f 3)
 | f+1,3=>Su (cW f 4)
 | f+1,4=>qp (cW f 5) 4
 | f+1,5=>qp (cW f 6) 5
 | f+1,6=>MA _ _ (cW f 6) (cW f 7)
 | f+1,_+7=>OD (cW f 0)
theorem bR (lv:Nat):cC (aO lv):=EM (q:=λ l=>pE (8*l.length+8 - lv) lv) λ l=>cW _ _
theorem jP:cC ey:=bR 0
inductive dO where
 | good (l:aF)
 | bad (n:Nat)
def dO.left:dO->Nat
 | .good l=>l.length
 | .bad n=>n
def dO.nJ:dO->Bool
 | .good _=>true
 | .bad _=>false
def dO.words:dO->aF
 | .good l=>l
 | .bad _=> []
def eG(p:Ps α):dO->dO
 | .bad n=> .bad n
 | .good l=>match p l with
   | .ok (_,r)=> .good r
   | .error n=> .bad n
def pG(p:Ps α):dO->α->Prop
 | .bad _,_=>True
 | .good l,x=>match p l with
   | .ok (y,_)=>x=y
   | .error _=>True
variable{σ:dO}
theorem OI{p:Ps α}   (h:pG p σ x):eG (p >>= f) σ=eG (f x) (eG p σ):=by
 match σ with
 | .bad n=>rfl
 | .good l=>
   simp only[eG,pG,gp] at h ⊢
   cases e:p l with
   | error n=>rfl
   | ok y=>obtain⟨y,r⟩:=y;rw[e] at h;simp only at h;subst h;rfl
theorem OJ(x:α)(σ:dO):eG (pure x:Ps α) σ=σ:=by cases σ <;> rfl
theorem OL(p:Ps α)(n:Nat)(x:α):pG p (.bad n) x:=trivial
def dO.head (s:List UInt8)(σ:dO):Bool:=ar s σ.words
theorem Hc (s:List UInt8)(σ:dO):eG (may s) σ=if σ.head s then .good σ.words.tail else σ:=by
 match σ with
 | .bad n=>rfl
 | .good l=>simp only[eG,may,dO.head,dO.words];exact ZeC
theorem Di (s:List UInt8)(σ:dO):eG (must s) σ=if σ.head s then .good σ.words.tail else .bad σ.left:=by
 match σ with
 | .bad n=>rfl
 | .good l=>simp only[eG,must,dO.head,dO.words,dO.left];exact ZeC
theorem Kv (p:Ps Unit)(σ:dO):pG p σ ():=by
 match σ with
 | .bad n=>trivial
 | .good l=>simp only[pG];split <;> trivial
def dO.of (W:aF):dO->Prop
 | .good l=>l <:+ W/\iG l
 | .bad n=>0 < n/\n<=W.length
variable{W:aF}
theorem dO.ER(h:σ.of W):0 < σ.left/\σ.left<=W.length:=by
 match σ with
 | .bad n=>exact h
 | .good l=>exact⟨h.2.pos,h.1.length_le⟩
theorem dO.of_next(h:(dO.good l).of W):∃t r,l=t::r/\W[W.length - l.length]?=some t:=by
 obtain⟨⟨b,hb⟩,h2⟩:=h
 match l,h2.pos with
 | t::r,_=>refine⟨t,r,rfl,?_⟩;rw[<- hb,length_append,Nat.add_sub_cancel,getElem?_append_right (Nat.le_refl _),Nat.sub_self];rfl
theorem OX{s:List UInt8} (h:σ.head s=true):∃t r,σ=.good (t::r)/\fW s t=true:=by
 match σ with
 | .bad n=>simp[dO.head,dO.words,ar] at h
 | .good l=>obtain⟨t,r,e,ht⟩:=ez (s:=s) (l:=l) h;exact⟨t,r,by rw[e],ht⟩
theorem oT{s:List UInt8} (h:σ.head s=true):eG (may s) σ=.good σ.words.tail:=by rw[Hc,h];rfl
theorem kA{s:List UInt8} (h:σ.head s=false):eG (may s) σ=σ:=by rw[Hc,h];rfl
theorem rU{s:List UInt8} (h:σ.head s=true):eG (must s) σ=.good σ.words.tail:=by rw[Di,h];rfl
theorem yF{s:List UInt8} (h:σ.head s=false):eG (must s) σ=.bad σ.left:=by rw[Di,h];rfl
def fY:List (List UInt8)->Ps Unit
 | []=>pure ()
 | s::ks=>do must s;fY ks
theorem uz (s:List UInt8)(ks:List (List UInt8))(σ:dO):eG (fY (s::ks)) σ=eG (fY ks) (eG (must s) σ):=OI (x:=()) (Kv _ _)
theorem rV (σ:dO):eG (fY []) σ=σ:=OJ _ _
theorem AA (s:List UInt8)(σ:dO):eG (fY [s]) σ=eG (must s) σ:=by rw[uz,rV]
theorem tj (t:Wd)(r:aF):eG ct (.good (t::r))=if t.k=1/\jT t.s=false then .good r else .bad (r.length+1):=by
 simp only[eG,ct];by_cases h:t.k=1/\jT t.s=false
 ·simp only[h,and_self,if_true]
 ·simp only[h,if_false];rfl
theorem KH (t:Wd)(r:aF):pG ct (.good (t::r)) ⟨t.s.toArray⟩:=by
 simp only[pG,ct];by_cases h:t.k=1/\jT t.s=false
 ·simp only[h,and_self,if_true]
 ·simp only[h,if_false]
theorem vL{p:Ps α}  (h:eG p σ=.bad n)(x:α):pG p σ x:=by
 match σ with
 | .bad m=>trivial
 | .good l=>
   simp only[eG,pG] at h ⊢
   cases e:p l with
   | error m=>trivial
   | ok y=>obtain⟨y,r⟩:=y;rw[e] at h;cases h
section
variable {s:List UInt8} {op:Int} {same below:Ps Tr} {σ:dO} {x:Tr}
end
theorem kZ:cC nz:=by
 unfold nz;repeat (first | exact bL _ | exact il _ | exact cq _ | exact jN | exact ku | exact pD _ | exact jP | exact oy _ | apply iq | apply pF | refine bt ?_ λ _=>?_)
theorem ma:cC km:=by
 unfold km;repeat (first | exact bL _ | exact il _ | exact cq _ | exact jN | exact ku | exact pD _ | exact jP | exact oy _ | exact kZ | apply iq | apply pF | refine bt ?_ λ _=>?_)
theorem mM:cC gW:=by
 unfold gW;repeat (first | exact bL _ | exact il _ | exact cq _ | exact jN | exact ku | exact pD _ | exact jP | exact oy _ | exact kZ | exact ma | exact xP | exact xQ | exact vA | exact xR | exact xS | apply iq | apply pF | refine bt ?_ λ _=>?_)
theorem wZ:cC rO:=by
 unfold rO;repeat (first | exact bL _ | exact il _ | exact cq _ | exact jN | exact ku | exact pD _ | exact jP | exact oy _ | exact kZ | exact ma | exact xP | exact xQ | exact vA | exact xR | exact xS | exact mM | exact GZ | exact Ha | exact Ks | exact OE _ | exact OG | exact EO | exact Kt | apply iq | apply pF | refine bt ?_ λ _=>?_)
theorem Dg:cC vp:=by
 unfold vp;repeat (first | exact bL _ | exact il _ | exact cq _ | exact jN | exact ku | exact pD _ | exact jP | exact oy _ | exact kZ | exact ma | exact xP | exact xQ | exact vA | exact xR | exact xS | exact mM | exact GZ | exact Ha | exact Ks | exact OE _ | exact OG | exact EO | exact Kt | exact wZ | exact Xl | apply iq | apply pF | refine bt ?_ λ _=>?_)
def fO(m:Nat)(p q:Ps α):Prop:=∀l:aF,l.length<=m->p l=q l
theorem dK(m:Nat)(p:Ps α):fO m p p:=λ _ _=>rfl
variable{m:Nat}{g:α->Ps β}
theorem dL{p q:Ps α} (h:fO m p q)(hp:cC p)(k:∀x,fO m (f x) (g x)):fO m (p >>= f) (q >>= g):=by
 intro l hl;rw[gp,gp,<- h l hl]
 cases e:p l with
 | error n=>rfl
 | ok y=>obtain⟨x,r⟩:=y;exact k x r (by have:=hp.len e;omega)
variable{p' q':Ps α}
theorem sY    [Decidable c] {p q:Ps α}(h:fO m p p')(k:fO m q q'):fO m (if c then p else q) (if c then p' else q'):=by
 split
 ·exact h
 ·exact k
theorem head_tail{s:List UInt8} (h:ar s l=true):l.tail.length+1=l.length:=by obtain⟨t,r,rfl,_⟩:=ez h;rfl
variable{q:Ps Tr}
theorem xT{p:Ps Tr}(h:fO m p q)(hp:cC p)(lv:Nat):∀f x,fO m (kj p lv f x) (kj q lv f x)
 | 0,x=>dK _ _
 | f+1,x=>by
   intro l hl;simp only[kj];cases e:eE (opsL lv) l with
   | none=>rfl
   | some o=>obtain⟨s,_,hs⟩:=jO e;have:=head_tail hs;exact dL h hp (λ y=>xT h hp lv f _) l.tail Taa
theorem gS{p:Ps Tr}(h:fO m p q)(hp:cC p)(lv:Nat):fO m (jM p lv) (jM q lv):=dL h hp λ x l hl=>xT h hp lv _ _ l hl
theorem Dh{p:Ps Tr}(h:fO m p q)(hp:cC p):fO m (qW p) (qW q):=by
 refine dL h hp λ x=>dL (dK _ _) (il _) λ b=>sY (dK _ _) ?_
 intro l hl;unfold wO
 cases e:eE (opsL 3) l with
 | none=>rfl
 | some o=>obtain⟨s,_,hs⟩:=jO e;have:=head_tail hs;exact dL h hp (λ y=>dK _ _) l.tail Taa
theorem Ku(s:List UInt8) {p q:Ps α}(h:fO m p p')(k:fO (m+1) q q'):fO (m+1) (λ l=>if ar s l then p l.tail else q l) (λ l=>if ar s l then p' l.tail else q' l):=by
 intro l hl;by_cases e:ar s l=true
 ·have:=head_tail e;simp only[e,if_true];exact h l.tail Taa
 ·simp only[e];exact k l hl
theorem bK(s:List UInt8)(f:Bool->Ps α):(may s >>= f)=λ l=>if ar s l then f true l.tail else f false l:=by funext l;rw[gp];unfold may;exact ZeC
theorem vB{p p' q':Ps Tr}(s:List UInt8)(op:Int)(h:fO m p p')(hp:cC p)(k:fO (m+1) q q'):fO (m+1) (GI s op p q) (GI s op p' q'):=by unfold GI;rw[bK,bK];exact Ku s (dL h hp λ x=>dK _ _) k
theorem Ak{p:Ps Tr}(h:fO m p q)(hp:cC p)(op:Int):fO m (qL p op) (qL q op):=
 dL (dK _ _) (iq (bt ku λ n=>bt (cq _) λ _=>bL _) (bL _)) λ _=>dL h hp λ x=>
  dL (sY (dL (dK _ _) (cq _) λ _=>dL h hp λ y=>dK _ _) (dK _ _)) (iq (bt (cq _) λ _=>bt hp λ y=>bL _) (bL _)) λ _=>dK _ _
theorem OH{p:Ps Tr}(h:fO m p q)(hp:cC p)(op:Int):fO m (po p op) (po q op):=
 sY (dL (dK _ _) (il _) λ b=>sY (dK _ _) (Ak h hp _)) (Ak h hp op)
theorem Hb{p:Ps Tr}(h:fO m p q)(hp:cC p):fO (m+1) (kT p) (kT q):=by
 refine dL (dK _ _) jN λ n=>?_
 intro l hl;by_cases e:ar bp l=true
 ·have:=head_tail e;simp only[e,if_true]
  cases kL n with
  | none=>rfl
  | some op=>exact OH h hp op l.tail Taa
 ·simp only[e];rfl
theorem Al{p:Ps Tr}(h:fO m p q)(hp:cC p):fO (m+1) (ek p) (ek q):=by
 intro l hl
 match l with
 | []=>rfl
 | t::r=>have e1:(do let x <- p;must aG;return x:Ps Tr) r=(do let x <- q;must aG;return x:Ps Tr) r:=dL h hp (λ x=>dK _ _) r (by simp at hl;omega);have e2:=Hb h hp (t::r) hl;simp only[ek];rw[e1,e2]
theorem jh:∀(f g lv:Nat) (m:Nat),lv<=7->8*m+8 - lv<=f->8*m+8 - lv<=g->fO m (pE f lv) (pE g lv)
 | 0,_,_,_,_,h,_=>by omega
 | _,0,_,_,_,_,h=>by omega
 | f+1,g+1,0,m,_,hf,hg=>gS (jh f g 1 m Taa Taa Taa) (cW _ _) 0
 | f+1,g+1,1,m,_,hf,hg=>gS (jh f g 2 m Taa Taa Taa) (cW _ _) 1
 | f+1,g+1,2,0,_,hf,hg=>λ l hl=>by
   match l,hl with
   | [],_=>exact jh f g 3 0 Taa Taa Taa [] (Nat.le_refl _)
 | f+1,g+1,2,m+1,_,hf,hg=>vB _ _ (jh f g 2 m Taa Taa Taa) (cW _ _) (jh f g 3 (m+1) Taa Taa Taa)
 | f+1,g+1,3,m,_,hf,hg=>Dh (jh f g 4 m Taa Taa Taa) (cW _ _)
 | f+1,g+1,4,m,_,hf,hg=>gS (jh f g 5 m Taa Taa Taa) (cW _ _) 4
 | f+1,g+1,5,m,_,hf,hg=>gS (jh f g 6 m Taa Taa Taa) (cW _ _) 5
 | f+1,g+1,6,0,_,hf,hg=>λ l hl=>by
   match l,hl with
   | [],_=>exact jh f g 7 0 Taa Taa Taa [] (Nat.le_refl _)
 | f+1,g+1,6,m+1,_,hf,hg=>vB _ _ (jh f g 6 m Taa Taa Taa) (cW _ _) (jh f g 7 (m+1) Taa Taa Taa)
 | f+1,g+1,7,0,_,hf,hg=>λ l hl=>by
   match l,hl with
   | [],_=>rfl
 | f+1,g+1,7,m+1,_,hf,hg=>Al (jh f g 0 m Taa Taa Taa) (cW _ _)
 | _+1,_+1,_+8,_,h,_,_=>by omega
variable{lv:Nat}
theorem Sw{f:Nat} (hlv:lv<=7)(h:8*l.length+8 - lv<=f):pE f lv l=aO lv l:=jh f _ lv l.length hlv h (Nat.le_refl _) l (Nat.le_refl _)
theorem eX{f:Nat}(hlv:lv<=7)(h:8*m+8 - lv<=f):fO m (pE f lv) (aO lv):=λ l hl=>Sw hlv Taa
theorem yZ:aO 0=jM (aO 1) 0:=funext λ l=>gS (eX (f:=8*l.length+7) (m:=l.length) Taa Taa) (cW _ _) 0 l (Nat.le_refl _)
theorem za:aO 1=jM (aO 2) 1:=funext λ l=>gS (eX (f:=8*l.length+6) (m:=l.length) Taa Taa) (cW _ _) 1 l (Nat.le_refl _)
theorem zb:aO 2=GI dT 4 (aO 2) (aO 3):=funext λ l=>by
 match l with
 | []=>rfl
 | t::r=>exact vB dT 4 (eX (f:=8*(t::r).length+5) (m:=r.length) Taa Tav) (cW _ _) (eX (m:=r.length+1) Taa Tav) (t::r) Tae
theorem vC:aO 3=qW (aO 4):=funext λ l=>Dh (eX (f:=8*l.length+4) (m:=l.length) Taa Taa) (cW _ _) l (Nat.le_refl _)
theorem ze:aO 4=jM (aO 5) 4:=funext λ l=>gS (eX (f:=8*l.length+3) (m:=l.length) Taa Taa) (cW _ _) 4 l (Nat.le_refl _)
theorem zf:aO 5=jM (aO 6) 5:=funext λ l=>gS (eX (f:=8*l.length+2) (m:=l.length) Taa Taa) (cW _ _) 5 l (Nat.le_refl _)
theorem EP:aO 6=GI dr 3 (aO 6) (aO 7):=funext λ l=>by
 match l with
 | []=>rfl
 | t::r=>exact vB dr 3 (eX (f:=8*(t::r).length+1) (m:=r.length) Taa Tav) (cW _ _) (eX (m:=r.length+1) Taa Tav) (t::r) Tae
theorem vD:aO 7=ek (aO 0):=funext λ l=>by
 match l with
 | []=>rfl
 | t::r=>exact Al (eX (f:=8*(t::r).length) (m:=r.length) Taa Tav) (cW _ _) (t::r) Tae
theorem vE:∀ks,eE ks []=none
 | []=>rfl
 |(s,o)::ks=>by simp only[eE,ar];exact vE ks
theorem Am(hb:cC below)(lv:Nat):∀(f g:Nat) (x:Tr) (l:aF),l.length<=f->l.length<=g->kj below lv f x l=kj below lv g x l
 | 0,0,x,l,_,_=>rfl
 | 0,g+1,x,l,h,_=>by have:l=[]:=eq_nil_of_length_eq_zero Taa;subst this;simp only[kj,vE];rfl
 | f+1,0,x,l,_,h=>by have:l=[]:=eq_nil_of_length_eq_zero Taa;subst this;simp only[kj,vE];rfl
 | f+1,g+1,x,l,hf,hg=>by
   simp only[kj];cases e:eE (opsL lv) l with
   | none=>rfl
   | some o=>
     obtain⟨s,_,hs⟩:=jO e;have ht:=head_tail hs;simp only[gp];cases e2:below l.tail with
     | error n=>rfl
     | ok y=>obtain⟨y,r⟩:=y;have:=hb.len e2;exact Am hb lv f g _ r Taa Taa
def Hd (below:Ps Tr)(lv:Nat)(x:Tr):Ps Tr:=λ l=>kj below lv l.length x l
theorem ES (below:Ps Tr)(lv:Nat):jM below lv=(do let x <- below;Hd below lv x):=rfl
theorem pH(hb:cC below)(lv:Nat)(x:Tr)(l:aF):Hd below lv x l=match eE (opsL lv) l with
  | none=> .ok (x,l)
  | some o=>(do let y <- below;Hd below lv (mB o [x,y])) l.tail:=by
 match l with
 | []=>simp only[vE];rfl
 | t::r=>
   show kj below lv (r.length+1) x (t::r)=_;simp only[kj]
   cases e:eE (opsL lv) (t::r)with
   | none=>rfl
   | some o=>
     simp only[gp,tail_cons]
     cases e2:below r with
     | error n=>rfl
     | ok y=>obtain⟨y,r2⟩:=y;have:=hb.len e2;exact Am hb lv _ _ _ r2 Taa (Nat.le_refl _)
theorem Ao(hb:cC el):∀(f g:Nat) (acc:List α) (l:aF),l.length<=f->l.length<=g->pn el f acc l=pn el g acc l
 | 0,0,x,l,_,_=>rfl
 | 0,g+1,x,l,h,_=>by have:l=[]:=eq_nil_of_length_eq_zero Taa;subst this;simp[pn,ar];rfl
 | f+1,0,x,l,_,h=>by have:l=[]:=eq_nil_of_length_eq_zero Taa;subst this;simp[pn,ar];rfl
 | f+1,g+1,x,l,hf,hg=>by
   simp only[pn];cases e:ar bg l
   ·rfl
   ·have ht:=head_tail e;simp only[if_true,gp];cases e2:el l.tail with
    | error n=>rfl
    | ok y=>obtain⟨y,r⟩:=y;have:=hb.len e2;exact Ao hb f g _ r Taa Taa
def vF(el:Ps α)(acc:List α):Ps (List α):=λ l=>pn el l.length acc l
theorem ET(el:Ps α):dC el=(do let x <- el;vF el [x]):=rfl
theorem vG(hb:cC el)(acc:List α):vF el acc=(do
  if <- may bg then
   let y <- el
   vF el (acc++ [y])
  else return acc):=by
 funext l;rw[bK]
 match l with
 | []=>rfl
 | t::r=>
   show pn el (r.length+1) acc (t::r)=_;simp only[pn];cases e:ar bg (t::r)
   ·rfl
   ·simp only[if_true,gp,tail_cons]
    cases e2:el r with
    | error n=>rfl
    | ok y=>obtain⟨y,r2⟩:=y;have:=hb.len e2;exact Ao hb _ _ _ r2 Taa (Nat.le_refl _)
section
variable {α β γ:Type}
theorem ir (p:Ps α)(g:α->Ps β)(f:β->Ps γ):((p >>= g)>>= f)=(p >>= λ x=>g x >>= f):=by funext l;rw[gp,gp,gp];cases p l <;> rfl
end
theorem xu (s t:List UInt8)(k:Unit->Ps St):(must s >>= λ _=>must t >>= k)=(fY [s,t] >>= k):=by unfold fY;rw[ir];congr 1;funext _;unfold fY;rw[ir];congr 1
section
variable {t:Wd} {r:aF} {x:Tr}
structure Plain (t:Wd):Prop where
 i:t.k≠2
 s:t.k≠3
structure Zz (t:Wd):Prop where
 p:Plain t
 wt:fW dZ t=false
 wf:fW dI t=false
 wn:fW bE t=false
 wo:fW bp t=false
end
section
variable {n:ByteArray} {σ:dO} {z:Tr} {op:Int}
end
theorem PO{s:List UInt8} {x:Nat×Nat}(h:kP s=.error x):kU s=.error x:=by unfold kU;rw[h]
theorem DF{s:List UInt8} {l:List mA} (h:kP s=.ok l)(hw:wQ (l.map (·.w))=.error n):kU s=.error (((l[l.length - n]?).map (·.p)).getD 0,31):=by unfold kU;rw[h];simp only;rw[hw]
variable{d:St}
theorem Ls{s:List UInt8} {l:List mA}  (h:kP s=.ok l)(hw:wQ (l.map (·.w))=.ok (d,r)):kU s=if d.long then .error (0,2)else if cR d.exprs then .error (0,32)else .ok d:=by unfold kU;rw[h];simp only;rw[hw]
end Go.Proofs.YtehhdlgjfdnafaaGreatDoor
