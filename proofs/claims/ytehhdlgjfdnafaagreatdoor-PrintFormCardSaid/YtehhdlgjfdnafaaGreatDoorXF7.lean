/- Parts of the proof. -/
import Derived.Test.YtehhdlgjfdnafaaGreatDoorXF5
namespace Go.Proofs.YtehhdlgjfdnafaaGreatDoor
open List
set_option maxHeartbeats 90000000
set_option maxRecDepth 100000
set_option linter.unusedSimpArgs false
set_option linter.unusedVariables false
def XU:List UInt8:=[111,114]
def La:List UInt8:=[97,110,100]
def eC:List UInt8:=[110,111,116]
def mz:List UInt8:=[105,115]
def bT:List UInt8:=[110,117,108,108]
def eK:List UInt8:=[116,114,117,101]
def eh:List UInt8:=[102,97,108,115,101]
def dw:List UInt8:=[115,101,108,101,99,116]
def cD:List UInt8:=[102,114,111,109]
def jD:List UInt8:=[111,110,108,121]
def dB:List UInt8:=[119,104,101,114,101]
def iR:List UInt8:=[103,114,111,117,112]
def nB:List UInt8:=[98,121]
def nC:List UInt8:=[104,97,118,105,110,103]
def iT:List UInt8:=[111,114,100,101,114]
def ju:List UInt8:=[108,105,109,105,116]
def mJ:List UInt8:=[100,101,115,99]
def mA:List UInt8:=[97,115]
def fA:List UInt8:=[99,114,101,97,116,101]
def gu:List UInt8:=[100,114,111,112]
def iw:List UInt8:=[105,110,115,101,114,116]
def gJ:List UInt8:=[117,112,100,97,116,101]
def gK:List UInt8:=[100,101,108,101,116,101]
def lX:List UInt8:=[99,97,108,108]
def cG:List UInt8:=[116,97,98,108,101]
def dH:List UInt8:=[118,105,101,119]
def iM:List UInt8:=[106,111,98]
def CQ:List UInt8:=[105,110,116]
def wP:List UInt8:=[98,111,111,108]
def zE:List UInt8:=[116,101,120,116]
def lY:List UInt8:=[116,105,109,101]
def cx:List UInt8:=[101,118,101,114,121]
def jR:List UInt8:=[115,112,97,99,101]
def fp:List UInt8:=[105,110,116,111]
def bV:List UInt8:=[114,101,102,114,101,115,104]
def bQ:List UInt8:=[99,111,109,112,114,101,115,115]
def df:List UInt8:=[100,101,99,111,109,112,114,101,115,115]
def eP:List UInt8:=[100,114,111,112,95,99,104,117,110,107,115]
def CR:List UInt8:=[116,111]
def fg:List UInt8:=[97,102,116,101,114]
def jf:List UInt8:=[118,97,108,117,101,115]
def sT:List UInt8:=[115,101,116]
def XV:List UInt8:=[98,117,99,107,101,116]
def xN:List UInt8:=[99,111,117,110,116]
def ajG:List UInt8:=[115,117,109]
def ajH:List UInt8:=[109,105,110]
def ajI:List UInt8:=[109,97,120]
def ajJ:List UInt8:=[97,118,103]
def aab:List UInt8:=[102,105,114,115,116]
def afe:List UInt8:=[108,97,115,116]
def bt:List UInt8:=[44]
def bG:List UInt8:=[40]
def aM:List UInt8:=[41]
def zF:List UInt8:=[59]
def fq:List UInt8:=[42]
def dP:List UInt8:=[45]
def IM:List UInt8:=[43]
def BV:List UInt8:=[47]
def vh:List UInt8:=[37]
def IP:List UInt8:=[61]
def aff:List UInt8:=[60,62]
def afg:List UInt8:=[60]
def afh:List UInt8:=[60,61]
def afi:List UInt8:=[62]
def afj:List UInt8:=[62,61]
structure Qu where
 items:List (Tr×ByteArray):=[]
 aP:ByteArray:=ByteArray.empty
 only:Bool:=false
 aS:List Tr:=[]
 group:List Tr:=[]
 having:List Tr:=[]
 order:List (Tr×Bool):=[]
 aN:List Int:=[]
structure St where
 kind:Int:=0
 name:ByteArray:=ByteArray.empty
 bg:List (ByteArray×Int):=[]
 time:ByteArray:=ByteArray.empty
 every:Int:=0
 space:ByteArray:=ByteArray.empty
 parts:Int:=0
 query:Qu:= {}
 what:Int:=0
 cM:ByteArray:=ByteArray.empty
 a:Int:=0
 b:Int:=0
 rows:List (List Tr):=[]
 bF:List (ByteArray×Tr):=[]
 aS:List Tr:=[]
 aP:Val:=aV
 dx:Val:=aV
abbrev aK:=List Wd
def Ps (α:Type):Type:=aK->Except Nat (α×aK)
instance:Monad Ps where
 pure x:=λ l=> .ok (x,l)
 bind p f:=λ l=>match p l with
  | .error n=> .error n
  | .ok (x,r)=>f x r
def gV (s:List UInt8)(t:Wd):Bool:=(t.k==1 || t.k==4)&& t.s==s
def ar (s:List UInt8):aK->Bool
 | []=>false
 | t::_=>gV s t
variable{α:Type}
def tS:Ps α:=λ l=> .error l.length
def may (s:List UInt8):Ps Bool:=λ l=>if ar s l then .ok (true,l.tail)else .ok (false,l)
def must (s:List UInt8):Ps Unit:=λ l=>if ar s l then .ok ((),l.tail)else .error l.length
def jS:List (List UInt8)->Ps (List UInt8)
 | []=>tS
 | s::ks=>λ l=>if ar s l then .ok (s,l.tail)else jS ks l
def cC:Ps ByteArray
 | []=> .error 0
 | t::r=>if t.k=1/\kP t.s=false then .ok (⟨t.s.toArray⟩,r)else .error (t::r).length
def lZ:Ps Int
 | []=> .error 0
 | t::r=>if t.k=2 then .ok (t.n,r)else .error (t::r).length
def nD(el:Ps α):Nat->List α->Ps (List α)
 | 0,acc=>pure acc
 | f+1,acc=>λ l=>if ar bt l then(do let y <- el;nD el f (acc++ [y])) l.tail else .ok (acc,l)
def dN(el:Ps α):Ps (List α):=do
 let x <- el
 λ l=>nD el l.length [x] l
def opsL:Nat->List (List UInt8×Int)
 | 0=> [(XU,17)]
 | 1=> [(La,16)]
 | 3=> [(IP,10),(aff,11),(afg,12),(afh,13),(afi,14),(afj,15)]
 | 4=> [(IM,5),(dP,6)]
 | 5=> [(fq,7),(BV,8),(vh,9)]
 | _=> []
def eB:List (List UInt8×Int)->aK->Option Int
 | [],_=>none
 |(s,o)::k,l=>if ar s l then some o else eB k l
def jE (below:Ps Tr)(lv:Nat):Nat->Tr->Ps Tr
 | 0,x=>pure x
 | f+1,x=>λ l=>match eB (opsL lv) l with
   | none=> .ok (x,l)
   | some o=>(do let y <- below;jE below lv f (lO o [x,y])) l.tail
def jZ (below:Ps Tr)(lv:Nat):Ps Tr:=do
 let x <- below
 λ l=>jE below lv l.length x l
def wQ (below:Ps Tr)(x:Tr):Ps Tr:=λ l=>match eB (opsL 3) l with
 | none=> .ok (x,l)
 | some o=>(do let y <- below;return lO o [x,y]) l.tail
def qU (below:Ps Tr):Ps Tr:=do
 let x <- below
 if <- may mz then
  let n <- may eC
  must bT
  return lO (if n then 19 else 18) [x]
 else wQ below x
def IQ (s:List UInt8)(op:Int)(same below:Ps Tr):Ps Tr:=do
 if <- may s then
  let x <- same
  return lO op [x]
 else below
def XW:List (List UInt8×Int):=[(XV,20),(xN,22),(ajG,23),(ajH,24),(ajI,25),(ajJ,26),(aab,27),(afe,28)]
def lB (n:ByteArray):Option Int:=XW.lookup n.data.toList
def rY (op:Int):Ps Int:=
 if op=20 then(do
  let n <- lZ
  must bt
  return n)else pure 0
def ot (whole:Ps Tr)(op:Int):Ps (List Tr):=
 if op=27\/op=28 then(do
  must bt
  let y <- whole
  return [y])else pure []
def nY (whole:Ps Tr)(op:Int):Ps Tr:=do
 let width <- rY op
 let x <- whole
 let ys <- ot whole op
 must aM
 return .mk op aV ByteArray.empty width (x::ys)
def countP (whole:Ps Tr):Ps Tr:=do
 if <- may fq then
  must aM
  return lO 21 []
 else nY whole 22
def ou (whole:Ps Tr)(op:Int):Ps Tr:=if op=22 then countP whole else nY whole op
def kU (whole:Ps Tr):Ps Tr:=do
 let n <- cC
 λ l=>if ar bG l then(match lB n with
  | none=> .error l.length
  | some op=>ou whole op l.tail)else .ok (rV n,l)
def dZ (whole:Ps Tr):Ps Tr:=λ l=>
 match l with
 | []=> .error 0
 | t::r=>
   if t.k=2 then .ok (mI ⟨2,t.n,ByteArray.empty⟩,r)
   else if t.k=3 then .ok (mI ⟨3,0,⟨t.s.toArray⟩⟩,r)
   else if gV eK t then .ok (mI ⟨1,1,ByteArray.empty⟩,r)
   else if gV eh t then .ok (mI ⟨1,0,ByteArray.empty⟩,r)
   else if gV bT t then .ok (mI aV,r)
   else if gV bG t then(do let x <- whole;must aM;return x) r
   else kU whole (t::r)
def pE:Nat->Nat->Ps Tr
 | 0,_=>tS
 | f+1,0=>jZ (pE f 1) 0
 | f+1,1=>jZ (pE f 2) 1
 | f+1,2=>IQ eC 4 (pE f 2) (pE f 3)
 | f+1,3=>qU (pE f 4)
 | f+1,4=>jZ (pE f 5) 4
 | f+1,5=>jZ (pE f 6) 5
 | f+1,6=>IQ dP 3 (pE f 6) (pE f 7)
 | f+1,_=>dZ (pE f 0)
def aW (lv:Nat):Ps Tr:=λ l=>pE (8*l.length+8 - lv) lv l
def eD:Ps Tr:=aW 0
def fU (s:List UInt8):Ps (List Tr):=do
 if <- may s then
  let x <- eD
  return [x]
 else return []
def nE:Ps (Tr×ByteArray):=do
 let x <- eD
 if <- may mA then
  let n <- cC
  return (x,n)
 else return (x,ByteArray.empty)
def km:Ps (Tr×Bool):=do
 let x <- eD
 let d <- may mJ
 return (x,d)
def qG:Ps (List (Tr×ByteArray)):=do
 if <- may fq then
  return []
 else dN nE
def pc:Ps (List Tr):=do
 if <- may iR then
  must nB
  dN eD
 else return []
def ma:Ps (List (Tr×Bool)):=do
 if <- may iT then
  must nB
  dN km
 else return []
def qH:Ps (List Int):=do
 if <- may ju then
  let n <- lZ
  return [n]
 else return []
def dc:Ps Qu:=do
 must dw
 let items <- qG
 must cD
 let only <- may jD
 let aP <- cC
 let aS <- fU dB
 let group <- pc
 let having <- fU nC
 let order <- ma
 let aN <- qH
 return { items,aP,only,aS,group,having,order,aN }
def typeOf (s:List UInt8):Int:=if s=CQ then 2 else if s=wP then 1 else 3
def gL:Ps (ByteArray×Int):=do
 let n <- cC
 let t <- jS [CQ,wP,zE]
 return (n,typeOf t)
def tT:Ps (ByteArray×Int):=do
 if <- may jR then
  let s <- cC
  must fp
  let n <- lZ
  return (s,n)
 else return (ByteArray.empty,0)
def tU:Ps St:=do
 let name <- cC
 must bG
 let bg <- dN gL
 must aM
 must lY
 let time <- cC
 must cx
 let every <- lZ
 let sp <- tT
 return { kind:=1,name,bg,time,every,space:=sp.1,parts:=sp.2 }
def Gi:Ps St:=do
 let name <- cC
 must mA
 let query <- dc
 return { kind:=2,name,query }
def tV (s:List UInt8):Ps (Int×Int):=do
 if s=bV then
  must cD
  let a <- lZ
  must CR
  let b <- lZ
  return (a,b)
 else
  must fg
  let a <- lZ
  return (a,0)
def Fk:Ps St:=do
 let name <- cC
 let s <- jS [bV,bQ,gu]
 let cM <- cC
 let ab <- tV s
 must cx
 let every <- lZ
 return { kind:=3,name,what:=if s=bV then 9 else if s=bQ then 10 else 12,cM,a:=ab.1,b:=ab.2,every }
def kK:Ps St:=do
 let s <- jS [cG,dH,iM]
 if s=cG then tU else if s=dH then Gi else Fk
def AL:Ps St:=do
 let s <- jS [cG,dH,iM]
 let name <- cC
 return { kind:=4,what:=if s=cG then 1 else if s=dH then 2 else 3,name }
def rZ:Ps (List Tr):=do
 must bG
 let l <- dN eD
 must aM
 return l
def pX:Ps St:=do
 must fp
 let name <- cC
 must jf
 let rows <- dN rZ
 return { kind:=5,name,rows }
def vR:Ps (ByteArray×Tr):=do
 let n <- cC
 must IP
 let x <- eD
 return (n,x)
def pY:Ps St:=do
 let name <- cC
 must sT
 let bF <- dN vR
 let aS <- fU dB
 return { kind:=6,name,bF,aS }
def pZ:Ps St:=do
 must cD
 let name <- cC
 let aS <- fU dB
 return { kind:=7,name,aS }
def qa:Ps St:=do
 let query <- dc
 return { kind:=8,query }
def qV:Ps Val:=do
 if <- may bT then
  return aV
 else
  let less <- may dP
  let n <- lZ
  return ⟨2,if less then -n else n,ByteArray.empty⟩
def kB (k:Int):Ps Val:=do
 if k=9 then
  let v <- qV
  must bt
  return v
 else return aV
def AO:Ps St:=do
 let s <- jS [bV,bQ,df,eP]
 let kind:Int:=if s=bV then 9 else if s=bQ then 10 else if s=df then 11 else 12
 must bG
 let name <- cC
 must bt
 let aP <- kB kind
 let dx <- qV
 must aM
 return { kind,name,aP,dx }
def bK:Ps St:=λ l=>
 match l with
 | []=> .error 0
 | t::r=>
   if¬t.k=1 then .error (t::r).length
   else if t.s=dw then qa (t::r)
   else if t.s=fA then kK r
   else if t.s=gu then AL r
   else if t.s=iw then pX r
   else if t.s=gJ then pY r
   else if t.s=gK then pZ r
   else if t.s=lX then AO r
   else .error (t::r).length
def CS:Ps Unit
 | []=> .error 0
 | t::r=>if t.k=0 then .ok ((),t::r)else .error (t::r).length
def zG:Ps St:=do
 let s <- bK
 let _ <- may zF
 CS
 return s
mutual
def Tr.depth:Tr->Nat
 | .mk _ _ _ _ args=>Tr.mb args+1
def Tr.mb:List Tr->Nat
 | []=>0
 | t::l=>max t.depth (Tr.mb l)
end
def Qu.exprs (q:Qu):List Tr:=q.items.map (·.1)++q.aS++q.group++q.having++q.order.map (·.1)
def St.exprs (s:St):List Tr:=s.rows.flatten++s.bF.map (·.2)++s.aS++s.query.exprs
def di (l:List Tr):Bool:=l.any λ t=>decide (32 < t.depth)
def Qu.long (q:Qu):Bool:=decide (64 < q.items.length)|| decide (64 < q.group.length)|| decide (64 < q.order.length)
def St.long (s:St):Bool:=decide (64 < s.bg.length)|| decide (64 < s.rows.length)|| s.rows.any (λ r=>decide (64 < r.length))|| decide (64 < s.bF.length)|| s.query.long
def gw (s:List UInt8):Except (Nat×Nat) St:=
 match kO s with
 | .error x=> .error x
 | .ok l=>match zG (l.map (·.w))with
   | .error n=> .error (((l[l.length - n]?).map (·.p)).getD 0,31)
   | .ok (t,_)=>if t.long then .error (0,2)else if di t.exprs then .error (0,32)else .ok t
variable{β:Type}
theorem gP(p:Ps α)(f:α->Ps β)(l:aK):(p >>= f) l=match p l with | .error n=> .error n | .ok (x,r)=>f x r:=rfl
variable{f:α->Ps β}{l r:aK}{x:α}
theorem ag{p:Ps α}   (h:p l=.ok (x,r)):(p >>= f) l=f x r:=by rw[gP,h]
variable{n:Nat}
theorem ak{p:Ps α}   (h:p l=.error n):(p >>= f) l=.error n:=by rw[gP,h]
theorem Je(x:α)(l:aK):(pure x:Ps α) l=.ok (x,l):=rfl
def jv (l:aK):Prop:=∃x e,l=x++ [e]/\e.k=0
variable{t:Wd}
theorem jv.tail(h:jv (t::r))(ht:t.k≠0):jv r:=by
 obtain⟨x,e,hx,he⟩:=h
 match x with
 | []=>simp at hx;exact absurd (hx.1▸he) ht
 | y::x=>simp at hx;exact⟨x,e,hx.2,he⟩
theorem jv.pos(h:jv l):0 < l.length:=by obtain⟨x,e,rfl,_⟩:=h;simp
theorem CZ{s:List UInt8} (h:gV s t=true):t.k≠0:=by unfold gV at h;simp at h;omega
theorem eU{s:List UInt8} (h:ar s l=true):∃t r,l=t::r/\gV s t=true:=by
 match l with
 | []=>simp[ar] at h
 | t::r=>exact⟨t,r,rfl,h⟩
def cU(p:Ps α):Prop:=∀l,match p l with
 | .ok (_,r)=>r <:+ l/\(jv l->jv r)
 | .error n=>n<=l.length/\(jv l->0 < n)
theorem cU.ok{p:Ps α}(h:cU p)  (e:p l=.ok (x,r)):r <:+ l/\(jv l->jv r):=by have:=h l;rw[e] at this;exact this
theorem cU.err{p:Ps α}(h:cU p)  (e:p l=.error n):n<=l.length/\(jv l->0 < n):=by have:=h l;rw[e] at this;exact this
theorem cU.len{p:Ps α}(h:cU p)  (e:p l=.ok (x,r)):r.length<=l.length:=(h.ok e).1.length_le
theorem ck(x:α):cU (pure x:Ps α):=λ l=>⟨suffix_refl _,id⟩
theorem bM{p:Ps α} (h:cU p)(k:∀x,cU (f x)):cU (p >>= f):=by
 intro l;rw[gP]
 cases e:p l with
 | error n=>exact h.err e
 | ok y=>
   obtain⟨x,r⟩:=y;obtain⟨h1,h2⟩:=h.ok e;show match f x r with | .ok (_,r)=>r <:+ l/\(jv l->jv r)| .error n=>n<=l.length/\(jv l->0 < n)
   cases e2:f x r with
   | error n=>obtain⟨k1,k2⟩:=(k x).err e2;exact⟨Nat.le_trans k1 h1.length_le,λ hl=>k2 (h2 hl)⟩
   | ok y=>obtain⟨z,r2⟩:=y;obtain⟨k1,k2⟩:=(k x).ok e2;exact⟨k1.trans h1,λ hl=>k2 (h2 hl)⟩
theorem Jf{q:aK->Ps α}(h:∀l,cU (q l)):cU (λ l=>q l l):=λ l=>h l l
theorem pk:cU (tS:Ps α):=λ l=>⟨Nat.le_refl _,jv.pos⟩
theorem qY(s:List UInt8) {p q:Ps α}(hp:cU p)(hq:cU q):cU (λ l=>if ar s l then p l.tail else q l):=by
 intro l;by_cases h:ar s l=true
 ·obtain⟨t,r,rfl,ht⟩:=eU h;simp only[h,if_true,tail_cons]
  cases e:p r with
  | error n=>obtain⟨k1,k2⟩:=hp.err e;exact⟨by simp;omega,λ hl=>k2 (hl.tail (CZ ht))⟩
  | ok y=>obtain⟨z,r2⟩:=y;obtain⟨k1,k2⟩:=hp.ok e;exact⟨k1.trans (suffix_cons _ _),λ hl=>k2 (hl.tail (CZ ht))⟩
 ·simp only[h];exact hq l
theorem jg (s:List UInt8):cU (may s):=qY s (p:=pure true) (q:=pure false) (ck _) (ck _)
theorem cI (s:List UInt8):cU (must s):=qY s (p:=pure ()) (q:=tS) (ck _) pk
theorem qZ:∀ks,cU (jS ks)
 | []=>pk
 | s::ks=>qY s (p:=pure s) (q:=jS ks) (ck _) (qZ ks)
variable{v:Wd->α}
theorem Gm{c:Wd->Prop} [DecidablePred c] (hc:∀t,c t->t.k≠0):
  cU (λ l=>match l with | []=> .error 0 | t::r=>if c t then .ok (v t,r)else .error (t::r).length:Ps α):=by
 intro l
 match l with
 | []=>exact⟨Nat.le_refl _,λ h=>h.pos⟩
 | t::r=>
   by_cases h:c t
   ·simp only[h,if_true];exact⟨suffix_cons _ _,λ hl=>hl.tail (hc t h)⟩
   ·simp only[h];exact⟨Nat.le_refl _,λ hl=>by simp⟩
theorem lD:cU cC:=by have:=Gm (c:=λ t=>t.k=1/\kP t.s=false) (v:=λ t=>(⟨t.s.toArray⟩:ByteArray)) (λ t h=>by rw[h.1];decide);exact Zg5
theorem mh:cU lZ:=by have:=Gm (c:=λ t=>t.k=2) (v:=λ t=>t.n) (λ t h=>by rw[h];decide);exact Zg5
variable{el:Ps α}
theorem Gn(h:cU el):∀f acc,cU (nD el f acc)
 | 0,acc=>ck _
 | f+1,acc=>qY bt (p:=do let y <- el;nD el f (acc++ [y])) (q:=pure acc) (bM h λ y=>Gn h f _) (ck _)
theorem rf(h:cU el):cU (dN el):=bM h λ x=>Jf (q:=λ l=>nD el l.length [x]) λ l=>Gn h _ _
variable{c:Prop}
theorem jh   [Decidable c] {p q:Ps α}(hp:cU p)(hq:cU q):cU (if c then p else q):=by
 split
 ·exact hp
 ·exact hq
def Yl:Tr:=lO 0 []
theorem lF:∀ {ks:List (List UInt8×Int)} {l:aK} {o:Int},eB ks l=some o->∃s,(s,o)∈ks/\ar s l=true
 | [],l,o,h=>by simp[eB] at h
 |(s,k)::ks,l,o,h=>by
  simp only[eB] at h;split at h
  ·rename_i hs;injection h with h;subst h;exact⟨s,mem_cons_self,hs⟩
  ·obtain⟨s',h1,h2⟩:=lF h;exact⟨s',mem_cons_of_mem _ h1,h2⟩
theorem vr{p:Ps α}(hp:cU p) {s:List UInt8} (h:ar s l=true):match p l.tail with
 | .ok (_,r)=>r <:+ l/\(jv l->jv r)
 | .error n=>n<=l.length/\(jv l->0 < n):=by have:=qY s hp (q:=tS) pk l;simpa only[h,if_true] using this
variable{below:Ps Tr}
theorem Da(hb:cU below)(lv:Nat):∀f x,cU (jE below lv f x)
 | 0,x=>ck _
 | f+1,x=>by
   intro l;simp only[jE];cases e:eB (opsL lv) l with
   | none=>exact ck x l
   | some o=>obtain⟨s,_,hs⟩:=lF e;exact vr (p:=do let y <- below;jE below lv f (lO o [x,y])) (bM hb λ y=>Da hb lv f _) hs
theorem sf(hb:cU below)(lv:Nat):cU (jZ below lv):=bM hb λ x=>Jf (q:=λ l=>jE below lv l.length x) λ l=>Da hb lv _ _
theorem TX(hb:cU below)(x:Tr):cU (wQ below x):=by
 intro l;unfold wQ
 cases e:eB (opsL 3) l with
 | none=>exact ck x l
 | some o=>obtain⟨s,_,hs⟩:=lF e;exact vr (p:=do let y <- below;return lO o [x,y]) (bM hb λ y=>ck _) hs
theorem Ym(hb:cU below):cU (qU below):=
 bM hb λ x=>bM (jg _) λ b=>jh (bM (jg _) λ n=>bM (cI _) λ _=>ck _) (TX hb x)
variable{same:Ps Tr}
theorem Ra(s:List UInt8)(op:Int)(hs:cU same)(hb:cU below):cU (IQ s op same below):=by
 refine bM (jg _) λ b=>?_
 split
 ·exact bM hs λ x=>ck _
 ·exact hb
variable{whole:Ps Tr}
theorem Gp(hw:cU whole)(op:Int):cU (nY whole op):=
 bM (jh (bM mh λ n=>bM (cI _) λ _=>ck _) (ck _)) λ _=>bM hw λ x=>
  bM (jh (bM (cI _) λ _=>bM hw λ y=>ck _) (ck _)) λ _=>bM (cI _) λ _=>ck _
theorem Yn(hw:cU whole)(op:Int):cU (ou whole op):=
 jh (bM (jg _) λ b=>jh (bM (cI _) λ _=>ck _) (Gp hw _)) (Gp hw op)
theorem OH(hw:cU whole):cU (kU whole):=by
 refine bM lD λ n=>?_
 intro l;by_cases h:ar bG l=true
 ·simp only[h,if_true]
  cases e:lB n with
  | none=>exact pk (α:=Tr) l
  | some op=>exact vr (Yn hw op) h
 ·simp only[h];exact ck (rV n) l
theorem TY(hw:cU whole):cU (dZ whole):=by
 intro l
 match l with
 | []=>exact⟨Nat.le_refl _,λ h=>h.pos⟩
 | t::r=>
   have one:∀(x:Tr),t.k≠0->r <:+ t::r/\(jv (t::r)->jv r):=λ x h=>⟨suffix_cons _ _,λ hl=>hl.tail h⟩
   simp only[dZ];by_cases h1:t.k=2
   ·simp only[h1,if_true];exact one Yl Taa
   by_cases h2:t.k=3
   ·simp only[h1,h2,if_true];exact one Yl Taa
   by_cases h3:gV eK t=true
   ·simp only[h1,h2,h3,if_true];exact one Yl (CZ h3)
   by_cases h4:gV eh t=true
   ·simp only[h1,h2,h3,h4,if_true];exact one Yl (CZ h4)
   by_cases h5:gV bT t=true
   ·simp only[h1,h2,h3,h4,h5,if_true];exact one Yl (CZ h5)
   by_cases h6:gV bG t=true
   ·simp only[h1,h2,h3,h4,h5,h6,if_true];exact vr (l:=t::r) (s:=bG) (p:=do let x <- whole;must aM;return x) (bM hw λ x=>bM (cI _) λ _=>ck _) h6
   ·simp only[h1,h2,h3,h4,h5,h6,if_false];exact OH hw (t::r)
theorem dC:∀f lv,cU (pE f lv)
 | 0,_=>pk
 | f+1,0=>sf (dC f 1) 0
 | f+1,1=>sf (dC f 2) 1
 | f+1,2=>Ra _ _ (dC f 2) (dC f 3)
 | f+1,3=>Ym (dC f 4)
 | f+1,4=>sf (dC f 5) 4
 | f+1,5=>sf (dC f 6) 5
 | f+1,6=>Ra _ _ (dC f 6) (dC f 7)
 | f+1,_+7=>TY (dC f 0)
theorem cw (lv:Nat):cU (aW lv):=Jf (q:=λ l=>pE (8*l.length+8 - lv) lv) λ l=>dC _ _
theorem lG:cU eD:=cw 0
inductive eu where
 | good (l:aK)
 | bad (n:Nat)
def eu.left:eu->Nat
 | .good l=>l.length
 | .bad n=>n
def eu.pn:eu->Bool
 | .good _=>true
 | .bad _=>false
def eu.words:eu->aK
 | .good l=>l
 | .bad _=> []
def fh(p:Ps α):eu->eu
 | .bad n=> .bad n
 | .good l=>match p l with
   | .ok (_,r)=> .good r
   | .error n=> .bad n
def rh(p:Ps α):eu->α->Prop
 | .bad _,_=>True
 | .good l,x=>match p l with
   | .ok (y,_)=>x=y
   | .error _=>True
variable{σ:eu}
theorem Uc{p:Ps α}   (h:rh p σ x):fh (p >>= f) σ=fh (f x) (fh p σ):=by
 match σ with
 | .bad n=>rfl
 | .good l=>
   simp only[fh,rh,gP] at h ⊢
   cases e:p l with
   | error n=>rfl
   | ok y=>obtain⟨y,r⟩:=y;rw[e] at h;simp only at h;subst h;rfl
theorem Ud(x:α)(σ:eu):fh (pure x:Ps α) σ=σ:=by cases σ <;> rfl
theorem Ue(p:Ps α)(n:Nat)(x:α):rh p (.bad n) x:=trivial
def eu.head (s:List UInt8)(σ:eu):Bool:=ar s σ.words
theorem Ll (s:List UInt8)(σ:eu):fh (may s) σ=if σ.head s then .good σ.words.tail else σ:=by
 match σ with
 | .bad n=>rfl
 | .good l=>simp only[fh,may,eu.head,eu.words];exact ZeI
theorem Gs (s:List UInt8)(σ:eu):fh (must s) σ=if σ.head s then .good σ.words.tail else .bad σ.left:=by
 match σ with
 | .bad n=>rfl
 | .good l=>simp only[fh,must,eu.head,eu.words,eu.left];exact ZeI
theorem OM (p:Ps Unit)(σ:eu):rh p σ ():=by
 match σ with
 | .bad n=>trivial
 | .good l=>simp only[rh];split <;> trivial
def eu.of (W:aK):eu->Prop
 | .good l=>l <:+ W/\jv l
 | .bad n=>0 < n/\n<=W.length
variable{W:aK}
theorem eu.Ji(h:σ.of W):0 < σ.left/\σ.left<=W.length:=by
 match σ with
 | .bad n=>exact h
 | .good l=>exact⟨h.2.pos,h.1.length_le⟩
theorem eu.of_next(h:(eu.good l).of W):∃t r,l=t::r/\W[W.length - l.length]?=some t:=by
 obtain⟨⟨b,hb⟩,h2⟩:=h
 match l,h2.pos with
 | t::r,_=>refine⟨t,r,rfl,?_⟩;rw[<- hb,length_append,Nat.add_sub_cancel,getElem?_append_right (Nat.le_refl _),Nat.sub_self];rfl
theorem Uj{s:List UInt8} (h:σ.head s=true):∃t r,σ=.good (t::r)/\gV s t=true:=by
 match σ with
 | .bad n=>simp[eu.head,eu.words,ar] at h
 | .good l=>obtain⟨t,r,e,ht⟩:=eU (s:=s) (l:=l) h;exact⟨t,r,by rw[e],ht⟩
theorem qJ{s:List UInt8} (h:σ.head s=true):fh (may s) σ=.good σ.words.tail:=by rw[Ll,h];rfl
theorem mj{s:List UInt8} (h:σ.head s=false):fh (may s) σ=σ:=by rw[Ll,h];rfl
theorem tY{s:List UInt8} (h:σ.head s=true):fh (must s) σ=.good σ.words.tail:=by rw[Gs,h];rfl
theorem BG{s:List UInt8} (h:σ.head s=false):fh (must s) σ=.bad σ.left:=by rw[Gs,h];rfl
def gW:List (List UInt8)->Ps Unit
 | []=>pure ()
 | s::ks=>do must s;gW ks
theorem wY (s:List UInt8)(ks:List (List UInt8))(σ:eu):fh (gW (s::ks)) σ=fh (gW ks) (fh (must s) σ):=Uc (x:=()) (OM _ _)
theorem tZ (σ:eu):fh (gW []) σ=σ:=Ud _ _
theorem Dh (s:List UInt8)(σ:eu):fh (gW [s]) σ=fh (must s) σ:=by rw[wY,tZ]
theorem vw (t:Wd)(r:aK):fh cC (.good (t::r))=if t.k=1/\kP t.s=false then .good r else .bad (r.length+1):=by
 simp only[fh,cC];by_cases h:t.k=1/\kP t.s=false
 ·simp only[h,and_self,if_true]
 ·simp only[h,if_false];rfl
theorem OU (t:Wd)(r:aK):rh cC (.good (t::r)) ⟨t.s.toArray⟩:=by
 simp only[rh,cC];by_cases h:t.k=1/\kP t.s=false
 ·simp only[h,and_self,if_true]
 ·simp only[h,if_false]
theorem yq{p:Ps α}  (h:fh p σ=.bad n)(x:α):rh p σ x:=by
 match σ with
 | .bad m=>trivial
 | .good l=>
   simp only[fh,rh] at h ⊢
   cases e:p l with
   | error m=>trivial
   | ok y=>obtain⟨y,r⟩:=y;rw[e] at h;cases h
section
variable {s:List UInt8} {op:Int} {same below:Ps Tr} {σ:eu} {x:Tr}
end
theorem mM:cU nE:=by
 unfold nE;repeat (first | exact ck _ | exact jg _ | exact cI _ | exact lD | exact mh | exact qZ _ | exact lG | exact qi _ | apply jh | apply rf | refine bM ?_ λ _=>?_)
theorem nH:cU km:=by
 unfold km;repeat (first | exact ck _ | exact jg _ | exact cI _ | exact lD | exact mh | exact qZ _ | exact lG | exact qi _ | exact mM | apply jh | apply rf | refine bM ?_ λ _=>?_)
theorem ow:cU gL:=by
 unfold gL;repeat (first | exact ck _ | exact jg _ | exact cI _ | exact lD | exact mh | exact qZ _ | exact lG | exact qi _ | exact mM | exact nH | exact AU | exact AV | exact xY | exact AW | exact AY | apply jh | apply rf | refine bM ?_ λ _=>?_)
theorem zL:cU rZ:=by
 unfold rZ;repeat (first | exact ck _ | exact jg _ | exact cI _ | exact lD | exact mh | exact qZ _ | exact lG | exact qi _ | exact mM | exact nH | exact AU | exact AV | exact xY | exact AW | exact AY | exact ow | exact Li | exact Lj | exact OI | exact TZ _ | exact Ua | exact Jg | exact OJ | apply jh | apply rf | refine bM ?_ λ _=>?_)
theorem Gq:cU vR:=by
 unfold vR;repeat (first | exact ck _ | exact jg _ | exact cI _ | exact lD | exact mh | exact qZ _ | exact lG | exact qi _ | exact mM | exact nH | exact AU | exact AV | exact xY | exact AW | exact AY | exact ow | exact Li | exact Lj | exact OI | exact TZ _ | exact Ua | exact Jg | exact OJ | exact zL | exact aan | apply jh | apply rf | refine bM ?_ λ _=>?_)
def gQ(m:Nat)(p q:Ps α):Prop:=∀l:aK,l.length<=m->p l=q l
theorem ej(m:Nat)(p:Ps α):gQ m p p:=λ _ _=>rfl
variable{m:Nat}{g:α->Ps β}
theorem ek{p q:Ps α} (h:gQ m p q)(hp:cU p)(k:∀x,gQ m (f x) (g x)):gQ m (p >>= f) (q >>= g):=by
 intro l hl;rw[gP,gP,<- h l hl]
 cases e:p l with
 | error n=>rfl
 | ok y=>obtain⟨x,r⟩:=y;exact k x r (by have:=hp.len e;omega)
variable{p' q':Ps α}
theorem vt    [Decidable c] {p q:Ps α}(h:gQ m p p')(k:gQ m q q'):gQ m (if c then p else q) (if c then p' else q'):=by
 split
 ·exact h
 ·exact k
theorem head_tail{s:List UInt8} (h:ar s l=true):l.tail.length+1=l.length:=by obtain⟨t,r,rfl,_⟩:=eU h;rfl
variable{q:Ps Tr}
theorem AZ{p:Ps Tr}(h:gQ m p q)(hp:cU p)(lv:Nat):∀f x,gQ m (jE p lv f x) (jE q lv f x)
 | 0,x=>ej _ _
 | f+1,x=>by
   intro l hl;simp only[jE];cases e:eB (opsL lv) l with
   | none=>rfl
   | some o=>obtain⟨s,_,hs⟩:=lF e;have:=head_tail hs;exact ek h hp (λ y=>AZ h hp lv f _) l.tail Taa
theorem iO{p:Ps Tr}(h:gQ m p q)(hp:cU p)(lv:Nat):gQ m (jZ p lv) (jZ q lv):=ek h hp λ x l hl=>AZ h hp lv _ _ l hl
theorem Gr{p:Ps Tr}(h:gQ m p q)(hp:cU p):gQ m (qU p) (qU q):=by
 refine ek h hp λ x=>ek (ej _ _) (jg _) λ b=>vt (ej _ _) ?_
 intro l hl;unfold wQ
 cases e:eB (opsL 3) l with
 | none=>rfl
 | some o=>obtain⟨s,_,hs⟩:=lF e;have:=head_tail hs;exact ek h hp (λ y=>ej _ _) l.tail Taa
theorem OL(s:List UInt8) {p q:Ps α}(h:gQ m p p')(k:gQ (m+1) q q'):gQ (m+1) (λ l=>if ar s l then p l.tail else q l) (λ l=>if ar s l then p' l.tail else q' l):=by
 intro l hl;by_cases e:ar s l=true
 ·have:=head_tail e;simp only[e,if_true];exact h l.tail Taa
 ·simp only[e];exact k l hl
theorem cg(s:List UInt8)(f:Bool->Ps α):(may s >>= f)=λ l=>if ar s l then f true l.tail else f false l:=by funext l;rw[gP];unfold may;exact ZeI
theorem xZ{p p' q':Ps Tr}(s:List UInt8)(op:Int)(h:gQ m p p')(hp:cU p)(k:gQ (m+1) q q'):gQ (m+1) (IQ s op p q) (IQ s op p' q'):=by unfold IQ;rw[cg,cg];exact OL s (ek h hp λ x=>ej _ _) k
theorem Db{p:Ps Tr}(h:gQ m p q)(hp:cU p)(op:Int):gQ m (nY p op) (nY q op):=
 ek (ej _ _) (jh (bM mh λ n=>bM (cI _) λ _=>ck _) (ck _)) λ _=>ek h hp λ x=>
  ek (vt (ek (ej _ _) (cI _) λ _=>ek h hp λ y=>ej _ _) (ej _ _)) (jh (bM (cI _) λ _=>bM hp λ y=>ck _) (ck _)) λ _=>ej _ _
theorem Ub{p:Ps Tr}(h:gQ m p q)(hp:cU p)(op:Int):gQ m (ou p op) (ou q op):=
 vt (ek (ej _ _) (jg _) λ b=>vt (ej _ _) (Db h hp _)) (Db h hp op)
theorem Lk{p:Ps Tr}(h:gQ m p q)(hp:cU p):gQ (m+1) (kU p) (kU q):=by
 refine ek (ej _ _) lD λ n=>?_
 intro l hl;by_cases e:ar bG l=true
 ·have:=head_tail e;simp only[e,if_true]
  cases lB n with
  | none=>rfl
  | some op=>exact Ub h hp op l.tail Taa
 ·simp only[e];rfl
theorem Dc{p:Ps Tr}(h:gQ m p q)(hp:cU p):gQ (m+1) (dZ p) (dZ q):=by
 intro l hl
 match l with
 | []=>rfl
 | t::r=>have e1:(do let x <- p;must aM;return x:Ps Tr) r=(do let x <- q;must aM;return x:Ps Tr) r:=ek h hp (λ x=>ej _ _) r (by simp at hl;omega);have e2:=Lk h hp (t::r) hl;simp only[dZ];rw[e1,e2]
theorem jV:∀(f g lv:Nat) (m:Nat),lv<=7->8*m+8 - lv<=f->8*m+8 - lv<=g->gQ m (pE f lv) (pE g lv)
 | 0,_,_,_,_,h,_=>by omega
 | _,0,_,_,_,_,h=>by omega
 | f+1,g+1,0,m,_,hf,hg=>iO (jV f g 1 m Taa Taa Taa) (dC _ _) 0
 | f+1,g+1,1,m,_,hf,hg=>iO (jV f g 2 m Taa Taa Taa) (dC _ _) 1
 | f+1,g+1,2,0,_,hf,hg=>λ l hl=>by
   match l,hl with
   | [],_=>exact jV f g 3 0 Taa Taa Taa [] (Nat.le_refl _)
 | f+1,g+1,2,m+1,_,hf,hg=>xZ _ _ (jV f g 2 m Taa Taa Taa) (dC _ _) (jV f g 3 (m+1) Taa Taa Taa)
 | f+1,g+1,3,m,_,hf,hg=>Gr (jV f g 4 m Taa Taa Taa) (dC _ _)
 | f+1,g+1,4,m,_,hf,hg=>iO (jV f g 5 m Taa Taa Taa) (dC _ _) 4
 | f+1,g+1,5,m,_,hf,hg=>iO (jV f g 6 m Taa Taa Taa) (dC _ _) 5
 | f+1,g+1,6,0,_,hf,hg=>λ l hl=>by
   match l,hl with
   | [],_=>exact jV f g 7 0 Taa Taa Taa [] (Nat.le_refl _)
 | f+1,g+1,6,m+1,_,hf,hg=>xZ _ _ (jV f g 6 m Taa Taa Taa) (dC _ _) (jV f g 7 (m+1) Taa Taa Taa)
 | f+1,g+1,7,0,_,hf,hg=>λ l hl=>by
   match l,hl with
   | [],_=>rfl
 | f+1,g+1,7,m+1,_,hf,hg=>Dc (jV f g 0 m Taa Taa Taa) (dC _ _)
 | _+1,_+1,_+8,_,h,_,_=>by omega
variable{lv:Nat}
theorem Yo{f:Nat} (hlv:lv<=7)(h:8*l.length+8 - lv<=f):pE f lv l=aW lv l:=jV f _ lv l.length hlv h (Nat.le_refl _) l (Nat.le_refl _)
theorem fE{f:Nat}(hlv:lv<=7)(h:8*m+8 - lv<=f):gQ m (pE f lv) (aW lv):=λ l hl=>Yo hlv Taa
theorem BZ:aW 0=jZ (aW 1) 0:=funext λ l=>iO (fE (f:=8*l.length+7) (m:=l.length) Taa Taa) (dC _ _) 0 l (Nat.le_refl _)
theorem Ca:aW 1=jZ (aW 2) 1:=funext λ l=>iO (fE (f:=8*l.length+6) (m:=l.length) Taa Taa) (dC _ _) 1 l (Nat.le_refl _)
theorem Cb:aW 2=IQ eC 4 (aW 2) (aW 3):=funext λ l=>by
 match l with
 | []=>rfl
 | t::r=>exact xZ eC 4 (fE (f:=8*(t::r).length+5) (m:=r.length) Taa Taq) (dC _ _) (fE (m:=r.length+1) Taa Taq) (t::r) Tad
theorem ye:aW 3=qU (aW 4):=funext λ l=>Gr (fE (f:=8*l.length+4) (m:=l.length) Taa Taa) (dC _ _) l (Nat.le_refl _)
theorem Cc:aW 4=jZ (aW 5) 4:=funext λ l=>iO (fE (f:=8*l.length+3) (m:=l.length) Taa Taa) (dC _ _) 4 l (Nat.le_refl _)
theorem Ce:aW 5=jZ (aW 6) 5:=funext λ l=>iO (fE (f:=8*l.length+2) (m:=l.length) Taa Taa) (dC _ _) 5 l (Nat.le_refl _)
theorem Jh:aW 6=IQ dP 3 (aW 6) (aW 7):=funext λ l=>by
 match l with
 | []=>rfl
 | t::r=>exact xZ dP 3 (fE (f:=8*(t::r).length+1) (m:=r.length) Taa Taq) (dC _ _) (fE (m:=r.length+1) Taa Taq) (t::r) Tad
theorem yf:aW 7=dZ (aW 0):=funext λ l=>by
 match l with
 | []=>rfl
 | t::r=>exact Dc (fE (f:=8*(t::r).length) (m:=r.length) Taa Taq) (dC _ _) (t::r) Tad
theorem yg:∀ks,eB ks []=none
 | []=>rfl
 |(s,o)::ks=>by simp only[eB,ar];exact yg ks
theorem Dd(hb:cU below)(lv:Nat):∀(f g:Nat) (x:Tr) (l:aK),l.length<=f->l.length<=g->jE below lv f x l=jE below lv g x l
 | 0,0,x,l,_,_=>rfl
 | 0,g+1,x,l,h,_=>by have:l=[]:=eq_nil_of_length_eq_zero Taa;subst this;simp only[jE,yg];rfl
 | f+1,0,x,l,_,h=>by have:l=[]:=eq_nil_of_length_eq_zero Taa;subst this;simp only[jE,yg];rfl
 | f+1,g+1,x,l,hf,hg=>by
   simp only[jE];cases e:eB (opsL lv) l with
   | none=>rfl
   | some o=>
     obtain⟨s,_,hs⟩:=lF e;have ht:=head_tail hs;simp only[gP];cases e2:below l.tail with
     | error n=>rfl
     | ok y=>obtain⟨y,r⟩:=y;have:=hb.len e2;exact Dd hb lv f g _ r Taa Taa
def Lm (below:Ps Tr)(lv:Nat)(x:Tr):Ps Tr:=λ l=>jE below lv l.length x l
theorem Jj (below:Ps Tr)(lv:Nat):jZ below lv=(do let x <- below;Lm below lv x):=rfl
theorem ri(hb:cU below)(lv:Nat)(x:Tr)(l:aK):Lm below lv x l=match eB (opsL lv) l with
  | none=> .ok (x,l)
  | some o=>(do let y <- below;Lm below lv (lO o [x,y])) l.tail:=by
 match l with
 | []=>simp only[yg];rfl
 | t::r=>
   show jE below lv (r.length+1) x (t::r)=_;simp only[jE]
   cases e:eB (opsL lv) (t::r)with
   | none=>rfl
   | some o=>
     simp only[gP,tail_cons]
     cases e2:below r with
     | error n=>rfl
     | ok y=>obtain⟨y,r2⟩:=y;have:=hb.len e2;exact Dd hb lv _ _ _ r2 Taa (Nat.le_refl _)
theorem De(hb:cU el):∀(f g:Nat) (acc:List α) (l:aK),l.length<=f->l.length<=g->nD el f acc l=nD el g acc l
 | 0,0,x,l,_,_=>rfl
 | 0,g+1,x,l,h,_=>by have:l=[]:=eq_nil_of_length_eq_zero Taa;subst this;simp[nD,ar];rfl
 | f+1,0,x,l,_,h=>by have:l=[]:=eq_nil_of_length_eq_zero Taa;subst this;simp[nD,ar];rfl
 | f+1,g+1,x,l,hf,hg=>by
   simp only[nD];cases e:ar bt l
   ·rfl
   ·have ht:=head_tail e;simp only[if_true,gP];cases e2:el l.tail with
    | error n=>rfl
    | ok y=>obtain⟨y,r⟩:=y;have:=hb.len e2;exact De hb f g _ r Taa Taa
def yh(el:Ps α)(acc:List α):Ps (List α):=λ l=>nD el l.length acc l
theorem Jk(el:Ps α):dN el=(do let x <- el;yh el [x]):=rfl
theorem yi(hb:cU el)(acc:List α):yh el acc=(do
  if <- may bt then
   let y <- el
   yh el (acc++ [y])
  else return acc):=by
 funext l;rw[cg]
 match l with
 | []=>rfl
 | t::r=>
   show nD el (r.length+1) acc (t::r)=_;simp only[nD];cases e:ar bt (t::r)
   ·rfl
   ·simp only[if_true,gP,tail_cons]
    cases e2:el r with
    | error n=>rfl
    | ok y=>obtain⟨y,r2⟩:=y;have:=hb.len e2;exact De hb _ _ _ r2 Taa (Nat.le_refl _)
section
variable {α β γ:Type}
theorem ji (p:Ps α)(g:α->Ps β)(f:β->Ps γ):((p >>= g)>>= f)=(p >>= λ x=>g x >>= f):=by funext l;rw[gP,gP,gP];cases p l <;> rfl
end
theorem zX (s t:List UInt8)(k:Unit->Ps St):(must s >>= λ _=>must t >>= k)=(gW [s,t] >>= k):=by unfold gW;rw[ji];congr 1;funext _;unfold gW;rw[ji];congr 1
section
variable {t:Wd} {r:aK} {x:Tr}
structure Plain (t:Wd):Prop where
 i:t.k≠2
 s:t.k≠3
structure adt (t:Wd):Prop where
 p:Plain t
 wt:gV eK t=false
 wf:gV eh t=false
 wn:gV bT t=false
 wo:gV bG t=false
end
section
variable {n:ByteArray} {σ:eu} {z:Tr} {op:Int}
end
theorem UO{s:List UInt8} {x:Nat×Nat}(h:kO s=.error x):gw s=.error x:=by unfold gw;rw[h]
theorem GK{s:List UInt8} {l:List na} (h:kO s=.ok l)(hw:zG (l.map (·.w))=.error n):gw s=.error (((l[l.length - n]?).map (·.p)).getD 0,31):=by unfold gw;rw[h];simp only;rw[hw]
variable{d:St}
theorem PC{s:List UInt8} {l:List na}  (h:kO s=.ok l)(hw:zG (l.map (·.w))=.ok (d,r)):gw s=if d.long then .error (0,2)else if di d.exprs then .error (0,32)else .ok d:=by unfold gw;rw[h];simp only;rw[hw]
end Go.Proofs.YtehhdlgjfdnafaaGreatDoor
