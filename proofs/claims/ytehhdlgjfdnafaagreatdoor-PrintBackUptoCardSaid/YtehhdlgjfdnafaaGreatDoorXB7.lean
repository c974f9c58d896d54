/- Parts of the proof. -/
import Derived.Test.YtehhdlgjfdnafaaGreatDoorXB5
namespace Go.Proofs.YtehhdlgjfdnafaaGreatDoor
open List
set_option maxHeartbeats 90000000
set_option maxRecDepth 100000
set_option linter.unusedSimpArgs false
set_option linter.unusedVariables false
def WX:List UInt8:=[111,114]
def Km:List UInt8:=[97,110,100]
def ei:List UInt8:=[110,111,116]
def lQ:List UInt8:=[105,115]
def bK:List UInt8:=[110,117,108,108]
def eu:List UInt8:=[116,114,117,101]
def dP:List UInt8:=[102,97,108,115,101]
def cX:List UInt8:=[115,101,108,101,99,116]
def cu:List UInt8:=[102,114,111,109]
def jo:List UInt8:=[111,110,108,121]
def dh:List UInt8:=[119,104,101,114,101]
def iz:List UInt8:=[103,114,111,117,112]
def mO:List UInt8:=[98,121]
def mP:List UInt8:=[104,97,118,105,110,103]
def iB:List UInt8:=[111,114,100,101,114]
def jd:List UInt8:=[108,105,109,105,116]
def lZ:List UInt8:=[100,101,115,99]
def lR:List UInt8:=[97,115]
def fj:List UInt8:=[99,114,101,97,116,101]
def fY:List UInt8:=[100,114,111,112]
def gY:List UInt8:=[105,110,115,101,114,116]
def gw:List UInt8:=[117,112,100,97,116,101]
def gy:List UInt8:=[100,101,108,101,116,101]
def ll:List UInt8:=[99,97,108,108]
def cz:List UInt8:=[116,97,98,108,101]
def dt:List UInt8:=[118,105,101,119]
def iu:List UInt8:=[106,111,98]
def Ch:List UInt8:=[105,110,116]
def vO:List UInt8:=[98,111,111,108]
def yT:List UInt8:=[116,101,120,116]
def lp:List UInt8:=[116,105,109,101]
def cj:List UInt8:=[101,118,101,114,121]
def jD:List UInt8:=[115,112,97,99,101]
def fc:List UInt8:=[105,110,116,111]
def bZ:List UInt8:=[114,101,102,114,101,115,104]
def bP:List UInt8:=[99,111,109,112,114,101,115,115]
def dA:List UInt8:=[100,101,99,111,109,112,114,101,115,115]
def eF:List UInt8:=[100,114,111,112,95,99,104,117,110,107,115]
def Ci:List UInt8:=[116,111]
def eV:List UInt8:=[97,102,116,101,114]
def iO:List UInt8:=[118,97,108,117,101,115]
def rS:List UInt8:=[115,101,116]
def WY:List UInt8:=[98,117,99,107,101,116]
def xg:List UInt8:=[99,111,117,110,116]
def aip:List UInt8:=[115,117,109]
def aiq:List UInt8:=[109,105,110]
def air:List UInt8:=[109,97,120]
def ais:List UInt8:=[97,118,103]
def R2:List UInt8:=[102,105,114,115,116]
def adT:List UInt8:=[108,97,115,116]
def bk:List UInt8:=[44]
def bz:List UInt8:=[40]
def aM:List UInt8:=[41]
def yU:List UInt8:=[59]
def fe:List UInt8:=[42]
def dB:List UInt8:=[45]
def Hs:List UInt8:=[43]
def Bg:List UInt8:=[47]
def uB:List UInt8:=[37]
def Ht:List UInt8:=[61]
def adU:List UInt8:=[60,62]
def adV:List UInt8:=[60]
def adW:List UInt8:=[60,61]
def adX:List UInt8:=[62]
def adY:List UInt8:=[62,61]
structure Qu where
 items:List (Tr×ByteArray):=[]
 aK:ByteArray:=ByteArray.empty
 only:Bool:=false
 aR:List Tr:=[]
 group:List Tr:=[]
 having:List Tr:=[]
 order:List (Tr×Bool):=[]
 aG:List Int:=[]
structure St where
 kind:Int:=0
 name:ByteArray:=ByteArray.empty
 aJ:List (ByteArray×Int):=[]
 time:ByteArray:=ByteArray.empty
 every:Int:=0
 space:ByteArray:=ByteArray.empty
 parts:Int:=0
 query:Qu:= {}
 what:Int:=0
 cr:ByteArray:=ByteArray.empty
 a:Int:=0
 b:Int:=0
 rows:List (List Tr):=[]
 aS:List (ByteArray×Tr):=[]
 aR:List Tr:=[]
 aK:Val:=ct
 cP:Val:=ct
abbrev aI:=List Wd
def Ps (α:Type):Type:=aI->Except Nat (α×aI)
instance:Monad Ps where
 pure x:=λ l=> .ok (x,l)
 bind p f:=λ l=>match p l with
  | .error n=> .error n
  | .ok (x,r)=>f x r
def gJ (s:List UInt8)(t:Wd):Bool:=(t.k==1 || t.k==4)&& t.s==s
def ar (s:List UInt8):aI->Bool
 | []=>false
 | t::_=>gJ s t
variable{α:Type}
def yV:Ps α:=λ l=> .error l.length
def may (s:List UInt8):Ps Bool:=λ l=>if ar s l then .ok (true,l.tail)else .ok (false,l)
def must (s:List UInt8):Ps Unit:=λ l=>if ar s l then .ok ((),l.tail)else .error l.length
def kP:List (List UInt8)->Ps (List UInt8)
 | []=>yV
 | s::ks=>λ l=>if ar s l then .ok (s,l.tail)else kP ks l
def cD:Ps ByteArray
 | []=> .error 0
 | t::r=>if t.k=1/\kO t.s=false then .ok (⟨t.s.toArray⟩,r)else .error (t::r).length
def nh:Ps Int
 | []=> .error 0
 | t::r=>if t.k=2 then .ok (t.n,r)else .error (t::r).length
def pU(el:Ps α):Nat->List α->Ps (List α)
 | 0,acc=>pure acc
 | f+1,acc=>λ l=>if ar bk l then(do let y <- el;pU el f (acc++ [y])) l.tail else .ok (acc,l)
def dI(el:Ps α):Ps (List α):=do
 let x <- el
 λ l=>pU el l.length [x] l
def opsL:Nat->List (List UInt8×Int)
 | 0=> [(WX,17)]
 | 1=> [(Km,16)]
 | 3=> [(Ht,10),(adU,11),(adV,12),(adW,13),(adX,14),(adY,15)]
 | 4=> [(Hs,5),(dB,6)]
 | 5=> [(fe,7),(Bg,8),(uB,9)]
 | _=> []
def eR:List (List UInt8×Int)->aI->Option Int
 | [],_=>none
 |(s,o)::k,l=>if ar s l then some o else eR k l
def lr (below:Ps Tr)(lv:Nat):Nat->Tr->Ps Tr
 | 0,x=>pure x
 | f+1,x=>λ l=>match eR (opsL lv) l with
   | none=> .ok (x,l)
   | some o=>(do let y <- below;lr below lv f (nr o [x,y])) l.tail
def kD (below:Ps Tr)(lv:Nat):Ps Tr:=do
 let x <- below
 λ l=>lr below lv l.length x l
def yX (below:Ps Tr)(x:Tr):Ps Tr:=λ l=>match eR (opsL 3) l with
 | none=> .ok (x,l)
 | some o=>(do let y <- below;return nr o [x,y]) l.tail
def sj (below:Ps Tr):Ps Tr:=do
 let x <- below
 if <- may lQ then
  let n <- may ei
  must bK
  return nr (if n then 19 else 18) [x]
 else yX below x
def Kn (s:List UInt8)(op:Int)(same below:Ps Tr):Ps Tr:=do
 if <- may s then
  let x <- same
  return nr op [x]
 else below
def R3:List (List UInt8×Int):=[(WY,20),(xg,22),(aip,23),(aiq,24),(air,25),(ais,26),(R2,27),(adT,28)]
def lW (n:ByteArray):Option Int:=R3.lookup n.data.toList
def vP (op:Int):Ps Int:=
 if op=20 then(do
  let n <- nh
  must bk
  return n)else pure 0
def rv (whole:Ps Tr)(op:Int):Ps (List Tr):=
 if op=27\/op=28 then(do
  must bk
  let y <- whole
  return [y])else pure []
def rT (whole:Ps Tr)(op:Int):Ps Tr:=do
 let width <- vP op
 let x <- whole
 let ys <- rv whole op
 must aM
 return .mk op ct ByteArray.empty width (x::ys)
def countP (whole:Ps Tr):Ps Tr:=do
 if <- may fe then
  must aM
  return nr 21 []
 else rT whole 22
def pV (whole:Ps Tr)(op:Int):Ps Tr:=if op=22 then countP whole else rT whole op
def ma (whole:Ps Tr):Ps Tr:=do
 let n <- cD
 λ l=>if ar bz l then(match lW n with
  | none=> .error l.length
  | some op=>pV whole op l.tail)else .ok (vN n,l)
def eD (whole:Ps Tr):Ps Tr:=λ l=>
 match l with
 | []=> .error 0
 | t::r=>
   if t.k=2 then .ok (pG ⟨2,t.n,ByteArray.empty⟩,r)
   else if t.k=3 then .ok (pG ⟨3,0,⟨t.s.toArray⟩⟩,r)
   else if gJ eu t then .ok (pG ⟨1,1,ByteArray.empty⟩,r)
   else if gJ dP t then .ok (pG ⟨1,0,ByteArray.empty⟩,r)
   else if gJ bK t then .ok (pG ct,r)
   else if gJ bz t then(do let x <- whole;must aM;return x) r
   else ma whole (t::r)
def pE:Nat->Nat->Ps Tr
 | 0,_=>yV
 | f+1,0=>kD (pE f 1) 0
 | f+1,1=>kD (pE f 2) 1
 | f+1,2=>Kn ei 4 (pE f 2) (pE f 3)
 | f+1,3=>sj (pE f 4)
 | f+1,4=>kD (pE f 5) 4
 | f+1,5=>kD (pE f 6) 5
 | f+1,6=>Kn dB 3 (pE f 6) (pE f 7)
 | f+1,_=>eD (pE f 0)
def aU (lv:Nat):Ps Tr:=λ l=>pE (8*l.length+8 - lv) lv l
def eJ:Ps Tr:=aU 0
def gR (s:List UInt8):Ps (List Tr):=do
 if <- may s then
  let x <- eJ
  return [x]
 else return []
def nZ:Ps (Tr×ByteArray):=do
 let x <- eJ
 if <- may lR then
  let n <- cD
  return (x,n)
 else return (x,ByteArray.empty)
def lu:Ps (Tr×Bool):=do
 let x <- eJ
 let d <- may lZ
 return (x,d)
def sY:Ps (List (Tr×ByteArray)):=do
 if <- may fe then
  return []
 else dI nZ
def ry:Ps (List Tr):=do
 if <- may iz then
  must mO
  dI eJ
 else return []
def nA:Ps (List (Tr×Bool)):=do
 if <- may iB then
  must mO
  dI lu
 else return []
def sZ:Ps (List Int):=do
 if <- may jd then
  let n <- nh
  return [n]
 else return []
def cY:Ps Qu:=do
 must cX
 let items <- sY
 must cu
 let only <- may jo
 let aK <- cD
 let aR <- gR dh
 let group <- ry
 let having <- gR mP
 let order <- nA
 let aG <- sZ
 return { items,aK,only,aR,group,having,order,aG }
def typeOf (s:List UInt8):Int:=if s=Ch then 2 else if s=vO then 1 else 3
def iD:Ps (ByteArray×Int):=do
 let n <- cD
 let t <- kP [Ch,vO,yT]
 return (n,typeOf t)
def yY:Ps (ByteArray×Int):=do
 if <- may jD then
  let s <- cD
  must fc
  let n <- nh
  return (s,n)
 else return (ByteArray.empty,0)
def Hu:Ps St:=do
 let name <- cD
 must bz
 let aJ <- dI iD
 must aM
 must lp
 let time <- cD
 must cj
 let every <- nh
 let sp <- yY
 return { kind:=1,name,aJ,time,every,space:=sp.1,parts:=sp.2 }
def abU:Ps St:=do
 let name <- cD
 must lR
 let query <- cY
 return { kind:=2,name,query }
def Cj (s:List UInt8):Ps (Int×Int):=do
 if s=bZ then
  must cu
  let a <- nh
  must Ci
  let b <- nh
  return (a,b)
 else
  must eV
  let a <- nh
  return (a,0)
def SG:Ps St:=do
 let name <- cD
 let s <- kP [bZ,bP,fY]
 let cr <- cD
 let ab <- Cj s
 must cj
 let every <- nh
 return { kind:=3,name,what:=if s=bZ then 9 else if s=bP then 10 else 12,cr,a:=ab.1,b:=ab.2,every }
def mA:Ps St:=do
 let s <- kP [cz,dt,iu]
 if s=cz then Hu else if s=dt then abU else SG
def Qi:Ps St:=do
 let s <- kP [cz,dt,iu]
 let name <- cD
 return { kind:=4,what:=if s=cz then 1 else if s=dt then 2 else 3,name }
def td:Ps (List Tr):=do
 must bz
 let l <- dI eJ
 must aM
 return l
def Bh:Ps St:=do
 must fc
 let name <- cD
 must iO
 let rows <- dI td
 return { kind:=5,name,rows }
def xh:Ps (ByteArray×Tr):=do
 let n <- cD
 must Ht
 let x <- eJ
 return (n,x)
def Bi:Ps St:=do
 let name <- cD
 must rS
 let aS <- dI xh
 let aR <- gR dh
 return { kind:=6,name,aS,aR }
def Bj:Ps St:=do
 must cu
 let name <- cD
 let aR <- gR dh
 return { kind:=7,name,aR }
def Bk:Ps St:=do
 let query <- cY
 return { kind:=8,query }
def ve:Ps Val:=do
 if <- may bK then
  return ct
 else
  let less <- may dB
  let n <- nh
  return ⟨2,if less then -n else n,ByteArray.empty⟩
def pW (k:Int):Ps Val:=do
 if k=9 then
  let v <- ve
  must bk
  return v
 else return ct
def Qj:Ps St:=do
 let s <- kP [bZ,bP,dA,eF]
 let kind:Int:=if s=bZ then 9 else if s=bP then 10 else if s=dA then 11 else 12
 must bz
 let name <- cD
 must bk
 let aK <- pW kind
 let cP <- ve
 must aM
 return { kind,name,aK,cP }
def cf:Ps St:=λ l=>
 match l with
 | []=> .error 0
 | t::r=>
   if¬t.k=1 then .error (t::r).length
   else if t.s=cX then Bk (t::r)
   else if t.s=fj then mA r
   else if t.s=fY then Qi r
   else if t.s=gY then Bh r
   else if t.s=gw then Bi r
   else if t.s=gy then Bj r
   else if t.s=ll then Qj r
   else .error (t::r).length
def Ck:Ps Unit
 | []=> .error 0
 | t::r=>if t.k=0 then .ok ((),t::r)else .error (t::r).length
def yZ:Ps St:=do
 let s <- cf
 let _ <- may yU
 Ck
 return s
mutual
def Tr.depth:Tr->Nat
 | .mk _ _ _ _ args=>Tr.ly args+1
def Tr.ly:List Tr->Nat
 | []=>0
 | t::l=>max t.depth (Tr.ly l)
end
def Qu.exprs (q:Qu):List Tr:=q.items.map (·.1)++q.aR++q.group++q.having++q.order.map (·.1)
def St.exprs (s:St):List Tr:=s.rows.flatten++s.aS.map (·.2)++s.aR++s.query.exprs
def cZ (l:List Tr):Bool:=l.any λ t=>decide (32 < t.depth)
def Qu.long (q:Qu):Bool:=decide (64 < q.items.length)|| decide (64 < q.group.length)|| decide (64 < q.order.length)
def St.long (s:St):Bool:=decide (64 < s.aJ.length)|| decide (64 < s.rows.length)|| s.rows.any (λ r=>decide (64 < r.length))|| decide (64 < s.aS.length)|| s.query.long
def lz (s:List UInt8):Except (Nat×Nat) St:=
 match lY s with
 | .error x=> .error x
 | .ok l=>match yZ (l.map (·.w))with
   | .error n=> .error (((l[l.length - n]?).map (·.p)).getD 0,31)
   | .ok (t,_)=>if t.long then .error (0,2)else if cZ t.exprs then .error (0,32)else .ok t
variable{β:Type}
theorem gS(p:Ps α)(f:α->Ps β)(l:aI):(p >>= f) l=match p l with | .error n=> .error n | .ok (x,r)=>f x r:=rfl
variable{f:α->Ps β}{l r:aI}{x:α}
theorem ag{p:Ps α}   (h:p l=.ok (x,r)):(p >>= f) l=f x r:=by rw[gS,h]
variable{n:Nat}
theorem ak{p:Ps α}   (h:p l=.error n):(p >>= f) l=.error n:=by rw[gS,h]
def je (l:aI):Prop:=∃x e,l=x++ [e]/\e.k=0
variable{t:Wd}
theorem je.tail(h:je (t::r))(ht:t.k≠0):je r:=by
 obtain⟨x,e,hx,he⟩:=h
 match x with
 | []=>simp at hx;exact absurd (hx.1▸he) ht
 | y::x=>simp at hx;exact⟨x,e,hx.2,he⟩
theorem je.pos(h:je l):0 < l.length:=by obtain⟨x,e,rfl,_⟩:=h;simp
theorem Cu{s:List UInt8} (h:gJ s t=true):t.k≠0:=by unfold gJ at h;simp at h;omega
theorem eK{s:List UInt8} (h:ar s l=true):∃t r,l=t::r/\gJ s t=true:=by
 match l with
 | []=>simp[ar] at h
 | t::r=>exact⟨t,r,rfl,h⟩
def cK(p:Ps α):Prop:=∀l,match p l with
 | .ok (_,r)=>r <:+ l/\(je l->je r)
 | .error n=>n<=l.length/\(je l->0 < n)
theorem cK.ok{p:Ps α}(h:cK p)  (e:p l=.ok (x,r)):r <:+ l/\(je l->je r):=by have:=h l;rw[e] at this;exact this
theorem cK.err{p:Ps α}(h:cK p)  (e:p l=.error n):n<=l.length/\(je l->0 < n):=by have:=h l;rw[e] at this;exact this
theorem cK.len{p:Ps α}(h:cK p)  (e:p l=.ok (x,r)):r.length<=l.length:=(h.ok e).1.length_le
theorem bU(x:α):cK (pure x:Ps α):=λ l=>⟨suffix_refl _,id⟩
theorem bE{p:Ps α} (h:cK p)(k:∀x,cK (f x)):cK (p >>= f):=by
 intro l;rw[gS]
 cases e:p l with
 | error n=>exact h.err e
 | ok y=>
   obtain⟨x,r⟩:=y;obtain⟨h1,h2⟩:=h.ok e;show match f x r with | .ok (_,r)=>r <:+ l/\(je l->je r)| .error n=>n<=l.length/\(je l->0 < n)
   cases e2:f x r with
   | error n=>obtain⟨k1,k2⟩:=(k x).err e2;exact⟨Nat.le_trans k1 h1.length_le,λ hl=>k2 (h2 hl)⟩
   | ok y=>obtain⟨z,r2⟩:=y;obtain⟨k1,k2⟩:=(k x).ok e2;exact⟨k1.trans h1,λ hl=>k2 (h2 hl)⟩
theorem Ig{q:aI->Ps α}(h:∀l,cK (q l)):cK (λ l=>q l l):=λ l=>h l l
theorem ot:cK (yV:Ps α):=λ l=>⟨Nat.le_refl _,je.pos⟩
theorem qi(s:List UInt8) {p q:Ps α}(hp:cK p)(hq:cK q):cK (λ l=>if ar s l then p l.tail else q l):=by
 intro l;by_cases h:ar s l=true
 ·obtain⟨t,r,rfl,ht⟩:=eK h;simp only[h,if_true,tail_cons]
  cases e:p r with
  | error n=>obtain⟨k1,k2⟩:=hp.err e;exact⟨by simp;omega,λ hl=>k2 (hl.tail (Cu ht))⟩
  | ok y=>obtain⟨z,r2⟩:=y;obtain⟨k1,k2⟩:=hp.ok e;exact⟨k1.trans (suffix_cons _ _),λ hl=>k2 (hl.tail (Cu ht))⟩
 ·simp only[h];exact hq l
theorem iQ (s:List UInt8):cK (may s):=qi s (p:=pure true) (q:=pure false) (bU _) (bU _)
theorem cB (s:List UInt8):cK (must s):=qi s (p:=pure ()) (q:=yV) (bU _) ot
theorem qj:∀ks,cK (kP ks)
 | []=>ot
 | s::ks=>qi s (p:=pure s) (q:=kP ks) (bU _) (qj ks)
variable{v:Wd->α}
theorem Fw{c:Wd->Prop} [DecidablePred c] (hc:∀t,c t->t.k≠0):
  cK (λ l=>match l with | []=> .error 0 | t::r=>if c t then .ok (v t,r)else .error (t::r).length:Ps α):=by
 intro l
 match l with
 | []=>exact⟨Nat.le_refl _,λ h=>h.pos⟩
 | t::r=>
   by_cases h:c t
   ·simp only[h,if_true];exact⟨suffix_cons _ _,λ hl=>hl.tail (hc t h)⟩
   ·simp only[h];exact⟨Nat.le_refl _,λ hl=>by simp⟩
theorem kF:cK cD:=by have:=Fw (c:=λ t=>t.k=1/\kO t.s=false) (v:=λ t=>(⟨t.s.toArray⟩:ByteArray)) (λ t h=>by rw[h.1];decide);exact Zhh
theorem lF:cK nh:=by have:=Fw (c:=λ t=>t.k=2) (v:=λ t=>t.n) (λ t h=>by rw[h];decide);exact Zhh
variable{el:Ps α}
theorem Fx(h:cK el):∀f acc,cK (pU el f acc)
 | 0,acc=>bU _
 | f+1,acc=>qi bk (p:=do let y <- el;pU el f (acc++ [y])) (q:=pure acc) (bE h λ y=>Fx h f _) (bU _)
theorem ql(h:cK el):cK (dI el):=bE h λ x=>Ig (q:=λ l=>pU el l.length [x]) λ l=>Fx h _ _
variable{c:Prop}
theorem iR   [Decidable c] {p q:Ps α}(hp:cK p)(hq:cK q):cK (if c then p else q):=by
 split
 ·exact hp
 ·exact hq
def Xo:Tr:=nr 0 []
theorem kG:∀ {ks:List (List UInt8×Int)} {l:aI} {o:Int},eR ks l=some o->∃s,(s,o)∈ks/\ar s l=true
 | [],l,o,h=>by simp[eR] at h
 |(s,k)::ks,l,o,h=>by
  simp only[eR] at h;split at h
  ·rename_i hs;injection h with h;subst h;exact⟨s,mem_cons_self,hs⟩
  ·obtain⟨s',h1,h2⟩:=kG h;exact⟨s',mem_cons_of_mem _ h1,h2⟩
theorem uF{p:Ps α}(hp:cK p) {s:List UInt8} (h:ar s l=true):match p l.tail with
 | .ok (_,r)=>r <:+ l/\(je l->je r)
 | .error n=>n<=l.length/\(je l->0 < n):=by have:=qi s hp (q:=yV) ot l;simpa only[h,if_true] using this
variable{below:Ps Tr}
theorem Cv(hb:cK below)(lv:Nat):∀f x,cK (lr below lv f x)
 | 0,x=>bU _
 | f+1,x=>by
   intro l;simp only[lr];cases e:eR (opsL lv) l with
   | none=>exact bU x l
   | some o=>obtain⟨s,_,hs⟩:=kG e;exact uF (p:=do let y <- below;lr below lv f (nr o [x,y])) (bE hb λ y=>Cv hb lv f _) hs
theorem rz(hb:cK below)(lv:Nat):cK (kD below lv):=bE hb λ x=>Ig (q:=λ l=>lr below lv l.length x) λ l=>Cv hb lv _ _
theorem Tc(hb:cK below)(x:Tr):cK (yX below x):=by
 intro l;unfold yX
 cases e:eR (opsL 3) l with
 | none=>exact bU x l
 | some o=>obtain⟨s,_,hs⟩:=kG e;exact uF (p:=do let y <- below;return nr o [x,y]) (bE hb λ y=>bU _) hs
theorem Xp(hb:cK below):cK (sj below):=
 bE hb λ x=>bE (iQ _) λ b=>iR (bE (iQ _) λ n=>bE (cB _) λ _=>bU _) (Tc hb x)
variable{same:Ps Tr}
theorem Qm(s:List UInt8)(op:Int)(hs:cK same)(hb:cK below):cK (Kn s op same below):=by
 refine bE (iQ _) λ b=>?_
 split
 ·exact bE hs λ x=>bU _
 ·exact hb
variable{whole:Ps Tr}
theorem Fy(hw:cK whole)(op:Int):cK (rT whole op):=
 bE (iR (bE lF λ n=>bE (cB _) λ _=>bU _) (bU _)) λ _=>bE hw λ x=>
  bE (iR (bE (cB _) λ _=>bE hw λ y=>bU _) (bU _)) λ _=>bE (cB _) λ _=>bU _
theorem Xq(hw:cK whole)(op:Int):cK (pV whole op):=
 iR (bE (iQ _) λ b=>iR (bE (cB _) λ _=>bU _) (Fy hw _)) (Fy hw op)
theorem NJ(hw:cK whole):cK (ma whole):=by
 refine bE kF λ n=>?_
 intro l;by_cases h:ar bz l=true
 ·simp only[h,if_true]
  cases e:lW n with
  | none=>exact ot (α:=Tr) l
  | some op=>exact uF (Xq hw op) h
 ·simp only[h];exact bU (vN n) l
theorem Td(hw:cK whole):cK (eD whole):=by
 intro l
 match l with
 | []=>exact⟨Nat.le_refl _,λ h=>h.pos⟩
 | t::r=>
   have one:∀(x:Tr),t.k≠0->r <:+ t::r/\(je (t::r)->je r):=λ x h=>⟨suffix_cons _ _,λ hl=>hl.tail h⟩
   simp only[eD];by_cases h1:t.k=2
   ·simp only[h1,if_true];exact one Xo Taa
   by_cases h2:t.k=3
   ·simp only[h1,h2,if_true];exact one Xo Taa
   by_cases h3:gJ eu t=true
   ·simp only[h1,h2,h3,if_true];exact one Xo (Cu h3)
   by_cases h4:gJ dP t=true
   ·simp only[h1,h2,h3,h4,if_true];exact one Xo (Cu h4)
   by_cases h5:gJ bK t=true
   ·simp only[h1,h2,h3,h4,h5,if_true];exact one Xo (Cu h5)
   by_cases h6:gJ bz t=true
   ·simp only[h1,h2,h3,h4,h5,h6,if_true];exact uF (l:=t::r) (s:=bz) (p:=do let x <- whole;must aM;return x) (bE hw λ x=>bE (cB _) λ _=>bU _) h6
   ·simp only[h1,h2,h3,h4,h5,h6,if_false];exact NJ hw (t::r)
theorem di:∀f lv,cK (pE f lv)
 | 0,_=>ot
 | f+1,0=>rz (di f 1) 0
 | f+1,1=>rz (di f 2) 1
 | f+1,2=>Qm _ _ (di f 2) (di f 3)
 | f+1,3=>Xp (di f 4)
 | f+1,4=>rz (di f 5) 4
 | f+1,5=>rz (di f 6) 5
 | f+1,6=>Qm _ _ (di f 6) (di f 7)
 | f+1,_+7=>Td (di f 0)
theorem cg (lv:Nat):cK (aU lv):=Ig (q:=λ l=>pE (8*l.length+8 - lv) lv) λ l=>di _ _
theorem kH:cK eJ:=cg 0
inductive dX where
 | good (l:aI)
 | bad (n:Nat)
def dX.left:dX->Nat
 | .good l=>l.length
 | .bad n=>n
def dX.ou:dX->Bool
 | .good _=>true
 | .bad _=>false
def dX.words:dX->aI
 | .good l=>l
 | .bad _=> []
def eW(p:Ps α):dX->dX
 | .bad n=> .bad n
 | .good l=>match p l with
   | .ok (_,r)=> .good r
   | .error n=> .bad n
def qm(p:Ps α):dX->α->Prop
 | .bad _,_=>True
 | .good l,x=>match p l with
   | .ok (y,_)=>x=y
   | .error _=>True
variable{σ:dX}
theorem Th{p:Ps α}   (h:qm p σ x):eW (p >>= f) σ=eW (f x) (eW p σ):=by
 match σ with
 | .bad n=>rfl
 | .good l=>
   simp only[eW,qm,gS] at h ⊢
   cases e:p l with
   | error n=>rfl
   | ok y=>obtain⟨y,r⟩:=y;rw[e] at h;simp only at h;subst h;rfl
theorem Ti(x:α)(σ:dX):eW (pure x:Ps α) σ=σ:=by cases σ <;> rfl
theorem Tj(p:Ps α)(n:Nat)(x:α):qm p (.bad n) x:=trivial
def dX.head (s:List UInt8)(σ:dX):Bool:=ar s σ.words
theorem KA (s:List UInt8)(σ:dX):eW (may s) σ=if σ.head s then .good σ.words.tail else σ:=by
 match σ with
 | .bad n=>rfl
 | .good l=>simp only[eW,may,dX.head,dX.words];exact ZeS
theorem FB (s:List UInt8)(σ:dX):eW (must s) σ=if σ.head s then .good σ.words.tail else .bad σ.left:=by
 match σ with
 | .bad n=>rfl
 | .good l=>simp only[eW,must,dX.head,dX.words,dX.left];exact ZeS
theorem NP (p:Ps Unit)(σ:dX):qm p σ ():=by
 match σ with
 | .bad n=>trivial
 | .good l=>simp only[qm];split <;> trivial
def dX.of (W:aI):dX->Prop
 | .good l=>l <:+ W/\je l
 | .bad n=>0 < n/\n<=W.length
variable{W:aI}
theorem dX.Ij(h:σ.of W):0 < σ.left/\σ.left<=W.length:=by
 match σ with
 | .bad n=>exact h
 | .good l=>exact⟨h.2.pos,h.1.length_le⟩
theorem dX.of_next(h:(dX.good l).of W):∃t r,l=t::r/\W[W.length - l.length]?=some t:=by
 obtain⟨⟨b,hb⟩,h2⟩:=h
 match l,h2.pos with
 | t::r,_=>refine⟨t,r,rfl,?_⟩;rw[<- hb,length_append,Nat.add_sub_cancel,getElem?_append_right (Nat.le_refl _),Nat.sub_self];rfl
theorem Tq{s:List UInt8} (h:σ.head s=true):∃t r,σ=.good (t::r)/\gJ s t=true:=by
 match σ with
 | .bad n=>simp[dX.head,dX.words,ar] at h
 | .good l=>obtain⟨t,r,e,ht⟩:=eK (s:=s) (l:=l) h;exact⟨t,r,by rw[e],ht⟩
theorem pI{s:List UInt8} (h:σ.head s=true):eW (may s) σ=.good σ.words.tail:=by rw[KA,h];rfl
theorem lH{s:List UInt8} (h:σ.head s=false):eW (may s) σ=σ:=by rw[KA,h];rfl
theorem tA{s:List UInt8} (h:σ.head s=true):eW (must s) σ=.good σ.words.tail:=by rw[FB,h];rfl
theorem AO{s:List UInt8} (h:σ.head s=false):eW (must s) σ=.bad σ.left:=by rw[FB,h];rfl
def gK:List (List UInt8)->Ps Unit
 | []=>pure ()
 | s::ks=>do must s;gK ks
theorem vV (s:List UInt8)(ks:List (List UInt8))(σ:dX):eW (gK (s::ks)) σ=eW (gK ks) (eW (must s) σ):=Th (x:=()) (NP _ _)
theorem tB (σ:dX):eW (gK []) σ=σ:=Ti _ _
theorem CC (s:List UInt8)(σ:dX):eW (gK [s]) σ=eW (must s) σ:=by rw[vV,tB]
theorem uJ (t:Wd)(r:aI):eW cD (.good (t::r))=if t.k=1/\kO t.s=false then .good r else .bad (r.length+1):=by
 simp only[eW,cD];by_cases h:t.k=1/\kO t.s=false
 ·simp only[h,and_self,if_true]
 ·simp only[h,if_false];rfl
theorem NW (t:Wd)(r:aI):qm cD (.good (t::r)) ⟨t.s.toArray⟩:=by
 simp only[qm,cD];by_cases h:t.k=1/\kO t.s=false
 ·simp only[h,and_self,if_true]
 ·simp only[h,if_false]
theorem xG{p:Ps α}  (h:eW p σ=.bad n)(x:α):qm p σ x:=by
 match σ with
 | .bad m=>trivial
 | .good l=>
   simp only[eW,qm] at h ⊢
   cases e:p l with
   | error m=>trivial
   | ok y=>obtain⟨y,r⟩:=y;rw[e] at h;cases h
section
variable {s:List UInt8} {op:Int} {same below:Ps Tr} {σ:dX} {x:Tr}
end
theorem mg:cK nZ:=by
 unfold nZ;repeat (first | exact bU _ | exact iQ _ | exact cB _ | exact kF | exact lF | exact qj _ | exact kH | exact pk _ | apply iR | apply ql | refine bE ?_ λ _=>?_)
theorem mQ:cK lu:=by
 unfold lu;repeat (first | exact bU _ | exact iQ _ | exact cB _ | exact kF | exact lF | exact qj _ | exact kH | exact pk _ | exact mg | apply iR | apply ql | refine bE ?_ λ _=>?_)
theorem nC:cK iD:=by
 unfold iD;repeat (first | exact bU _ | exact iQ _ | exact cB _ | exact kF | exact lF | exact qj _ | exact kH | exact pk _ | exact mg | exact mQ | exact Aa | exact Ab | exact xw | exact Ac | exact Ad | apply iR | apply ql | refine bE ?_ λ _=>?_)
theorem zf:cK td:=by
 unfold td;repeat (first | exact bU _ | exact iQ _ | exact cB _ | exact kF | exact lF | exact qj _ | exact kH | exact pk _ | exact mg | exact mQ | exact Aa | exact Ab | exact xw | exact Ac | exact Ad | exact nC | exact Kw | exact Ky | exact NK | exact Te _ | exact Tf | exact Ih | exact NL | apply iR | apply ql | refine bE ?_ λ _=>?_)
theorem Fz:cK xh:=by
 unfold xh;repeat (first | exact bU _ | exact iQ _ | exact cB _ | exact kF | exact lF | exact qj _ | exact kH | exact pk _ | exact mg | exact mQ | exact Aa | exact Ab | exact xw | exact Ac | exact Ad | exact nC | exact Kw | exact Ky | exact NK | exact Te _ | exact Tf | exact Ih | exact NL | exact zf | exact T7 | apply iR | apply ql | refine bE ?_ λ _=>?_)
def gF(m:Nat)(p q:Ps α):Prop:=∀l:aI,l.length<=m->p l=q l
theorem dR(m:Nat)(p:Ps α):gF m p p:=λ _ _=>rfl
variable{m:Nat}{g:α->Ps β}
theorem dS{p q:Ps α} (h:gF m p q)(hp:cK p)(k:∀x,gF m (f x) (g x)):gF m (p >>= f) (q >>= g):=by
 intro l hl;rw[gS,gS,<- h l hl]
 cases e:p l with
 | error n=>rfl
 | ok y=>obtain⟨x,r⟩:=y;exact k x r (by have:=hp.len e;omega)
variable{p' q':Ps α}
theorem uG    [Decidable c] {p q:Ps α}(h:gF m p p')(k:gF m q q'):gF m (if c then p else q) (if c then p' else q'):=by
 split
 ·exact h
 ·exact k
theorem head_tail{s:List UInt8} (h:ar s l=true):l.tail.length+1=l.length:=by obtain⟨t,r,rfl,_⟩:=eK h;rfl
variable{q:Ps Tr}
theorem Ae{p:Ps Tr}(h:gF m p q)(hp:cK p)(lv:Nat):∀f x,gF m (lr p lv f x) (lr q lv f x)
 | 0,x=>dR _ _
 | f+1,x=>by
   intro l hl;simp only[lr];cases e:eR (opsL lv) l with
   | none=>rfl
   | some o=>obtain⟨s,_,hs⟩:=kG e;have:=head_tail hs;exact dS h hp (λ y=>Ae h hp lv f _) l.tail Taa
theorem iw{p:Ps Tr}(h:gF m p q)(hp:cK p)(lv:Nat):gF m (kD p lv) (kD q lv):=dS h hp λ x l hl=>Ae h hp lv _ _ l hl
theorem FA{p:Ps Tr}(h:gF m p q)(hp:cK p):gF m (sj p) (sj q):=by
 refine dS h hp λ x=>dS (dR _ _) (iQ _) λ b=>uG (dR _ _) ?_
 intro l hl;unfold yX
 cases e:eR (opsL 3) l with
 | none=>rfl
 | some o=>obtain⟨s,_,hs⟩:=kG e;have:=head_tail hs;exact dS h hp (λ y=>dR _ _) l.tail Taa
theorem NN(s:List UInt8) {p q:Ps α}(h:gF m p p')(k:gF (m+1) q q'):gF (m+1) (λ l=>if ar s l then p l.tail else q l) (λ l=>if ar s l then p' l.tail else q' l):=by
 intro l hl;by_cases e:ar s l=true
 ·have:=head_tail e;simp only[e,if_true];exact h l.tail Taa
 ·simp only[e];exact k l hl
theorem bQ(s:List UInt8)(f:Bool->Ps α):(may s >>= f)=λ l=>if ar s l then f true l.tail else f false l:=by funext l;rw[gS];unfold may;exact ZeS
theorem xx{p p' q':Ps Tr}(s:List UInt8)(op:Int)(h:gF m p p')(hp:cK p)(k:gF (m+1) q q'):gF (m+1) (Kn s op p q) (Kn s op p' q'):=by unfold Kn;rw[bQ,bQ];exact NN s (dS h hp λ x=>dR _ _) k
theorem Cw{p:Ps Tr}(h:gF m p q)(hp:cK p)(op:Int):gF m (rT p op) (rT q op):=
 dS (dR _ _) (iR (bE lF λ n=>bE (cB _) λ _=>bU _) (bU _)) λ _=>dS h hp λ x=>
  dS (uG (dS (dR _ _) (cB _) λ _=>dS h hp λ y=>dR _ _) (dR _ _)) (iR (bE (cB _) λ _=>bE hp λ y=>bU _) (bU _)) λ _=>dR _ _
theorem Tg{p:Ps Tr}(h:gF m p q)(hp:cK p)(op:Int):gF m (pV p op) (pV q op):=
 uG (dS (dR _ _) (iQ _) λ b=>uG (dR _ _) (Cw h hp _)) (Cw h hp op)
theorem Kz{p:Ps Tr}(h:gF m p q)(hp:cK p):gF (m+1) (ma p) (ma q):=by
 refine dS (dR _ _) kF λ n=>?_
 intro l hl;by_cases e:ar bz l=true
 ·have:=head_tail e;simp only[e,if_true]
  cases lW n with
  | none=>rfl
  | some op=>exact Tg h hp op l.tail Taa
 ·simp only[e];rfl
theorem Cx{p:Ps Tr}(h:gF m p q)(hp:cK p):gF (m+1) (eD p) (eD q):=by
 intro l hl
 match l with
 | []=>rfl
 | t::r=>have e1:(do let x <- p;must aM;return x:Ps Tr) r=(do let x <- q;must aM;return x:Ps Tr) r:=dS h hp (λ x=>dR _ _) r (by simp at hl;omega);have e2:=Kz h hp (t::r) hl;simp only[eD];rw[e1,e2]
theorem jF:∀(f g lv:Nat) (m:Nat),lv<=7->8*m+8 - lv<=f->8*m+8 - lv<=g->gF m (pE f lv) (pE g lv)
 | 0,_,_,_,_,h,_=>by omega
 | _,0,_,_,_,_,h=>by omega
 | f+1,g+1,0,m,_,hf,hg=>iw (jF f g 1 m Taa Taa Taa) (di _ _) 0
 | f+1,g+1,1,m,_,hf,hg=>iw (jF f g 2 m Taa Taa Taa) (di _ _) 1
 | f+1,g+1,2,0,_,hf,hg=>λ l hl=>by
   match l,hl with
   | [],_=>exact jF f g 3 0 Taa Taa Taa [] (Nat.le_refl _)
 | f+1,g+1,2,m+1,_,hf,hg=>xx _ _ (jF f g 2 m Taa Taa Taa) (di _ _) (jF f g 3 (m+1) Taa Taa Taa)
 | f+1,g+1,3,m,_,hf,hg=>FA (jF f g 4 m Taa Taa Taa) (di _ _)
 | f+1,g+1,4,m,_,hf,hg=>iw (jF f g 5 m Taa Taa Taa) (di _ _) 4
 | f+1,g+1,5,m,_,hf,hg=>iw (jF f g 6 m Taa Taa Taa) (di _ _) 5
 | f+1,g+1,6,0,_,hf,hg=>λ l hl=>by
   match l,hl with
   | [],_=>exact jF f g 7 0 Taa Taa Taa [] (Nat.le_refl _)
 | f+1,g+1,6,m+1,_,hf,hg=>xx _ _ (jF f g 6 m Taa Taa Taa) (di _ _) (jF f g 7 (m+1) Taa Taa Taa)
 | f+1,g+1,7,0,_,hf,hg=>λ l hl=>by
   match l,hl with
   | [],_=>rfl
 | f+1,g+1,7,m+1,_,hf,hg=>Cx (jF f g 0 m Taa Taa Taa) (di _ _)
 | _+1,_+1,_+8,_,h,_,_=>by omega
variable{lv:Nat}
theorem Xr{f:Nat} (hlv:lv<=7)(h:8*l.length+8 - lv<=f):pE f lv l=aU lv l:=jF f _ lv l.length hlv h (Nat.le_refl _) l (Nat.le_refl _)
theorem fw{f:Nat}(hlv:lv<=7)(h:8*m+8 - lv<=f):gF m (pE f lv) (aU lv):=λ l hl=>Xr hlv Taa
theorem Bo:aU 0=kD (aU 1) 0:=funext λ l=>iw (fw (f:=8*l.length+7) (m:=l.length) Taa Taa) (di _ _) 0 l (Nat.le_refl _)
theorem Bp:aU 1=kD (aU 2) 1:=funext λ l=>iw (fw (f:=8*l.length+6) (m:=l.length) Taa Taa) (di _ _) 1 l (Nat.le_refl _)
theorem Bq:aU 2=Kn ei 4 (aU 2) (aU 3):=funext λ l=>by
 match l with
 | []=>rfl
 | t::r=>exact xx ei 4 (fw (f:=8*(t::r).length+5) (m:=r.length) Taa Tav) (di _ _) (fw (m:=r.length+1) Taa Tav) (t::r) Tae
theorem xy:aU 3=sj (aU 4):=funext λ l=>FA (fw (f:=8*l.length+4) (m:=l.length) Taa Taa) (di _ _) l (Nat.le_refl _)
theorem Br:aU 4=kD (aU 5) 4:=funext λ l=>iw (fw (f:=8*l.length+3) (m:=l.length) Taa Taa) (di _ _) 4 l (Nat.le_refl _)
theorem Bt:aU 5=kD (aU 6) 5:=funext λ l=>iw (fw (f:=8*l.length+2) (m:=l.length) Taa Taa) (di _ _) 5 l (Nat.le_refl _)
theorem Ii:aU 6=Kn dB 3 (aU 6) (aU 7):=funext λ l=>by
 match l with
 | []=>rfl
 | t::r=>exact xx dB 3 (fw (f:=8*(t::r).length+1) (m:=r.length) Taa Tav) (di _ _) (fw (m:=r.length+1) Taa Tav) (t::r) Tae
theorem xz:aU 7=eD (aU 0):=funext λ l=>by
 match l with
 | []=>rfl
 | t::r=>exact Cx (fw (f:=8*(t::r).length) (m:=r.length) Taa Tav) (di _ _) (t::r) Tae
theorem xA:∀ks,eR ks []=none
 | []=>rfl
 |(s,o)::ks=>by simp only[eR,ar];exact xA ks
theorem Cy(hb:cK below)(lv:Nat):∀(f g:Nat) (x:Tr) (l:aI),l.length<=f->l.length<=g->lr below lv f x l=lr below lv g x l
 | 0,0,x,l,_,_=>rfl
 | 0,g+1,x,l,h,_=>by have:l=[]:=eq_nil_of_length_eq_zero Taa;subst this;simp only[lr,xA];rfl
 | f+1,0,x,l,_,h=>by have:l=[]:=eq_nil_of_length_eq_zero Taa;subst this;simp only[lr,xA];rfl
 | f+1,g+1,x,l,hf,hg=>by
   simp only[lr];cases e:eR (opsL lv) l with
   | none=>rfl
   | some o=>
     obtain⟨s,_,hs⟩:=kG e;have ht:=head_tail hs;simp only[gS];cases e2:below l.tail with
     | error n=>rfl
     | ok y=>obtain⟨y,r⟩:=y;have:=hb.len e2;exact Cy hb lv f g _ r Taa Taa
def KB (below:Ps Tr)(lv:Nat)(x:Tr):Ps Tr:=λ l=>lr below lv l.length x l
theorem Ik (below:Ps Tr)(lv:Nat):kD below lv=(do let x <- below;KB below lv x):=rfl
theorem qp(hb:cK below)(lv:Nat)(x:Tr)(l:aI):KB below lv x l=match eR (opsL lv) l with
  | none=> .ok (x,l)
  | some o=>(do let y <- below;KB below lv (nr o [x,y])) l.tail:=by
 match l with
 | []=>simp only[xA];rfl
 | t::r=>
   show lr below lv (r.length+1) x (t::r)=_;simp only[lr]
   cases e:eR (opsL lv) (t::r)with
   | none=>rfl
   | some o=>
     simp only[gS,tail_cons]
     cases e2:below r with
     | error n=>rfl
     | ok y=>obtain⟨y,r2⟩:=y;have:=hb.len e2;exact Cy hb lv _ _ _ r2 Taa (Nat.le_refl _)
theorem Cz(hb:cK el):∀(f g:Nat) (acc:List α) (l:aI),l.length<=f->l.length<=g->pU el f acc l=pU el g acc l
 | 0,0,x,l,_,_=>rfl
 | 0,g+1,x,l,h,_=>by have:l=[]:=eq_nil_of_length_eq_zero Taa;subst this;simp[pU,ar];rfl
 | f+1,0,x,l,_,h=>by have:l=[]:=eq_nil_of_length_eq_zero Taa;subst this;simp[pU,ar];rfl
 | f+1,g+1,x,l,hf,hg=>by
   simp only[pU];cases e:ar bk l
   ·rfl
   ·have ht:=head_tail e;simp only[if_true,gS];cases e2:el l.tail with
    | error n=>rfl
    | ok y=>obtain⟨y,r⟩:=y;have:=hb.len e2;exact Cz hb f g _ r Taa Taa
def xB(el:Ps α)(acc:List α):Ps (List α):=λ l=>pU el l.length acc l
theorem Il(el:Ps α):dI el=(do let x <- el;xB el [x]):=rfl
theorem xC(hb:cK el)(acc:List α):xB el acc=(do
  if <- may bk then
   let y <- el
   xB el (acc++ [y])
  else return acc):=by
 funext l;rw[bQ]
 match l with
 | []=>rfl
 | t::r=>
   show pU el (r.length+1) acc (t::r)=_;simp only[pU];cases e:ar bk (t::r)
   ·rfl
   ·simp only[if_true,gS,tail_cons]
    cases e2:el r with
    | error n=>rfl
    | ok y=>obtain⟨y,r2⟩:=y;have:=hb.len e2;exact Cz hb _ _ _ r2 Taa (Nat.le_refl _)
section
variable {α β γ:Type}
theorem iT (p:Ps α)(g:α->Ps β)(f:β->Ps γ):((p >>= g)>>= f)=(p >>= λ x=>g x >>= f):=by funext l;rw[gS,gS,gS];cases p l <;> rfl
end
theorem zx (s t:List UInt8)(k:Unit->Ps St):(must s >>= λ _=>must t >>= k)=(gK [s,t] >>= k):=by unfold gK;rw[iT];congr 1;funext _;unfold gK;rw[iT];congr 1
section
variable {t:Wd} {r:aI} {x:Tr}
structure Plain (t:Wd):Prop where
 i:t.k≠2
 s:t.k≠3
structure ace (t:Wd):Prop where
 p:Plain t
 wt:gJ eu t=false
 wf:gJ dP t=false
 wn:gJ bK t=false
 wo:gJ bz t=false
end
section
variable {n:ByteArray} {σ:dX} {z:Tr} {op:Int}
end
theorem TY{s:List UInt8} {x:Nat×Nat}(h:lY s=.error x):lz s=.error x:=by unfold lz;rw[h]
theorem FV{s:List UInt8} {l:List np} (h:lY s=.ok l)(hw:yZ (l.map (·.w))=.error n):lz s=.error (((l[l.length - n]?).map (·.p)).getD 0,31):=by unfold lz;rw[h];simp only;rw[hw]
variable{d:St}
theorem OM{s:List UInt8} {l:List np}  (h:lY s=.ok l)(hw:yZ (l.map (·.w))=.ok (d,r)):lz s=if d.long then .error (0,2)else if cZ d.exprs then .error (0,32)else .ok d:=by unfold lz;rw[h];simp only;rw[hw]
end Go.Proofs.YtehhdlgjfdnafaaGreatDoor
