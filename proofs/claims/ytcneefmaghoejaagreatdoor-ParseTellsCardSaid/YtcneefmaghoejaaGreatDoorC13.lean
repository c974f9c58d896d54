/- Parts of the proof. -/
import Derived.Test.YtcneefmaghoejaaGreatDoorC12
namespace Go.Proofs.YtcneefmaghoejaaGreatDoor
open Go.Lib (hid)
set_option linter.unusedSimpArgs false
set_option linter.unusedVariables false
section
variable {W:Ps Tr} {σ:aW} {x y:Tr} {op k:Int}
theorem AE (VI:op≠20)(Sh:op≠27)(h28:op≠28)(hx:aK W σ x):ae (nW W op) σ=ae (must aq) (ae W σ)∧aK (nW W op) σ (lI op [x]):=by
 have e1:ml op=pure 0:=by unfold ml;rw[if_neg VI]
 have e2:jZ W op=pure []:=by unfold jZ;rw[if_neg (by omega)]
 unfold nW;rw[e1,e2];constructor
 ·rw[aI (bM _ _),cr,aI hx,aI (bM _ _),cr,aI (aJ _ _)];exact cr _ _
 ·refine aC (bM _ _) ?_;rw[cr];refine aC hx (aC (bM _ _) ?_);exact aC (aJ _ _) (bM _ _)
theorem OD (I3:op≠22)(VI:op≠20)(Sh:op≠27)(h28:op≠28)(hx:aK W σ x):ae (jn W op) σ=ae (must aq) (ae W σ)∧aK (jn W op) σ (lI op [x]):=by unfold jn;rw[if_neg I3];exact AE VI Sh h28 hx
theorem OE (hs:σ.head eI=false)(hx:aK W σ x):ae (jn W 22) σ=ae (must aq) (ae W σ)∧aK (jn W 22) σ (lI 22 [x]):=by
 unfold jn;rw[if_pos rfl];unfold countP;obtain⟨h1,h2⟩:=AE (op:=22) (by decide) (by decide) (by decide) hx;constructor
 ·rw[aI (bj eI σ),hs,aG hs];exact h1
 ·refine aC (bj eI σ) ?_;rw[hs,aG hs];exact h2
theorem Si (hs:σ.head eI=true):ae (jn W 22) σ=ae (must aq) (.good σ.words.tail)∧aK (jn W 22) σ (lI 21 []):=by
 unfold jn;rw[if_pos rfl];unfold countP;constructor
 ·rw[aI (bj eI σ),hs,aP hs];simp only[if_true];rw[aI (aJ _ _)];exact cr _ _
 ·refine aC (bj eI σ) ?_;rw[hs,aP hs];exact aC (aJ _ _) (bM _ _)
theorem Kw (hk:aK cY σ k)(hx:aK W (ae (must ax) (ae cY σ)) x):ae (jn W 20) σ=ae (must aq) (ae W (ae (must ax) (ae cY σ)))∧aK (jn W 20) σ (.mk 20 cX ByteArray.empty k [x]):=by
 have e1:ml 20=(do let n ← cY;must ax;return n:Ps Int):=by unfold ml;rw[if_pos rfl]
 have e2:jZ W 20=pure []:=by unfold jZ;rw[if_neg (by decide)]
 have w1:ae (ml 20) σ=ae (must ax) (ae cY σ)∧aK (ml 20) σ k:=by
  rw[e1];constructor
  ·rw[aI hk,aI (aJ _ _)];exact cr _ _
  ·exact aC hk (aC (aJ _ _) (bM _ _))
 unfold jn;rw[if_neg (by decide)];unfold nW;rw[e2];constructor
 ·rw[aI w1.2,w1.1,aI hx,aI (bM _ _),cr,aI (aJ _ _)];exact cr _ _
 ·refine aC w1.2 ?_;rw[w1.1];refine aC hx (aC (bM _ _) ?_);exact aC (aJ _ _) (bM _ _)
theorem WJ (h2:op=27∨op=28)(hx:aK W σ x)(hy:aK W (ae (must ax) (ae W σ)) y):ae (jn W op) σ=ae (must aq) (ae W (ae (must ax) (ae W σ)))∧aK (jn W op) σ (lI op [x,y]):=by
 have e1:ml op=pure 0:=by unfold ml;rw[if_neg (by omega)]
 have e2:jZ W op=(do must ax;let y ← W;return [y]:Ps (List Tr)):=by unfold jZ;rw[if_pos h2]
 have w1:ae (jZ W op) (ae W σ)=ae W (ae (must ax) (ae W σ))∧aK (jZ W op) (ae W σ) [y]:=by
  rw[e2];constructor
  ·rw[aI (aJ _ _),aI hy];exact cr _ _
  ·exact aC (aJ _ _) (aC hy (bM _ _))
 unfold jn;rw[if_neg (by omega)];unfold nW;rw[e1];constructor
 ·rw[aI (bM _ _),cr,aI hx,aI w1.2,w1.1,aI (aJ _ _)];exact cr _ _
 ·refine aC (bM _ _) ?_;rw[cr];refine aC hx (aC w1.2 ?_);exact aC (aJ _ _) (bM _ _)
end
section
variable {s:List UInt8} {σ:aW} {x:Tr}
theorem Ff (h:σ.head s=false):ae (cL s) σ=σ∧aK (cL s) σ []:=by
 unfold cL;constructor
 ·rw[aI (bj s σ),h,aG h];exact cr _ _
 ·refine aC (bj s σ) ?_;rw[h,aG h];exact bM _ _
theorem Hk (h:σ.head s=true)(hx:aK cW (.good σ.words.tail) x):ae (cL s) σ=ae cW (.good σ.words.tail)∧aK (cL s) σ [x]:=by
 unfold cL;constructor
 ·rw[aI (bj s σ),h,aP h];simp only[if_true];rw[aI hx];exact cr _ _
 ·refine aC (bj s σ) ?_;rw[h,aP h];exact aC hx (bM _ _)
theorem Ky (hx:aK cW σ x)(h:(ae cW σ).head mK=false):ae gy σ=ae cW σ∧aK gy σ (x,ByteArray.empty):=by
 unfold gy;constructor
 ·rw[aI hx,aI (bj mK _),h,aG h];exact cr _ _
 ·refine aC hx (aC (bj mK _) ?_);rw[h,aG h];exact bM _ _
theorem OG {n:ByteArray}(hx:aK cW σ x)(h:(ae cW σ).head mK=true)(hn:aK aN (.good (ae cW σ).words.tail) n):ae gy σ=ae aN (.good (ae cW σ).words.tail)∧aK gy σ (x,n):=by
 unfold gy;constructor
 ·rw[aI hx,aI (bj mK _),h,aP h];simp only[if_true];rw[aI hn];exact cr _ _
 ·refine aC hx (aC (bj mK _) ?_);rw[h,aP h];exact aC hn (bM _ _)
theorem OH (hx:aK cW σ x):ae fN σ=ae (may mi) (ae cW σ)∧aK fN σ (x,(ae cW σ).head mi):=by
 unfold fN;constructor
 ·rw[aI hx,aI (bj mi _)];exact cr _ _
 ·exact aC hx (aC (bj mi _) (bM _ _))
theorem Sj (h:σ.head cE=true):ae jq σ=.good σ.words.tail∧aK jq σ cX:=by
 unfold jq;constructor
 ·rw[aI (bj cE σ),h,aP h];exact cr _ _
 ·refine aC (bj cE σ) ?_;rw[h,aP h];exact bM _ _
theorem WK {k:Int}(h:σ.head cE=false)(hk:aK cY (ae (may fu) σ) k):ae jq σ=ae cY (ae (may fu) σ)∧aK jq σ ⟨2,if σ.head fu then -k else k,ByteArray.empty⟩:=by
 unfold jq;constructor
 ·rw[aI (bj cE σ),h,aG h];simp only[Bool.false_eq_true,if_false];rw[aI (bj fu σ),aI hk];exact cr _ _
 ·refine aC (bj cE σ) ?_;rw[h,aG h];simp only[Bool.false_eq_true,if_false];exact aC (bj fu σ) (aC hk (bM _ _))
theorem qK {n:ByteArray} {t:List UInt8}(hn:aK aN σ n)(ht:aK (dC [jK,gm,gS]) (ae aN σ) t):ae eX σ=ae (dC [jK,gm,gS]) (ae aN σ)∧aK eX σ (n,typeOf t):=by
 unfold eX;constructor
 ·rw[aI hn,aI ht];exact cr _ _
 ·exact aC hn (aC ht (bM _ _))
theorem WL {n:ByteArray}(hn:aK aN σ n)(hx:aK cW (ae (must rM) (ae aN σ)) x):ae oJ σ=ae cW (ae (must rM) (ae aN σ))∧aK oJ σ (n,x):=by
 unfold oJ;constructor
 ·rw[aI hn,aI (aJ _ _),aI hx];exact cr _ _
 ·exact aC hn (aC (aJ _ _) (aC hx (bM _ _)))
theorem WN {l:List Tr}(hl:aK (dx cW) (ae (must aX) σ) l):ae mL σ=ae (must aq) (ae (dx cW) (ae (must aX) σ))∧aK mL σ l:=by
 unfold mL;constructor
 ·rw[aI (aJ _ _),aI hl,aI (aJ _ _)];exact cr _ _
 ·exact aC (aJ _ _) (aC hl (aC (aJ _ _) (bM _ _)))
end
structure fZ {α:Type} (el:Ps α) (σ:aW) (acc:List α) (bU:aW):Prop where
 step:ae (dx el) σ=ae (uw el acc) bU
 gives:∀z,aK (uw el acc) bU z→aK (dx el) σ z
section
variable {α:Type} {el:Ps α} {σ bU:aW} {acc:List α} {x:α}
theorem fZ.start (h:aK el σ x):fZ el σ [x] (ae el σ):=by
 rw[show(fZ el σ [x] (ae el σ))=(fZ el σ [x] (ae el σ))from rfl];refine⟨?_,fun z hz=>?_⟩
 ·rw[ze];exact aI h
 ·rw[ze];exact aC h hz
theorem fZ.go (hb:cy el)(k:fZ el σ acc bU)(h:bU.head ax=true)(hx:aK el (.good bU.words.tail) x):fZ el σ (acc++ [x]) (ae el (.good bU.words.tail)):=by
 refine⟨?_,fun z hz=>k.gives z ?_⟩
 ·rw[k.step,pO hb,aI (bj ax _),h,aP h];simp only[if_true];exact aI hx
 ·rw[pO hb];refine aC (bj ax _) ?_;rw[h,aP h];exact aC hx hz
theorem fZ.done (hb:cy el)(k:fZ el σ acc bU)(h:bU.head ax=false):ae (dx el) σ=bU∧aK (dx el) σ acc:=by
 refine⟨?_,k.gives _ ?_⟩
 ·rw[k.step,pO hb,aI (bj ax _),h,aG h];exact cr _ _
 ·rw[pO hb];refine aC (bj ax _) ?_;rw[h,aG h];exact bM _ _
end
section
variable {σ:aW}
theorem Kz (h:σ.head eI=true):ae jR σ=.good σ.words.tail∧aK jR σ []:=by
 unfold jR;constructor
 ·rw[aI (bj eI σ),h,aP h];exact cr _ _
 ·refine aC (bj eI σ) ?_;rw[h,aP h];exact bM _ _
theorem KA {l:List (Tr×ByteArray)}(h:σ.head eI=false)(hl:aK (dx gy) σ l):ae jR σ=ae (dx gy) σ∧aK jR σ l:=by
 unfold jR;constructor
 ·rw[aI (bj eI σ),h,aG h];rfl
 ·refine aC (bj eI σ) ?_;rw[h,aG h];exact hl
theorem Hl (h:σ.head jI=false):ae iT σ=σ∧aK iT σ []:=by
 unfold iT;constructor
 ·rw[aI (bj jI σ),h,aG h];exact cr _ _
 ·refine aC (bj jI σ) ?_;rw[h,aG h];exact bM _ _
theorem KB {l:List Tr}(h:σ.head jI=true)(hl:aK (dx cW) (ae (must nx) (.good σ.words.tail)) l):ae iT σ=ae (dx cW) (ae (must nx) (.good σ.words.tail))∧aK iT σ l:=by
 unfold iT;constructor
 ·rw[aI (bj jI σ),h,aP h];simp only[if_true];rw[aI (aJ _ _)]
 ·refine aC (bj jI σ) ?_;rw[h,aP h];exact aC (aJ _ _) hl
theorem Fg (h:σ.head jJ=false):ae fU σ=σ∧aK fU σ []:=by
 unfold fU;constructor
 ·rw[aI (bj jJ σ),h,aG h];exact cr _ _
 ·refine aC (bj jJ σ) ?_;rw[h,aG h];exact bM _ _
theorem Hm {l:List (Tr×Bool)}(h:σ.head jJ=true)(hl:aK (dx fN) (ae (must nx) (.good σ.words.tail)) l):ae fU σ=ae (dx fN) (ae (must nx) (.good σ.words.tail))∧aK fU σ l:=by
 unfold fU;constructor
 ·rw[aI (bj jJ σ),h,aP h];simp only[if_true];rw[aI (aJ _ _)]
 ·refine aC (bj jJ σ) ?_;rw[h,aP h];exact aC (aJ _ _) hl
theorem Hn (h:σ.head kN=false):ae jo σ=σ∧aK jo σ []:=by
 unfold jo;constructor
 ·rw[aI (bj kN σ),h,aG h];exact cr _ _
 ·refine aC (bj kN σ) ?_;rw[h,aG h];exact bM _ _
theorem KC {k:Int}(h:σ.head kN=true)(hk:aK cY (.good σ.words.tail) k):ae jo σ=ae cY (.good σ.words.tail)∧aK jo σ [k]:=by
 unfold jo;constructor
 ·rw[aI (bj kN σ),h,aP h];simp only[if_true];rw[aI hk];exact cr _ _
 ·refine aC (bj kN σ) ?_;rw[h,aP h];exact aC hk (bM _ _)
structure VJ {α:Type} (σ:aW) (k:Ps Qu) (bU:aW):Prop where
 step:ae cH σ=ae k bU
 gives:∀z,aK k bU z→aK cH σ z
theorem VJ.go {α:Type} {σ bU:aW} {p:Ps α} {f:α→Ps Qu} {x:α}(q:VJ (α:=Unit) σ (p >>= f) bU)(h:aK p bU x):VJ (α:=Unit) σ (f x) (ae p bU):=
 ⟨by rw[q.step];exact aI h,fun z hz=>q.gives z (aC h hz)⟩
theorem VJ.start (σ:aW):VJ (α:=Unit) σ cH σ:=⟨rfl,fun _ h=>h⟩
theorem VJ.done {σ bU:aW} {x:Qu}(q:VJ (α:=Unit) σ (pure x) bU):ae cH σ=bU∧aK cH σ x:=
 ⟨by rw[q.step];exact cr _ _,q.gives x (bM _ _)⟩
end
structure uA {α:Type} (P:Ps α) (σ:aW) (k:Ps α) (bU:aW):Prop where
 step:ae P σ=ae k bU
 gives:∀z,aK k bU z→aK P σ z
section
variable {α β:Type} {P k:Ps α} {σ bU:aW} {p:Ps β} {f:β→Ps α} {x:β} {z:α}
theorem uA.start (P:Ps α)(σ:aW):uA P σ P σ:=⟨rfl,fun _ h=>h⟩
theorem uA.go (q:uA P σ (p >>= f) bU)(h:aK p bU x):uA P σ (f x) (ae p bU):=
 ⟨by rw[q.step];exact aI h,fun z hz=>q.gives z (aC h hz)⟩
theorem uA.done (q:uA P σ (pure z) bU):ae P σ=bU∧aK P σ z:=
 ⟨by rw[q.step];exact cr _ _,q.gives z (bM _ _)⟩
theorem uA.as (q:uA P σ k bU) {k':Ps α}(h:k=k'):uA P σ k' bU:=h▸q
theorem uA.bad {n:Nat}(q:uA P σ k (.bad n))(z:α):ae P σ=.bad n∧aK P σ z:=⟨q.step,q.gives z trivial⟩
end
theorem tM (σ:aW)(s:List UInt8)(h:aK (dC [aV,bz,cB]) σ s):uA fV σ (if s=aV then na else if s=bz then xW else uK) (ae (dC [aV,bz,cB]) σ):=
 (uA.start fV σ).go (p:=dC [aV,bz,cB]) (f:=fun s=>if s=aV then na else if s=bz then xW else uK) h
section
variable {α β γ:Type}
theorem dQ (p:Ps α)(g:α→Ps β)(f:β→Ps γ):((p >>= g)>>= f)=(p >>= fun x=>g x >>= f):=by funext l;rw[fw,fw,fw];cases p l <;> rfl
theorem Fh (x:α)(f:α→Ps β):((pure x:Ps α)>>= f)=f x:=rfl
theorem I4 {c:Prop} [Decidable c](p q:Ps α)(f:α→Ps β):((if c then p else q)>>= f)=if c then p >>= f else q >>= f:=by
 by_cases h:c
 ·rw[if_pos h,if_pos h]
 ·rw[if_neg h,if_neg h]
end
theorem tN (s t:List UInt8)(k:Unit→Ps St):(must s >>= fun _=>must t >>= k)=(gF [s,t] >>= k):=by unfold gF;rw[dQ];congr 1;funext _;unfold gF;rw[dQ];congr 1
theorem uA.I5 {α:Type} {P k:Ps α} {σ:aW} {n:Nat}(q:uA P σ k (.bad n))(k':Ps α):uA P σ k' (.bad n):=⟨q.step,fun z _=>q.gives z trivial⟩
def U9 (name:ByteArray)(cp:List (ByteArray×Int))(time:ByteArray)(every:Int)(sp:ByteArray×Int):Ps St:=pure { kind:=1,name,cp,time,every,space:=sp.1,parts:=sp.2 }
def tbS (name:ByteArray)(cp:List (ByteArray×Int))(time:ByteArray)(every:Int)(b:Bool):Ps St:=
 if b then(do
  let s ← aN
  must fM
  let n ← cY
  U9 name cp time every (s,n))else U9 name cp time every (ByteArray.empty,0)
def I6 (name:ByteArray)(cp:List (ByteArray×Int))(time:ByteArray)(every:Int):Ps St:=do
 let b ← may lL
 tbS name cp time every b
theorem I7 (name:ByteArray)(cp:List (ByteArray×Int))(time:ByteArray)(every:Int):(rO >>= U9 name cp time every)=I6 name cp time every:=by
 unfold rO I6 tbS;rw[dQ];congr 1;funext b;cases b
 ·rfl
 ·simp only[if_true];rw[dQ];congr 1;funext s;rw[dQ];congr 1;funext _;rw[dQ];rfl
def tbB (name:ByteArray)(cp:List (ByteArray×Int)):Ps St:=do
 gF [aq,mj]
 let time ← aN
 must cn
 let every ← cY
 I6 name cp time every
def tbA (name:ByteArray):Ps St:=do
 must aX
 let cp ← dx eX
 tbB name cp
theorem Ho:na=(aN >>= tbA):=by unfold na tbA tbB;congr 1;funext name;congr 1;funext _;congr 1;funext cp;rw[← tN];congr 1;funext _;congr 1;funext _;congr 1;funext time;congr 1;funext _;congr 1;funext every;exact I7 name cp time every
def ri (name:ByteArray)(what:Int)(cf:ByteArray)(a b:Int):Ps St:=do
 must cn
 let every ← cY
 return { kind:=3,name,what,cf,a,b,every }
def Sk (name:ByteArray)(s:List UInt8):Ps St:=
 if s=aU then(do
  let cf ← aN
  must dE
  let a ← cY
  must uf
  let b ← cY
  ri name 9 cf a b)else(do
  let cf ← aN
  must dX
  let a ← cY
  ri name (if s=aQ then 10 else 12) cf a 0)
theorem Sm:uK=(aN >>= fun name=>dC [aU,aQ,dh] >>= fun s=>Sk name s):=by
 unfold uK;congr 1;funext name;congr 1;funext s;unfold Sk xX;by_cases h:s=aU
 ·simp only[h,if_true];congr 1;funext cf;rw[dQ];congr 1;funext _;rw[dQ];congr 1;funext a;rw[dQ];congr 1;funext _;rw[dQ];rfl
 ·simp only[h,if_false];congr 1;funext cf;rw[dQ];congr 1;funext _;rw[dQ];rfl
open Go.ChangeShapes Go.WideShapes Go.ChangeAt Go.RowKit
def I8 (nm:ByteArray):Ps Tr:=fun l=>match fT nm with
 | none=> .error (l.length+1)
 | some op=>jn (az 0) op l
theorem WO {nm:ByteArray} {l:bH}(h:fT nm=none):I8 nm l=.error (l.length+1):=by unfold I8;rw[h]
theorem wa {nm:ByteArray} {l:bH} {op:Int}(h:fT nm=some op):I8 nm l=jn (az 0) op l:=by unfold I8;rw[h]
theorem I9 (W:Ps Tr):jn W 20=(do let n ← cY;must ax;let x ← W;must aq;return .mk 20 cX ByteArray.empty n [x]):=by unfold jn nW ml jZ;rw[if_neg (by decide),if_pos rfl,if_neg (by decide)];simp only[dQ,Fh]
theorem Sn {W:Ps Tr} {l:bH}(h:av eI l=true):jn W 22 l=(do must aq;return lI 21 []:Ps Tr) l.tail:=by unfold jn countP;rw[if_pos rfl,dK];simp only[h,if_true]
theorem MA {W:Ps Tr} {op:Int} {l:bH}(I3:op=22→av eI l=false)(VI:op≠20)(Sh:op≠27)(h28:op≠28):jn W op l=(do let x ← W;must aq;return .mk op cX ByteArray.empty 0 [x]:Ps Tr) l:=by
 have ha:nW W op=(do let x ← W;must aq;return .mk op cX ByteArray.empty 0 [x]):=by unfold nW ml jZ;rw[if_neg VI,if_neg (by omega)];simp only[dQ,Fh]
 unfold jn countP;by_cases h:op=22
 ·subst h;rw[if_pos rfl,dK];simp only[I3 rfl,ha];rfl
 ·rw[if_neg h,ha]
theorem WR {W:Ps Tr} {op:Int}(h:op=27∨op=28):jn W op=(do let x ← W;must ax;let y ← W;must aq;return .mk op cX ByteArray.empty 0 [x,y]):=by unfold jn nW ml jZ;rw[if_neg (by omega),if_neg (by omega),if_pos h];simp only[dQ,Fh]
theorem AG {α β:Type}(f:α→β)(k:List UInt8):∀l:List (List UInt8×α),(l.map fun x=>(x.1,f x.2)).lookup k=(l.lookup k).map f
 | []=>rfl
 |(x,v)::l=>by simp only[List.map_cons,List.lookup_cons,AG f k l];cases k==x <;> rfl
def J0:List (List UInt8×Value):=zW.map fun x=>(x.1,.int .u8 x.2)
theorem Sp (nm:ByteArray):(J0.lookup nm.data.toList).getD (.int .u8 0)=.int .u8 ((fT nm).getD 0):=by unfold J0 fT;rw[AG (fun o:Int=>Value.int .u8 o)];cases zW.lookup nm.data.toList <;> rfl
theorem J1 {nm:ByteArray} {op:Int}(h:fT nm=some op):20≤op∧op≤28∧op≠21:=by
 unfold fT at h;have:∀(l:List (List UInt8×Int)),(∀x∈l,20≤x.2∧x.2≤28∧x.2≠21)→∀k o,l.lookup k=some o→20≤o∧o≤28∧o≠21:=by
  intro l;induction l with
  | nil=>intro _ k o h;simp at h
  | cons x l ih=>
    intro hl k o h;obtain⟨x1,x2⟩:=x;rw[List.lookup_cons] at h;cases hk:(k==x1)
    ·rw[hk] at h;exact ih (fun y hy=>hl y (List.mem_cons_of_mem _ hy)) k o h
    ·rw[hk] at h;simp only at h;injection h with h;have:=hl (x1,x2) (by simp);simp only at this;omega
 exact this zW (by decide) _ _ h
structure K2 (W:World) (G qx:Nat) (t:Tr) (y:Ex):Prop where
 blk:au W G 49 (bl y).toArray
 tr:t.at_ W (Bx (qx+1) G W) y
 lt:qx < G
theorem K2.later {W W':World} {G qx:Nat} {t:Tr} {y:Ex}(h:K2 W G qx t y)(hb:Below W.heap.size W W'):K2 W' G qx t y:=⟨h.blk.later hb,Tr.at_.keep (eu hb) _ _ h.tr,h.lt⟩
theorem K2.go {ρ:br} {W W':World} {l:bH} {lg dp:Bool} {G qx:Nat} {t:Tr} {y:Ex}(h:K2 W G qx t y)(d:bJ ρ W W' l lg dp)(hg:ρ.g < qx):K2 W' G qx t y:=
 ⟨d.blk h.blk (by have:=h.lt;omega),Tr.at_.keep (eL d.grown (by omega)) _ _ h.tr,h.lt⟩
theorem br.ij.back {ρ:br} {w:World} {l:bH} {t0:Wd} {lg dp:Bool}(h:ρ.ij w l lg dp)(h0:(aW.good (t0::l)).of ρ.ws):bJ ρ w (w.setCell ⟨ρ.g,1,none⟩ (.int .i64 ((ρ.n:Int) - ((l.length:Int)+1)))) (t0::l) lg dp:=by
 have hB:=au.cg h.blk 1 (.int .i64 ((ρ.n:Int) - ((l.length:Int)+1)));have e:(ρ.uS l lg dp).setIfInBounds 1 (.int .i64 ((ρ.n:Int) - ((l.length:Int)+1)))=ρ.uS (t0::l) lg dp:=by unfold br.uS;simp
 rw[e] at hB;exact⟨h.set hB (cd (aH (Below.refl _ _)) 1 _) h0,cd (aH (Below.refl _ _)) 1 _⟩
theorem fX {w:World} {q:Nat} {y:Ex}(h:au w q 49 (bl y).toArray):
  w.cell? ⟨q,0,none⟩=some (.int .u8 y.op)∧w.cell? ⟨q,1,none⟩=some (.int .u8 y.v.k)∧w.cell? ⟨q,2,none⟩=some (.int .i64 y.v.n)∧w.cell? ⟨q,3,none⟩=some (.string y.v.s)∧w.cell? ⟨q,4,none⟩=some (.string y.name)∧w.cell? ⟨q,5,none⟩=some (.int .i64 y.width)∧w.cell? ⟨q,6,none⟩=some (.slice y.A y.n y.c):=
 ⟨h.cell 0,h.cell 1,h.cell 2,h.cell 3,h.cell 4,h.cell 5,h.cell 6⟩
theorem gb {w:World} {q:Nat} {T:TypeId} {cs:Array Value}(h:au w q T cs):
  w.frozen? ⟨q,0,none⟩=false∧w.frozen? ⟨q,1,none⟩=false∧w.frozen? ⟨q,2,none⟩=false∧w.frozen? ⟨q,3,none⟩=false∧w.frozen? ⟨q,4,none⟩=false∧w.frozen? ⟨q,5,none⟩=false∧w.frozen? ⟨q,6,none⟩=false:=
 ⟨h.frozen 0,h.frozen 1,h.frozen 2,h.frozen 3,h.frozen 4,h.frozen 5,h.frozen 6⟩
def fx (op width:Int):Ex:=⟨op,jm,⟨#[]⟩,width,none,0,0⟩
def Cr (op width:Int)(G:Nat):Ex:=⟨op,jm,⟨#[]⟩,width,some ⟨G,0,none⟩,1,1⟩
theorem Sq (w:World)(S:Nat→Prop)(op width:Int):(Tr.mk op cX ByteArray.empty width []).at_ w S (fx op width):=by unfold Tr.at_;exact⟨rfl,rfl,rfl,rfl,rfl,[],.inl rfl,Tr.all_nil⟩
section
variable {ρ:br} {w wr:World} {lg dp:Bool} {q qx:Nat} {l':bH} {t1:Tr} {y1:Ex} {op width:Int}
theorem nh.afG {n:Int}(A:nh ρ w lg dp q qx wr l' (.mk op cX ByteArray.empty 0 []) (fx op 0))(aF:ρ.g < w.heap.size)(hq:w.heap.size≤q)(Df:q < qx):nh ρ w lg dp q qx (wr.setCell ⟨qx,5,none⟩ (.int .i64 n)) l' (.mk op cX ByteArray.empty n []) (fx op n):=by refine⟨A.did.far aF (by omega) _ _,?_,A.res.far (p:=⟨qx,5,none⟩) (by simp;omega) _,Sq _ _ _ _⟩;have:=A.blk.cg 5 (.int .i64 n);exact this
theorem nh.MB {B:Nat}(A:nh ρ w lg dp q qx wr l' (.mk op cX ByteArray.empty width []) (fx op width))(aF:ρ.g < w.heap.size)(hq:w.heap.size≤q)(Df:q < qx)(hB:qx < B)(hat:t1.at_ wr (eD B wr) y1):
  nh ρ w lg dp q qx ((wr.setCell ⟨qx,6,none⟩ (.slice (some ⟨wr.heap.size,0,none⟩) 1 1)).alloc (.cells (bl y1).toArray 49)) l' (.mk op cX ByteArray.empty width [t1]) (Cr op width wr.heap.size):=by
 have hx:=A.blk.lt;have hs:(wr.setCell ⟨qx,6,none⟩ (.slice (some ⟨wr.heap.size,0,none⟩) 1 1)).heap.size=wr.heap.size:=by simp[World.setCell]
 have hb:=aa (wr.setCell ⟨qx,6,none⟩ (.slice (some ⟨wr.heap.size,0,none⟩) 1 1)) (.cells (bl y1).toArray 49);have hN:=au.new (wr.setCell ⟨qx,6,none⟩ (.slice (some ⟨wr.heap.size,0,none⟩) 1 1)) 49 (bl y1).toArray;rw[hs] at hN;refine⟨(A.did.far aF (by omega) _ _).later hb,?_,(A.res.far (p:=⟨qx,6,none⟩) (by simp;omega) _).alloc _,?_⟩
 ·have:=A.blk.cg 6 (.slice (some ⟨wr.heap.size,0,none⟩) 1 1);exact this.alloc _
 ·unfold Tr.at_;refine⟨rfl,rfl,rfl,rfl,rfl,[y1],xk lJ (by simpa using hN) ⟨by omega,hN.lt,by omega⟩,Tr.tC ?_⟩;exact Tr.at_.keep (eu hb) _ _ (Tr.at_.keep (zV (q:=qx) 6 _) _ _ (Tr.at_.keep (Gx hB (by omega)) _ _ hat))
theorem nh.J2 {B:Nat} {t0:Tr} {y0:Ex}(A:nh ρ w lg dp q qx wr l' t0 y0)(Df:q < qx)(hB:qx < B)(hat:t1.at_ wr (eD B wr) y1):
  K2 ((wr.setCell ⟨qx,6,none⟩ (.slice (some ⟨wr.heap.size,0,none⟩) 1 1)).alloc (.cells (bl y1).toArray 49)) wr.heap.size qx t1 y1:=by
 have hx:=A.blk.lt;have hs:(wr.setCell ⟨qx,6,none⟩ (.slice (some ⟨wr.heap.size,0,none⟩) 1 1)).heap.size=wr.heap.size:=by simp[World.setCell]
 have hb:=aa (wr.setCell ⟨qx,6,none⟩ (.slice (some ⟨wr.heap.size,0,none⟩) 1 1)) (.cells (bl y1).toArray 49);have hN:=au.new (wr.setCell ⟨qx,6,none⟩ (.slice (some ⟨wr.heap.size,0,none⟩) 1 1)) 49 (bl y1).toArray;rw[hs] at hN;exact⟨hN,Tr.at_.keep (eu hb) _ _ (Tr.at_.keep (fun b hb=>(Ew (p:=qx) (B:=qx+1) (q:=wr.heap.size) (by omega) 6 _) b ⟨by have:=hb.1;omega,hb.2,by have:=hb.2;omega⟩) _ _ hat),hx⟩
theorem nh.aaS {W:World} {A:Option Addr} {c G:Nat} {t2:Tr} {y2:Ex}(D:bJ ρ w W l' lg dp)(X:au W qx 49 (bl (Cr op 0 G)).toArray)(R:au W q 49 eK)(aF:ρ.g < w.heap.size)(hq:w.heap.size≤q)(Df:q < qx)
  (oI:RL bl 7 W (eD (qx+1) W) A [y1,y2]) (h1:t1.at_ W (eD (qx+1) W) y1) (h2:t2.at_ W (eD (qx+1) W) y2):nh ρ w lg dp q qx (W.setCell ⟨qx,6,none⟩ (.slice A 2 c)) l' (.mk op cX ByteArray.empty 0 [t1,t2]) ⟨op,jm,⟨#[]⟩,0,A,2,c⟩:=by
 have hk:∀b,eD (qx+1) W b→(∀o,(W.setCell ⟨qx,6,none⟩ (.slice A 2 c)).cell? ⟨b,o,none⟩=W.cell? ⟨b,o,none⟩)∧Bx (q+1) qx (W.setCell ⟨qx,6,none⟩ (.slice A 2 c)) b:=fun b hb=>
  ⟨((iO (Nat.lt_succ_self qx) 6 _) b hb).1,by have:=hb.1;omega,by simpa [World.setCell] using hb.2,by have:=hb.1;omega⟩
 refine⟨D.far aF (by omega) _ _,?_,R.far (p:=⟨qx,6,none⟩) (by simp;omega) _,?_⟩
 ·have:=X.cg 6 (.slice A 2 c);exact this
 ·unfold Tr.at_;exact⟨rfl,rfl,rfl,rfl,rfl,[y1,y2],oI.keep hk,Tr.Ev (Tr.at_.keep hk _ _ h1) (Tr.at_.keep hk _ _ h2)⟩
end
theorem OI {pl n k:Nat}(h:pl=n - k)(hk:k≤n):(n:Int) - k=pl:=by omega
set_option maxHeartbeats 4000000
set_option maxRecDepth 100000
theorem gM (ρ:br)(w:World)(σ:aW)(big:Bool)(h:ρ.at w σ big):
  Calls Tryz.prog 88 #[ρ.ptr] w fun e w'=>∃x:Int,0≤x∧x≤9223372036854775807∧e=.returned (.int .i64 x)∧dV ρ w w' (ae cY σ) big∧aK cY σ x:=by
 obtain⟨t,pl,bd,hpl,hlt,hsm,kU,bQ,hg,mM,mA,hp⟩:=h.iB;have oh:=hp.later (aa w kT);have yN:=hp.later ((aa w (.cells (bT t) 46)).drew);have hb:=(aa w (.cells (bT t) 46)).drew;have HT:=(au.new w 46 (bT t)).drew;have HB:=hid HT;have HF:=hid (h.later hb);have HD:=hid (dV.aL h hb);have uY:=(h.later hb).facts.2.2.2.2.1;have vV:ρ.ptr=.pointer (some ⟨ρ.g,0,none⟩):=rfl;have hwr:=jT ρ _ σ big (h.later hb);have nD:=h.left;have aF:=h.jt;clear h;obtain⟨c0,c1,c2,d0,d1,d2,d3⟩:=hp;obtain⟨y0,y1,y2,z0,z1,z2,z3⟩:=oh;obtain⟨x0,x1,x2,v0,v1,v2,v3⟩:=yN;unfold kT at y0 y1 y2 z0 z1 z2 z3;have J3:=hid hwr;have Dk:=hid hpl;have HG:=hid hg;have pc:=hid bQ;clear hwr hpl hg bQ kU;rw[vV];go_enter Tryz.func88,Tryz.ntmps88;go_wp2_with fail;go_region;clear c0 c1 c2 d0 d1 d2 d3 y0 y1 y2 z0 z1 z2 z3 x0 v0 v1 v2 v3;obtain⟨u0,u1,u2,u3,_⟩:=aT HT;clear HT;unfold bT at u0 u1 u2 u3 hb x1 x2 uY HF J3 HB HD;generalize (w.alloc _).drew=W at*;have hwr:=J3.out;clear J3;rw[vV] at hwr;by_cases qI:bd < 0
 ·obtain⟨l,rfl⟩:∃l,σ=.good l:=by
   match σ,pc.out with
   | .good l,_=>exact⟨l,rfl⟩
   | .bad m,bQ=>simp[aW.gp] at bQ;omega
  obtain⟨r,rfl⟩:=HG.out l rfl;have e1:(pl:Int)+1=(ρ.n:Int) - r.length:=by rw[Dk.out];simp only[aW.left,List.length_cons] at*;omega
  by_cases hk:t.w.k=2
  ·have hd:=br.at.step HF.out (show t.w.k≠0 by omega);have s2:(W.setCell ⟨ρ.g,1,none⟩ (.int .i64 ((ρ.n:Int) - r.length))).cell? ⟨w.heap.size,2,none⟩=some (.int .i64 t.w.n):=(HB.out.far (p:=⟨ρ.g,1,none⟩) (by simp;omega) _).cell 2;go_wp2_with fail;go_ret;refine⟨t.w.n,mM,mA,rfl,?_,Ou _ _⟩;rw[GR,if_pos hk];exact HD.out.trans hd
  ·have g1:((t.w.k:Int) != 2)=true:=by simp;omega
   go_wp2_with (go_at_call 24;refine hwr.mono ?_;rintro e w1 ⟨rfl,d1⟩);go_ret;have e3:ae cY (.good (t.w::r))=.bad (r.length+1):=by rw[GR,if_neg hk]
   refine⟨0,by omega,by omega,rfl,?_,lT e3 _⟩;rw[e3];exact HD.out.trans d1
 ·obtain⟨m,rfl⟩:∃m,σ=.bad m:=by
   match σ,pc.out with
   | .good l,bQ=>simp[aW.gp] at bQ;omega
   | .bad m,_=>exact⟨m,rfl⟩
  go_wp2_with (go_at_call 24;refine hwr.mono ?_;rintro e w1 ⟨rfl,d1⟩);go_ret;refine⟨0,by omega,by omega,rfl,?_,xr _ _ _⟩;exact HD.out.trans d1
theorem dY (ρ:br)(w:World)(σ:aW)(big:Bool)(h:ρ.at w σ big):
  Calls Tryz.prog 50 #[ρ.ptr] w fun e w'=>∃x:ByteArray,e=.returned (.string x)∧dV ρ w w' (ae aN σ) big∧aK aN σ x:=by
 obtain⟨t,pl,bd,hpl,hlt,hsm,kU,bQ,hg,mM,mA,hp⟩:=h.iB;have oh:=hp.later (aa w kT);have yN:=hp.later ((aa w (.cells (bT t) 46)).drew);have hb:=(aa w (.cells (bT t) 46)).drew;have HT:=(au.new w 46 (bT t)).drew;have HB:=hid HT;have HF:=hid (h.later hb);have HD:=hid (dV.aL h hb);have uY:=(h.later hb).facts.2.2.2.2.1;have vV:ρ.ptr=.pointer (some ⟨ρ.g,0,none⟩):=rfl;have hwr:=jT ρ _ σ big (h.later hb);have nD:=h.left;have aF:=h.jt;clear h;obtain⟨c0,c1,c2,d0,d1,d2,d3⟩:=hp;obtain⟨y0,y1,y2,z0,z1,z2,z3⟩:=oh;obtain⟨x0,x1,x2,v0,v1,v2,v3⟩:=yN;unfold kT at y0 y1 y2 z0 z1 z2 z3;have J3:=hid hwr;have Dk:=hid hpl;have HG:=hid hg;have pc:=hid bQ;clear hwr hpl hg bQ kU;rw[vV];go_enter Tryz.func50,Tryz.ntmps50;go_wp2_with fail;go_region;clear c0 c1 c2 d0 d1 d2 d3 y0 y1 y2 z0 z1 z2 z3 x0 v0 v1 v2 v3;obtain⟨u0,u1,u2,u3,_⟩:=aT HT;clear HT;unfold bT at u0 u1 u2 u3 hb x1 x2 uY HF J3 HB HD;generalize (w.alloc _).drew=W at*;have hwr:=J3.out;clear J3;rw[vV] at hwr;have hres:=Cl ⟨t.w.s.toArray⟩ W;have fE:(⟨t.w.s.toArray⟩:ByteArray).data.toList=t.w.s:=by simp
 rw[fE] at hres;by_cases qI:bd < 0
 ·obtain⟨l,rfl⟩:∃l,σ=.good l:=by
   match σ,pc.out with
   | .good l,_=>exact⟨l,rfl⟩
   | .bad m,bQ=>simp[aW.gp] at bQ;omega
  obtain⟨r,rfl⟩:=HG.out l rfl;have e1:(pl:Int)+1=(ρ.n:Int) - r.length:=by rw[Dk.out];simp only[aW.left,List.length_cons] at*;omega
  by_cases hk:t.w.k=1
  ·cases hr:vC t.w.s
   ·have HC:=hid (show t.w.k=1∧vC t.w.s=false from⟨hk,hr⟩);have hd0:=fun(W2:World) (hb2:Below W.heap.size W W2)=>br.at.step (HF.out.later hb2) (show t.w.k≠0 by omega)
    have HD0:=hid hd0;have hs0:=fun(W2:World) (hb2:Below W.heap.size W W2)=>(HB.out.later hb2).cell 1
    have HS0:=hid hs0;have HX:=hid (fun(W2:World) (hb2:Below W.heap.size W W2)=>(HB.out.later hb2).far (p:=⟨ρ.g,1,none⟩) (by simp;omega) (.int .i64 ((ρ.n:Int) - r.length)));rw[hr] at hres;have fQ:=hid hres;clear hd0 hs0 hr hres;go_wp2_with (go_at_call 90;go_loud (refine fQ.out.mono ?_;rintro e w1 ⟨rfl,b1⟩;obtain⟨q0,q1,q2,q3,p1,p2,p3⟩:=(HF.out.later b1).facts;have s1:=(HX.out w1 b1).cell 1;have e2:(ρ.n:Int) - (aW.good (t.w::r)).left=pl:=(OI Dk.out nD.2);rw[e2] at q1));go_ret;refine⟨⟨t.w.s.toArray⟩,rfl,?_,Kj _ _⟩;rw[tI,if_pos HC.out];exact(HD.out.later b1).trans (HD0.out w1 b1)
   ·have e3:ae aN (.good (t.w::r))=.bad (r.length+1):=by rw[tI,if_neg (by rw[hr];simp)]
    have rz:=hid e3;rw[hr] at hres;have fQ:=hid hres;clear hr e3 hres;go_wp2_with (first
     |(go_at_call 90;refine fQ.out.mono ?_;rintro e w1 ⟨rfl,b1⟩)
     |(go_at_call 24;refine(jT ρ _ _ big (HF.out.later b1)).mono ?_;rintro e w2 ⟨rfl,d1⟩))
    go_ret;refine⟨ByteArray.empty,rfl,?_,lT rz.out _⟩;rw[rz.out];exact(HD.out.later b1).trans d1
  ·have e3:ae aN (.good (t.w::r))=.bad (r.length+1):=by rw[tI,if_neg (by simp[hk])]
   have rz:=hid e3;have g1:((t.w.k:Int) != 1)=true:=by simp;omega
   clear e3;go_wp2_with (go_at_call 24;refine hwr.mono ?_;rintro e w1 ⟨rfl,d1⟩);go_ret;refine⟨ByteArray.empty,rfl,?_,lT rz.out _⟩;rw[rz.out];exact HD.out.trans d1
 ·obtain⟨m,rfl⟩:∃m,σ=.bad m:=by
   match σ,pc.out with
   | .good l,bQ=>simp[aW.gp] at bQ;omega
   | .bad m,_=>exact⟨m,rfl⟩
  go_wp2_with (go_at_call 24;refine hwr.mono ?_;rintro e w1 ⟨rfl,d1⟩);go_ret;exact⟨ByteArray.empty,rfl,HD.out.trans d1,xr _ _ _⟩
def uZ (lv:Nat)(t:Wd):Int:=(gT (opsL lv) [t]).getD 0
theorem OJ (ks:List (List UInt8×Int))(t:Wd)(r:bH):gT ks (t::r)=gT ks [t]:=by
 induction ks with
 | nil=>rfl
 | cons a ks ih=>obtain⟨s,o⟩:=a;simp only[gT,av,ih];rfl
theorem J4 {lv:Nat} {t:Wd}(h1:t.k≠1)(h4:t.k≠4):uZ lv t=0:=by
 unfold uZ;have:∀ks,gT ks [t]=none:=by
  intro ks;induction ks with
  | nil=>rfl
  | cons a ks ih=>obtain⟨s,o⟩:=a;simp[gT,av,kO,h1,h4,ih]
 rw[this];rfl
theorem MC {lv:Nat} {t:Wd}(h:t.k=1∨t.k=4):uZ lv t=((opsL lv).lookup t.s).getD 0:=by
 unfold uZ;congr 1;have hk:(t.k==1 || t.k==4)=true:=by rcases h with h | h <;> simp[h]
 generalize opsL lv=ks;induction ks with
 | nil=>rfl
 | cons a ks ih=>obtain⟨s,o⟩:=a;simp only[gT,av,kO,hk,Bool.true_and,List.lookup];rw[ih];cases e:(t.s==s)<;> simp
def tO (lv:Nat)(t:Wd)(w:World)(e:Ending)(w':World):Prop:=e=.returned (.int .u8 (uZ lv t))∧Below w.heap.size w w'
structure aiy (t:Wd):Prop where
 sign:t.k=1∨t.k=4
theorem pd (lv:Nat)(hlv:lv=0∨lv=1∨lv=4∨lv=5)(t:Tok)(w:World)(hk:t.w.k=1∨t.w.k=4):
  Calls Tryz.prog 108 #[.int .i64 lv,.agg (bT t)] w (tO lv t.w w):=by
 have HR:=hid (MC (lv:=lv) hk);have hb:=aa w (.cells (bT t) 46);obtain⟨u0,u1,u2,u3,_⟩:=aT (au.new w 46 (bT t));unfold tO;unfold bT at*;rcases hk with hk | hk
 ·have n1:((t.w.k:Int) != 1)=false:=by simp;omega
  clear hk hb;rcases hlv with rfl | rfl | rfl | rfl;all_goals
   generalize uZ _ t.w=R at*;go_enter Tryz.func108,Tryz.ntmps108;go_wp2_with fail;all_goals
    go_ret;rw[HR.out];refine⟨?_,aa w _⟩;refine lH ?_;simp[opsL,List.lookup,Wm,LY,Ez,fu,eI,EA,xo, *]
 ·have n1:((t.w.k:Int) != 1)=true:=by simp;omega
  have n2:((t.w.k:Int) != 4)=false:=by simp;omega
  clear hk hb;rcases hlv with rfl | rfl | rfl | rfl;all_goals
   generalize uZ _ t.w=R at*;go_enter Tryz.func108,Tryz.ntmps108;go_wp2_with fail;all_goals
    go_ret;rw[HR.out];refine⟨?_,aa w _⟩;refine lH ?_;simp[opsL,List.lookup,Wm,LY,Ez,fu,eI,EA,xo, *]
def OL:List (List UInt8):=[[61],[60,62],[60],[60,61],[62],[62,61]]
theorem Sr {x:List UInt8} {i:Nat}(hi:i < 6):∃y,OL[i]?=some y∧((opsL 3).drop i).lookup x=if x==y then some ((10:Int)+i)else((opsL 3).drop (i+1)).lookup x:=by rcases(by omega:i=0∨i=1∨i=2∨i=3∨i=4∨i=5)with rfl | rfl | rfl | rfl | rfl | rfl <;> refine⟨_,rfl,?_⟩<;> simp[opsL,List.lookup,rM,aal,aam,aan,aao,aap] <;> split <;> simp_all
theorem KD (t:Tok)(w:World)(hk:t.w.k=1∨t.w.k=4):
  Calls Tryz.prog 108 #[.int .i64 (3:Nat),.agg (bT t)] w (tO 3 t.w w):=by
 have HR:=hid (MC (lv:=3) hk);obtain⟨u0,u1,u2,u3,_⟩:=aT (au.new w 46 (bT t));have hn:(((t.w.k:Int) != 1)=false)∨((((t.w.k:Int) != 1)=true)∧(((t.w.k:Int) != 4)=false)):=by
  rcases hk with hk | hk
  ·exact .inl (by simp;omega)
  ·exact .inr ⟨by simp;omega,by simp;omega⟩
 clear hk;have b1:=ah.then (aa w (.cells (bT t) 46)) (aa _ (.cells (aj OL) 9))
 have B1:=(au.new w 46 (bT t)).alloc (.cells (aj OL) 9);have B2:=au.new (w.alloc (.cells (bT t) 46)) 9 (aj OL);rw[World.size_alloc] at B2;have ry:=hid B1;have zh:=hid B2;have hb:=hid b1;clear B1 B2 b1;unfold tO;have aaT:aj OL= #[.string ⟨#[61]⟩,.string ⟨#[60,62]⟩,.string ⟨#[60]⟩,.string ⟨#[60,61]⟩,.string ⟨#[62]⟩,.string ⟨#[62,61]⟩]:=rfl;rw[aaT] at ry zh hb;unfold bT at*;generalize uZ 3 t.w=R at*;rcases hn with n1 |⟨n1,n2⟩;all_goals
  go_enter Tryz.func108,Tryz.ntmps108;go_wp2_with fail;clear u0 u1 u2 u3;generalize (w.alloc _).alloc _=W at*;go_loopw [6] (fun u wr=>∃i:Nat,i≤6∧u=.int .i64 i∧Below W.heap.size W wr∧(opsL 3).lookup t.w.s=((opsL 3).drop i).lookup t.w.s) (fun u _=>6 - (intOf u).toNat);case atStart=>exact⟨0,Nat.zero_le _,rfl,Below.refl _ _,rfl⟩
  case round=>
   obtain⟨i,hi,rfl,iY,hlk⟩:=hrel;have zq:=hid hlk;have gI:=hid iY;clear hlk iY;by_cases hlt:i < 6
   ·obtain⟨y,hy,hstep⟩:=Sr (x:=t.w.s) hlt;have HST:=hid hstep;have c2:=(zh.out.later gI.out).cell i;rw[← aaT,show(aj OL)[i]?=some (.string ⟨y.toArray⟩) by simp[aj,hy,strOf]] at c2;have c1:=(ry.out.later gI.out).cell 1;have GD:i < 6:=hlt;clear hy hstep;cases he:(t.w.s==y)
    ·have HE:=hid he;have t1:(y==t.w.s)=false:=by rw[beq_eq_false_iff_ne] at he ⊢;exact fun e=>he e.symm
     clear he;go_wp2_with fail;go_region;go_wp2_with fail;go_roundw;case rel=>refine⟨i+1,by omega,by go_num,gI.out.drew,?_⟩;rw[zq.out,HST.out,HE.out];rfl
     case measure=>simp[intOf];omega
    ·have HE:=hid he;have t1:(y==t.w.s)=true:=by rw[beq_iff_eq] at he ⊢;exact he.symm
     clear he;go_wp2_with fail;go_region;go_wp2_with fail;go_ret;refine⟨?_,ah.then hb.out gI.out.drew⟩;rw[HR.out,zq.out,HST.out,HE.out];refine lH ?_;rcases(by omega:i=0∨i=1∨i=2∨i=3∨i=4∨i=5)with rfl | rfl | rfl | rfl | rfl | rfl <;> rfl
   ·obtain rfl:i=6:=by omega
    go_wp2_with fail;go_ret;rw[HR.out,zq.out];exact⟨rfl,ah.then hb.out gI.out⟩
theorem KE (lv:Nat)(hlv:lv=0∨lv=1∨lv=3∨lv=4∨lv=5)(t:Tok)(w:World):
  Calls Tryz.prog 108 #[.int .i64 lv,.agg (bT t)] w (tO lv t.w w):=by
 by_cases hk:t.w.k=1∨t.w.k=4
 ·rcases hlv with rfl | rfl | rfl | rfl | rfl
  ·exact pd 0 (by simp) t w hk
  ·exact pd 1 (by simp) t w hk
  ·exact KD t w hk
  ·exact pd 4 (by simp) t w hk
  ·exact pd 5 (by simp) t w hk
 ·have hb:=aa w (.cells (bT t) 46);obtain⟨u0,u1,u2,u3,_⟩:=aT (au.new w 46 (bT t));unfold tO;unfold bT at*;have HR:=hid (J4 (lv:=lv) (fun e=>hk (.inl e)) (fun e=>hk (.inr e)));generalize uZ lv t.w=R at*;have n1:((t.w.k:Int) != 1)=true:=by simp;omega
  have n2:((t.w.k:Int) != 4)=true:=by simp;omega
  go_enter Tryz.func108,Tryz.ntmps108;go_wp2_with fail;go_ret;rw[HR.out];exact⟨rfl,hb⟩
end Go.Proofs.YtcneefmaghoejaaGreatDoor
