/- Parts of the proof. -/
import Derived.Test.YtcneefmaghoejaaGreatDoorC4
namespace Go.Proofs.YtcneefmaghoejaaGreatDoor
open Go.Lib (hid)
set_option linter.unusedSimpArgs false
set_option linter.unusedVariables false
theorem cO (s:List UInt8):cy (cL s):=by unfold cL;repeat (first | exact bo _ | exact cj _ | exact aM _ | exact bB | exact cC | exact di _ | exact cA | apply cU | apply cZ | refine ba ?_ fun _=>?_)
theorem cJ:cy gy:=by unfold gy;repeat (first | exact bo _ | exact cj _ | exact aM _ | exact bB | exact cC | exact di _ | exact cA | exact cO _ | apply cU | apply cZ | refine ba ?_ fun _=>?_)
theorem cu:cy fN:=by unfold fN;repeat (first | exact bo _ | exact cj _ | exact aM _ | exact bB | exact cC | exact di _ | exact cA | exact cO _ | exact cJ | apply cU | apply cZ | refine ba ?_ fun _=>?_)
theorem dt:cy jR:=by unfold jR;repeat (first | exact bo _ | exact cj _ | exact aM _ | exact bB | exact cC | exact di _ | exact cA | exact cO _ | exact cJ | exact cu | apply cU | apply cZ | refine ba ?_ fun _=>?_)
theorem dz:cy iT:=by unfold iT;repeat (first | exact bo _ | exact cj _ | exact aM _ | exact bB | exact cC | exact di _ | exact cA | exact cO _ | exact cJ | exact cu | exact dt | apply cU | apply cZ | refine ba ?_ fun _=>?_)
theorem dv:cy fU:=by unfold fU;repeat (first | exact bo _ | exact cj _ | exact aM _ | exact bB | exact cC | exact di _ | exact cA | exact cO _ | exact cJ | exact cu | exact dt | exact dz | apply cU | apply cZ | refine ba ?_ fun _=>?_)
theorem dF:cy jo:=by unfold jo;repeat (first | exact bo _ | exact cj _ | exact aM _ | exact bB | exact cC | exact di _ | exact cA | exact cO _ | exact cJ | exact cu | exact dt | exact dz | exact dv | apply cU | apply cZ | refine ba ?_ fun _=>?_)
theorem ed:cy cH:=by unfold cH;repeat (first | exact bo _ | exact cj _ | exact aM _ | exact bB | exact cC | exact di _ | exact cA | exact cO _ | exact cJ | exact cu | exact dt | exact dz | exact dv | exact dF | apply cU | apply cZ | refine ba ?_ fun _=>?_)
theorem cR:cy eX:=by unfold eX;repeat (first | exact bo _ | exact cj _ | exact aM _ | exact bB | exact cC | exact di _ | exact cA | exact cO _ | exact cJ | exact cu | exact dt | exact dz | exact dv | exact dF | exact ed | apply cU | apply cZ | refine ba ?_ fun _=>?_)
theorem eM:cy rO:=by unfold rO;repeat (first | exact bo _ | exact cj _ | exact aM _ | exact bB | exact cC | exact di _ | exact cA | exact cO _ | exact cJ | exact cu | exact dt | exact dz | exact dv | exact dF | exact ed | exact cR | apply cU | apply cZ | refine ba ?_ fun _=>?_)
theorem fh:cy na:=by unfold na;repeat (first | exact bo _ | exact cj _ | exact aM _ | exact bB | exact cC | exact di _ | exact cA | exact cO _ | exact cJ | exact cu | exact dt | exact dz | exact dv | exact dF | exact ed | exact cR | exact eM | apply cU | apply cZ | refine ba ?_ fun _=>?_)
theorem gU:cy xW:=by unfold xW;repeat (first | exact bo _ | exact cj _ | exact aM _ | exact bB | exact cC | exact di _ | exact cA | exact cO _ | exact cJ | exact cu | exact dt | exact dz | exact dv | exact dF | exact ed | exact cR | exact eM | exact fh | apply cU | apply cZ | refine ba ?_ fun _=>?_)
theorem iU (s:List UInt8):cy (xX s):=by unfold xX;repeat (first | exact bo _ | exact cj _ | exact aM _ | exact bB | exact cC | exact di _ | exact cA | apply cU | apply cZ | refine ba ?_ fun _=>?_)
theorem jB:cy uK:=by unfold uK;repeat (first | exact bo _ | exact cj _ | exact aM _ | exact bB | exact cC | exact di _ | exact cA | exact cO _ | exact cJ | exact cu | exact dt | exact dz | exact dv | exact dF | exact ed | exact cR | exact eM | exact fh | exact gU | exact iU _ | apply cU | apply cZ | refine ba ?_ fun _=>?_)
theorem fH:cy fV:=by unfold fV;repeat (first | exact bo _ | exact cj _ | exact aM _ | exact bB | exact cC | exact di _ | exact cA | exact cO _ | exact cJ | exact cu | exact dt | exact dz | exact dv | exact dF | exact ed | exact cR | exact eM | exact fh | exact gU | exact iU _ | exact jB | apply cU | apply cZ | refine ba ?_ fun _=>?_)
theorem jr:cy vH:=by unfold vH;repeat (first | exact bo _ | exact cj _ | exact aM _ | exact bB | exact cC | exact di _ | exact cA | exact cO _ | exact cJ | exact cu | exact dt | exact dz | exact dv | exact dF | exact ed | exact cR | exact eM | exact fh | exact gU | exact iU _ | exact jB | exact fH | apply cU | apply cZ | refine ba ?_ fun _=>?_)
theorem iV:cy mL:=by unfold mL;repeat (first | exact bo _ | exact cj _ | exact aM _ | exact bB | exact cC | exact di _ | exact cA | exact cO _ | exact cJ | exact cu | exact dt | exact dz | exact dv | exact dF | exact ed | exact cR | exact eM | exact fh | exact gU | exact iU _ | exact jB | exact fH | exact jr | apply cU | apply cZ | refine ba ?_ fun _=>?_)
theorem js:cy ny:=by unfold ny;repeat (first | exact bo _ | exact cj _ | exact aM _ | exact bB | exact cC | exact di _ | exact cA | exact cO _ | exact cJ | exact cu | exact dt | exact dz | exact dv | exact dF | exact ed | exact cR | exact eM | exact fh | exact gU | exact iU _ | exact jB | exact fH | exact jr | exact iV | apply cU | apply cZ | refine ba ?_ fun _=>?_)
theorem kg:cy oJ:=by unfold oJ;repeat (first | exact bo _ | exact cj _ | exact aM _ | exact bB | exact cC | exact di _ | exact cA | exact cO _ | exact cJ | exact cu | exact dt | exact dz | exact dv | exact dF | exact ed | exact cR | exact eM | exact fh | exact gU | exact iU _ | exact jB | exact fH | exact jr | exact iV | exact js | apply cU | apply cZ | refine ba ?_ fun _=>?_)
theorem lO:cy nz:=by unfold nz;repeat (first | exact bo _ | exact cj _ | exact aM _ | exact bB | exact cC | exact di _ | exact cA | exact cO _ | exact cJ | exact cu | exact dt | exact dz | exact dv | exact dF | exact ed | exact cR | exact eM | exact fh | exact gU | exact iU _ | exact jB | exact fH | exact jr | exact iV | exact js | exact kg | apply cU | apply cZ | refine ba ?_ fun _=>?_)
theorem nB:cy nA:=by unfold nA;repeat (first | exact bo _ | exact cj _ | exact aM _ | exact bB | exact cC | exact di _ | exact cA | exact cO _ | exact cJ | exact cu | exact dt | exact dz | exact dv | exact dF | exact ed | exact cR | exact eM | exact fh | exact gU | exact iU _ | exact jB | exact fH | exact jr | exact iV | exact js | exact kg | exact lO | apply cU | apply cZ | refine ba ?_ fun _=>?_)
theorem qF:cy qD:=by unfold qD;repeat (first | exact bo _ | exact cj _ | exact aM _ | exact bB | exact cC | exact di _ | exact cA | exact cO _ | exact cJ | exact cu | exact dt | exact dz | exact dv | exact dF | exact ed | exact cR | exact eM | exact fh | exact gU | exact iU _ | exact jB | exact fH | exact jr | exact iV | exact js | exact kg | exact lO | exact nB | apply cU | apply cZ | refine ba ?_ fun _=>?_)
theorem xq:cy jq:=by unfold jq;repeat (first | exact bo _ | exact cj _ | exact aM _ | exact bB | exact cC | exact di _ | exact cA | exact cO _ | exact cJ | exact cu | exact dt | exact dz | exact dv | exact dF | exact ed | exact cR | exact eM | exact fh | exact gU | exact iU _ | exact jB | exact fH | exact jr | exact iV | exact js | exact kg | exact lO | exact nB | exact qF | apply cU | apply cZ | refine ba ?_ fun _=>?_)
theorem vJ (k:Int):cy (nY k):=by unfold nY;repeat (first | exact bo _ | exact cj _ | exact aM _ | exact bB | exact cC | exact di _ | exact cA | exact xq | apply cU | apply cZ | refine ba ?_ fun _=>?_)
theorem JT:cy uv:=by unfold uv;repeat (first | exact bo _ | exact cj _ | exact aM _ | exact bB | exact cC | exact di _ | exact cA | exact cO _ | exact cJ | exact cu | exact dt | exact dz | exact dv | exact dF | exact ed | exact cR | exact eM | exact fh | exact gU | exact iU _ | exact jB | exact fH | exact jr | exact iV | exact js | exact kg | exact lO | exact nB | exact qF | exact xq | exact vJ _ | apply cU | apply cZ | refine ba ?_ fun _=>?_)
theorem mm {α:Type} {p:Ps α}(hp:cy p) {t:Wd} {r:bH}(h:t.k≠0):match p r with
 | .ok (_,r')=>r' <:+ t::r∧(ik (t::r)→ik r')
 | .error n=>n≤(t::r).length∧(ik (t::r)→0 < n):=by
 cases e:p r with
 | error n=>obtain⟨k1,k2⟩:=hp.err e;exact⟨by simp;omega,fun hl=>k2 (hl.tail h)⟩
 | ok y=>obtain⟨z,r2⟩:=y;obtain⟨k1,k2⟩:=hp.ok e;exact⟨k1.trans (List.suffix_cons _ _),fun hl=>k2 (hl.tail h)⟩
theorem zY:cy aB:=by
 intro l
 match l with
 | []=>exact⟨Nat.le_refl _,fun h=>h.pos⟩
 | t::r=>
   unfold aB;by_cases h:t.k=1
   ·have hk:t.k≠0:=by omega
    simp only[h,not_true_eq_false,if_false];by_cases h1:t.s=bt
    ·simp only[h1,if_true];exact qF (t::r)
    simp only[h1,if_false];by_cases iW:t.s=ea
    ·simp only[iW,if_true];exact mm fH hk
    simp only[iW,if_false];by_cases nd:t.s=dh
    ·simp only[nd,if_true];exact mm jr hk
    simp only[nd,if_false];by_cases jS:t.s=ew
    ·simp only[jS,if_true];exact mm js hk
    simp only[jS,if_false];by_cases kE:t.s=ey
    ·simp only[kE,if_true];exact mm lO hk
    simp only[kE,if_false];by_cases lQ:t.s=eb
    ·simp only[lQ,if_true];exact mm nB hk
    simp only[lQ,if_false];by_cases rP:t.s=iu
    ·simp only[rP,if_true];exact mm JT hk
    simp only[rP,if_false];exact⟨Nat.le_refl _,fun h=>h.pos⟩
   ·simp only[h,not_false_eq_true,if_true];exact⟨Nat.le_refl _,fun h=>h.pos⟩
def gz {α:Type}(m:Nat)(p q:Ps α):Prop:=∀l:bH,l.length≤m→p l=q l
theorem gz.less {α:Type} {m k:Nat} {p q:Ps α}(h:gz m p q)(hk:k≤m):gz k p q:=fun l hl=>h l (by omega)
theorem eY {α:Type}(m:Nat)(p:Ps α):gz m p p:=fun _ _=>rfl
theorem eZ {α β:Type} {m:Nat} {p q:Ps α} {f g:α→Ps β}(h:gz m p q)(hp:cy p)(k:∀x,gz m (f x) (g x)):gz m (p >>= f) (q >>= g):=by
 intro l hl;rw[fw,fw,← h l hl];cases e:p l with
 | error n=>rfl
 | ok y=>obtain⟨x,r⟩:=y;exact k x r (by have:=hp.len e;omega)
theorem tE {α:Type} {m:Nat} {c:Prop} [Decidable c] {p q p' q':Ps α}(h:gz m p p')(k:gz m q q'):gz m (if c then p else q) (if c then p' else q'):=by
 split
 ·exact h
 ·exact k
theorem head_tail {s:List UInt8} {l:bH}(h:av s l=true):l.tail.length+1=l.length:=by obtain⟨t,r,rfl,_⟩:=fP h;rfl
theorem xY {m:Nat} {p q:Ps Tr}(h:gz m p q)(hp:cy p)(lv:Nat):∀f x,gz m (lM p lv f x) (lM q lv f x)
 | 0,x=>eY _ _
 | f+1,x=>by
   intro l hl;simp only[lM];cases e:gT (opsL lv) l with
   | none=>rfl
   | some o=>obtain⟨s,_,hs⟩:=kf e;have:=head_tail hs;exact eZ h hp (fun y=>xY h hp lv f _) l.tail (by omega)
theorem jl {m:Nat} {p q:Ps Tr}(h:gz m p q)(hp:cy p)(lv:Nat):gz m (lY p lv) (lY q lv):=eZ h hp fun x l hl=>xY h hp lv _ _ l hl
theorem CT {m:Nat} {p q:Ps Tr}(h:gz m p q)(hp:cy p):gz m (vG p) (vG q):=by
 refine eZ h hp fun x=>eZ (eY _ _) (cj _) fun b=>tE (eY _ _) ?_
 intro l hl;unfold rN;cases e:gT (opsL 3) l with
 | none=>rfl
 | some o=>obtain⟨s,_,hs⟩:=kf e;have:=head_tail hs;exact eZ h hp (fun y=>eY _ _) l.tail (by omega)
theorem JU {α:Type} {m:Nat}(s:List UInt8) {p q p' q':Ps α}(h:gz m p p')(k:gz (m+1) q q'):gz (m+1) (fun l=>if av s l then p l.tail else q l) (fun l=>if av s l then p' l.tail else q' l):=by
 intro l hl;by_cases e:av s l=true
 ·have:=head_tail e;simp only[e,if_true];exact h l.tail (by omega)
 ·simp only[e];exact k l hl
theorem dK {α:Type}(s:List UInt8)(f:Bool→Ps α):(may s >>= f)=fun l=>if av s l then f true l.tail else f false l:=by
 funext l;rw[fw];unfold may;by_cases e:av s l=true
 ·simp only[e,if_true]
 ·simp only[e];rfl
theorem vK {m:Nat} {p q p' q':Ps Tr}(s:List UInt8)(op:Int)(h:gz m p p')(hp:cy p)(k:gz (m+1) q q'):gz (m+1) (EB s op p q) (EB s op p' q'):=by unfold EB;rw[dK,dK];exact JU s (eZ h hp fun x=>eY _ _) k
theorem zZ {m:Nat} {p q:Ps Tr}(h:gz m p q)(hp:cy p)(op:Int):gz m (nW p op) (nW q op):=
 eZ (eY _ _) (cU (ba cC fun n=>ba (aM _) fun _=>bo _) (bo _)) fun _=>eZ h hp fun x=>
  eZ (tE (eZ (eY _ _) (aM _) fun _=>eZ h hp fun y=>eY _ _) (eY _ _)) (cU (ba (aM _) fun _=>ba hp fun y=>bo _) (bo _)) fun _=>eY _ _
theorem Og {m:Nat} {p q:Ps Tr}(h:gz m p q)(hp:cy p)(op:Int):gz m (jn p op) (jn q op):=
 tE (eZ (eY _ _) (cj _) fun b=>tE (eY _ _) (zZ h hp _)) (zZ h hp op)
theorem Gz {m:Nat} {p q:Ps Tr}(h:gz m p q)(hp:cy p):gz (m+1) (nX p) (nX q):=by
 refine eZ (eY _ _) bB fun n=>?_
 intro l hl;by_cases e:av aX l=true
 ·have:=head_tail e;simp only[e,if_true];cases fT n with
  | none=>rfl
  | some op=>exact Og h hp op l.tail (by omega)
 ·simp only[e];rfl
theorem Aa {m:Nat} {p q:Ps Tr}(h:gz m p q)(hp:cy p):gz (m+1) (fB p) (fB q):=by
 intro l hl
 match l with
 | []=>rfl
 | t::r=>have e1:(do let x ← p;must aq;return x:Ps Tr) r=(do let x ← q;must aq;return x:Ps Tr) r:=eZ h hp (fun x=>eY _ _) r (by simp at hl;omega);have e2:=Gz h hp (t::r) hl;simp only[fB];rw[e1,e2]
theorem kh:∀(f g lv:Nat) (m:Nat),lv≤7→8*m+8 - lv≤f→8*m+8 - lv≤g→gz m (pE f lv) (pE g lv)
 | 0,_,_,_,_,h,_=>by omega
 | _,0,_,_,_,_,h=>by omega
 | f+1,g+1,0,m,_,hf,hg=>jl (kh f g 1 m (by omega) (by omega) (by omega)) (ek _ _) 0
 | f+1,g+1,1,m,_,hf,hg=>jl (kh f g 2 m (by omega) (by omega) (by omega)) (ek _ _) 1
 | f+1,g+1,2,0,_,hf,hg=>fun l hl=>by
   match l,hl with
   | [],_=>exact kh f g 3 0 (by omega) (by omega) (by omega) [] (Nat.le_refl _)
 | f+1,g+1,2,m+1,_,hf,hg=>vK _ _ (kh f g 2 m (by omega) (by omega) (by omega)) (ek _ _) (kh f g 3 (m+1) (by omega) (by omega) (by omega))
 | f+1,g+1,3,m,_,hf,hg=>CT (kh f g 4 m (by omega) (by omega) (by omega)) (ek _ _)
 | f+1,g+1,4,m,_,hf,hg=>jl (kh f g 5 m (by omega) (by omega) (by omega)) (ek _ _) 4
 | f+1,g+1,5,m,_,hf,hg=>jl (kh f g 6 m (by omega) (by omega) (by omega)) (ek _ _) 5
 | f+1,g+1,6,0,_,hf,hg=>fun l hl=>by
   match l,hl with
   | [],_=>exact kh f g 7 0 (by omega) (by omega) (by omega) [] (Nat.le_refl _)
 | f+1,g+1,6,m+1,_,hf,hg=>vK _ _ (kh f g 6 m (by omega) (by omega) (by omega)) (ek _ _) (kh f g 7 (m+1) (by omega) (by omega) (by omega))
 | f+1,g+1,7,0,_,hf,hg=>fun l hl=>by
   match l,hl with
   | [],_=>rfl
 | f+1,g+1,7,m+1,_,hf,hg=>Aa (kh f g 0 m (by omega) (by omega) (by omega)) (ek _ _)
 | _+1,_+1,_+8,_,h,_,_=>by omega
theorem Ro {f lv:Nat} {l:bH}(hlv:lv≤7)(h:8*l.length+8 - lv≤f):pE f lv l=az lv l:=kh f _ lv l.length hlv h (Nat.le_refl _) l (Nat.le_refl _)
theorem gB {f lv m:Nat}(hlv:lv≤7)(h:8*m+8 - lv≤f):gz m (pE f lv) (az lv):=fun l hl=>Ro hlv (by omega)
theorem Mc:az 0=lY (az 1) 0:=funext fun l=>jl (gB (f:=8*l.length+7) (m:=l.length) (by omega) (by omega)) (ek _ _) 0 l (Nat.le_refl _)
theorem Md:az 1=lY (az 2) 1:=funext fun l=>jl (gB (f:=8*l.length+6) (m:=l.length) (by omega) (by omega)) (ek _ _) 1 l (Nat.le_refl _)
theorem Me:az 2=EB kD 4 (az 2) (az 3):=funext fun l=>by
 match l with
 | []=>rfl
 | t::r=>exact vK kD 4 (gB (f:=8*(t::r).length+5) (m:=r.length) (by omega) (by simp only[List.length_cons];omega)) (ek _ _) (gB (m:=r.length+1) (by omega) (by simp only[List.length_cons];omega)) (t::r) (by simp)
theorem Mf:az 3=vG (az 4):=funext fun l=>CT (gB (f:=8*l.length+4) (m:=l.length) (by omega) (by omega)) (ek _ _) l (Nat.le_refl _)
theorem Mg:az 4=lY (az 5) 4:=funext fun l=>jl (gB (f:=8*l.length+3) (m:=l.length) (by omega) (by omega)) (ek _ _) 4 l (Nat.le_refl _)
theorem Mh:az 5=lY (az 6) 5:=funext fun l=>jl (gB (f:=8*l.length+2) (m:=l.length) (by omega) (by omega)) (ek _ _) 5 l (Nat.le_refl _)
theorem Mi:az 6=EB fu 3 (az 6) (az 7):=funext fun l=>by
 match l with
 | []=>rfl
 | t::r=>exact vK fu 3 (gB (f:=8*(t::r).length+1) (m:=r.length) (by omega) (by simp only[List.length_cons];omega)) (ek _ _) (gB (m:=r.length+1) (by omega) (by simp only[List.length_cons];omega)) (t::r) (by simp)
theorem oZ:az 7=fB (az 0):=funext fun l=>by
 match l with
 | []=>rfl
 | t::r=>exact Aa (gB (f:=8*(t::r).length) (m:=r.length) (by omega) (by simp only[List.length_cons];omega)) (ek _ _) (t::r) (by simp)
inductive aW where
 | good (l:bH)
 | bad (n:Nat)
def aW.left:aW→Nat
 | .good l=>l.length
 | .bad n=>n
def aW.gp:aW→Bool
 | .good _=>true
 | .bad _=>false
def aW.words:aW→bH
 | .good l=>l
 | .bad _=> []
def ae {α:Type}(p:Ps α):aW→aW
 | .bad n=> .bad n
 | .good l=>match p l with
   | .ok (_,r)=> .good r
   | .error n=> .bad n
def aK {α:Type}(p:Ps α):aW→α→Prop
 | .bad _,_=>True
 | .good l,x=>match p l with
   | .ok (y,_)=>x=y
   | .error _=>True
theorem aI {α β:Type} {p:Ps α} {f:α→Ps β} {σ:aW} {x:α}(h:aK p σ x):ae (p >>= f) σ=ae (f x) (ae p σ):=by
 match σ with
 | .bad n=>rfl
 | .good l=>
   simp only[ae,aK,fw] at h ⊢;cases e:p l with
   | error n=>rfl
   | ok y=>obtain⟨y,r⟩:=y;rw[e] at h;simp only at h;subst h;rfl
theorem aC {α β:Type} {p:Ps α} {f:α→Ps β} {σ:aW} {x:α} {z:β}(h:aK p σ x)(k:aK (f x) (ae p σ) z):aK (p >>= f) σ z:=by
 match σ with
 | .bad n=>trivial
 | .good l=>
   simp only[ae,aK,fw] at h k ⊢;cases e:p l with
   | error n=>trivial
   | ok y=>obtain⟨y,r⟩:=y;rw[e] at h k;simp only at h k ⊢;subst h;exact k
theorem cr {α:Type}(x:α)(σ:aW):ae (pure x:Ps α) σ=σ:=by cases σ <;> rfl
theorem bM {α:Type}(x:α)(σ:aW):aK (pure x:Ps α) σ x:=by cases σ <;> trivial
theorem xr {α:Type}(p:Ps α)(n:Nat)(x:α):aK p (.bad n) x:=trivial
theorem GA {α:Type} {p:Ps α} {l:bH} {n:Nat}(h:p l=.error n):ae p (.good l)=.bad n:=by simp only[ae,h]
theorem ED {α:Type} {p:Ps α} {l r:bH} {x:α}(h:p l=.ok (x,r)):ae p (.good l)=.good r:=by simp only[ae,h]
theorem Rp {α:Type} {p:Ps α} {l r:bH} {x:α}(h:p l=.ok (x,r)):aK p (.good l) x:=by simp only[aK,h]
def aW.head (s:List UInt8)(σ:aW):Bool:=av s σ.words
theorem bj (s:List UInt8)(σ:aW):aK (may s) σ (σ.head s):=by
 match σ with
 | .bad n=>trivial
 | .good l=>
   simp only[aK,may,aW.head,aW.words];cases e:av s l
   ·rfl
   ·rfl
theorem GC (s:List UInt8)(σ:aW):ae (may s) σ=if σ.head s then .good σ.words.tail else σ:=by
 match σ with
 | .bad n=>rfl
 | .good l=>
   simp only[ae,may,aW.head,aW.words];by_cases e:av s l=true
   ·simp only[e,if_true]
   ·simp only[e];rfl
theorem CU (s:List UInt8)(σ:aW):ae (must s) σ=if σ.head s then .good σ.words.tail else .bad σ.left:=by
 match σ with
 | .bad n=>rfl
 | .good l=>
   simp only[ae,must,aW.head,aW.words,aW.left];by_cases e:av s l=true
   ·simp only[e,if_true]
   ·simp only[e];rfl
theorem aJ (p:Ps Unit)(σ:aW):aK p σ ():=by
 match σ with
 | .bad n=>trivial
 | .good l=>simp only[aK];split <;> trivial
def aW.of (W:bH):aW→Prop
 | .good l=>l <:+ W∧ik l
 | .bad n=>0 < n∧n≤W.length
theorem aW.Mj {α:Type} {p:Ps α}(hp:cy p) {W:bH} {σ:aW}(h:σ.of W):(ae p σ).of W:=by
 match σ with
 | .bad n=>exact h
 | .good l=>
   obtain⟨h1,h2⟩:=h;cases e:p l with
   | error n=>rw[GA e];obtain⟨k1,k2⟩:=hp.err e;exact⟨k2 h2,Nat.le_trans k1 h1.length_le⟩
   | ok y=>obtain⟨x,r⟩:=y;rw[ED e];obtain⟨k1,k2⟩:=hp.ok e;exact⟨k1.trans h1,k2 h2⟩
theorem aW.EE {W:bH} {σ:aW}(h:σ.of W):0 < σ.left∧σ.left≤W.length:=by
 match σ with
 | .bad n=>exact h
 | .good l=>exact⟨h.2.pos,h.1.length_le⟩
theorem aW.of_next {W l:bH}(h:(aW.good l).of W):∃t r,l=t::r∧W[W.length - l.length]?=some t:=by
 obtain⟨⟨b,hb⟩,h2⟩:=h
 match l,h2.pos with
 | t::r,_=>refine⟨t,r,rfl,?_⟩;rw[← hb,List.length_append,Nat.add_sub_cancel,List.getElem?_append_right (Nat.le_refl _),Nat.sub_self];rfl
theorem aW.cw {α:Type} {p:Ps α}(hp:cy p)(σ:aW):(ae p σ).left≤σ.left:=by
 match σ with
 | .bad n=>exact Nat.le_refl _
 | .good l=>
   cases e:p l with
   | error n=>rw[GA e];exact(hp.err e).1
   | ok y=>obtain⟨x,r⟩:=y;rw[ED e];exact hp.len e
theorem oa:∀ks,gT ks []=none
 | []=>rfl
 |(s,o)::ks=>by simp only[gT,av];exact oa ks
theorem Ab {below:Ps Tr}(hb:cy below)(lv:Nat):∀(f g:Nat) (x:Tr) (l:bH),l.length≤f→l.length≤g→lM below lv f x l=lM below lv g x l
 | 0,0,x,l,_,_=>rfl
 | 0,g+1,x,l,h,_=>by have:l=[]:=List.eq_nil_of_length_eq_zero (by omega);subst this;simp only[lM,oa];rfl
 | f+1,0,x,l,_,h=>by have:l=[]:=List.eq_nil_of_length_eq_zero (by omega);subst this;simp only[lM,oa];rfl
 | f+1,g+1,x,l,hf,hg=>by
   simp only[lM];cases e:gT (opsL lv) l with
   | none=>rfl
   | some o=>
     obtain⟨s,_,hs⟩:=kf e;have ht:=head_tail hs;simp only[fw];cases e2:below l.tail with
     | error n=>rfl
     | ok y=>obtain⟨y,r⟩:=y;have:=hb.len e2;exact Ab hb lv f g _ r (by omega) (by omega)
def rQ (below:Ps Tr)(lv:Nat)(x:Tr):Ps Tr:=fun l=>lM below lv l.length x l
theorem EF (below:Ps Tr)(lv:Nat):lY below lv=(do let x ← below;rQ below lv x):=rfl
theorem pN {below:Ps Tr}(hb:cy below)(lv:Nat)(x:Tr)(l:bH):rQ below lv x l=match gT (opsL lv) l with
  | none=> .ok (x,l)
  | some o=>(do let y ← below;rQ below lv (lI o [x,y])) l.tail:=by
 match l with
 | []=>simp only[oa];rfl
 | t::r=>
   show lM below lv (r.length+1) x (t::r)=_;simp only[lM];cases e:gT (opsL lv) (t::r)with
   | none=>rfl
   | some o=>
     simp only[fw,List.tail_cons];cases e2:below r with
     | error n=>rfl
     | ok y=>obtain⟨y,r2⟩:=y;have:=hb.len e2;exact Ab hb lv _ _ _ r2 (by omega) (Nat.le_refl _)
theorem Ac {α:Type} {el:Ps α}(hb:cy el):∀(f g:Nat) (acc:List α) (l:bH),l.length≤f→l.length≤g→nV el f acc l=nV el g acc l
 | 0,0,x,l,_,_=>rfl
 | 0,g+1,x,l,h,_=>by have:l=[]:=List.eq_nil_of_length_eq_zero (by omega);subst this;simp[nV,av];rfl
 | f+1,0,x,l,_,h=>by have:l=[]:=List.eq_nil_of_length_eq_zero (by omega);subst this;simp[nV,av];rfl
 | f+1,g+1,x,l,hf,hg=>by
   simp only[nV];cases e:av ax l
   ·rfl
   ·have ht:=head_tail e;simp only[if_true,fw];cases e2:el l.tail with
    | error n=>rfl
    | ok y=>obtain⟨y,r⟩:=y;have:=hb.len e2;exact Ac hb f g _ r (by omega) (by omega)
def uw {α:Type}(el:Ps α)(acc:List α):Ps (List α):=fun l=>nV el l.length acc l
theorem ze {α:Type}(el:Ps α):dx el=(do let x ← el;uw el [x]):=rfl
theorem pO {α:Type} {el:Ps α}(hb:cy el)(acc:List α):uw el acc=(do
  if ← may ax then
   let y ← el
   uw el (acc++ [y])
  else return acc):=by
 funext l;rw[dK]
 match l with
 | []=>rfl
 | t::r=>
   show nV el (r.length+1) acc (t::r)=_;simp only[nV];cases e:av ax (t::r)
   ·rfl
   ·simp only[if_true,fw,List.tail_cons];cases e2:el r with
    | error n=>rfl
    | ok y=>obtain⟨y,r2⟩:=y;have:=hb.len e2;exact Ac hb _ _ _ r2 (by omega) (Nat.le_refl _)
def aW.op (lv:Nat)(σ:aW):Option Int:=gT (opsL lv) σ.words
theorem CV {below:Ps Tr}(hb:cy below)(lv:Nat)(x:Tr)(σ:aW):ae (rQ below lv x) σ=match σ.op lv with
  | none=>σ
  | some o=>ae (do let y ← below;rQ below lv (lI o [x,y])) (.good σ.words.tail):=by
 match σ with
 | .bad n=>simp only[aW.op,aW.words,oa];rfl
 | .good l=>simp only[ae,aW.op,aW.words];rw[pN hb];cases e:gT (opsL lv) l <;> rfl
theorem yF {below:Ps Tr}(hb:cy below)(lv:Nat)(x:Tr)(σ:aW)(h:σ.op lv=none):aK (rQ below lv x) σ x:=by
 match σ with
 | .bad n=>trivial
 | .good l=>have:gT (opsL lv) l=none:=h;simp only[aK,pN hb,this]
theorem yG {below:Ps Tr}(hb:cy below)(lv:Nat)(x z:Tr)(o:Int)(σ:aW)(h:σ.op lv=some o)(k:aK (do let y ← below;rQ below lv (lI o [x,y])) (.good σ.words.tail) z):aK (rQ below lv x) σ z:=by
 match σ with
 | .bad n=>trivial
 | .good l=>have h:gT (opsL lv) l=some o:=h;simp only[aK,pN hb,h];exact k
open Go.ChangeShapes Go.WideShapes Go.ChangeAt Go.RowKit Go.Shelf
theorem EG (s:ByteArray) {at_:Nat} {c:UInt8} {r:List UInt8}(hd:s.data.toList.drop at_=c::r)(hc:bp c=true):
  (s.extract at_ (fp bp s.data.toList at_)).data.toList=(c::r).takeWhile bp∧(c::r).takeWhile bp≠ []:=by
 rw[lj,hd];exact⟨rfl,by rw[List.takeWhile_cons,if_pos hc];simp⟩
theorem JV (s:ByteArray) {k:Nat}(hk:k≤s.size):((s.data.toList.drop k).head?.any dr=true↔k < fp dr s.data.toList k):=by
 cases h:s.data.toList[k]? with
 | none=>rw[List.drop_eq_nil_of_le (by simpa using h),vD (by simpa using h)];simp
 | some d=>
   rw[drop_at h];cases hp:dr d
   ·rw[yY h hp];simp[hp]
   ·rw[pH h hp];have:=qA dr s.data.toList (k+1);simp[hp];omega
theorem JW {l:List UInt8}(hne:l≠ []):(decide (l.length≤1)|| !(l.head?==some 48))= !(l.head?==some 48 && !(l== [48])):=by
 match l with
 | []=>exact absurd rfl hne
 | [c]=>by_cases h:c=48 <;> simp[h]
 | c::d::r=>by_cases h:c=48 <;> simp[h]
set_option maxHeartbeats 4000000
set_option maxRecDepth 100000
theorem JX (B:Nat)(s:ByteArray)(g at_:Nat)(w:World)(hE:Env B w)(hB:B≤g)(hL:au w g 77 (rh s at_))(c:UInt8)(r:List UInt8)(hd:s.data.toList.drop at_=c::r)(hc:bp c=true)(hl:dr c=false)(hs:s.size≤4294967280):
  Calls Tryz.prog 62 #[.pointer (some ⟨g,0,none⟩)] w (Gu s g at_ w (eR (c::r))):=by
 have ha:at_≤s.size:=by
  rcases Nat.lt_or_ge s.size at_ with h | h
  ·rw[List.drop_eq_nil_of_le (by simp;omega)] at hd;cases hd
  ·exact h
 have kQ:eR (c::r)=if rf ((c::r).takeWhile bp)&& !(((c::r).dropWhile bp).head?.any dr)then .ok (⟨2,[],jg ((c::r).takeWhile bp)⟩,(c::r).dropWhile bp)else .error 30:=by simp only[eR,hl,if_pos hc];rfl
 obtain⟨hX,hne⟩:=EG s hd hc;have VC:=JV s (oY bp s.data.toList at_ (by simpa using ha)|>(by simpa using ·));rw[mH,hd] at VC;have hall:∀x∈(c::r).takeWhile bp,bp x=true:=yZ _;have xT:=pI bp s ha;rw[hd] at xT;obtain⟨c0,c1⟩:=dT hL;have hlt:=hL.lt;have hle:=oY bp s.data.toList at_ (by simpa using ha);have JA:=qA bp s.data.toList at_;simp at hle;generalize hk:fp bp s.data.toList at_=k at*;generalize hq:(c::r).takeWhile bp=q at*;generalize E9:(c::r).dropWhile bp=rr at*;generalize hx:eR (c::r)=R at*;have HK:=hid hk;have HX:=hid hX;have JY:=hid hall;have YO:=hid VC;have HR:=hid xT;have HN:=hid hne;have HZF:=hid (JW hne);clear hk hq E9 hx hd hX hall VC xT hne;have lR:=hid kQ;clear kQ;have hsz:q.length=(s.extract at_ k).size:=by rw[← HX.out];simp only[ByteArray.size_data,Array.length_toList]
 have oK:(s.extract at_ k).size≤4294967280:=by rw[ByteArray.size_extract];omega
 have EH:0 <(s.extract at_ k).size:=by rw[← hsz];exact List.length_pos_iff.2 HN.out
 go_enter Tryz.func62,Tryz.ntmps62;go_wp2_with fail;refine(nv uI s at_ at_ g _ (hL.alloc _) ha hs).mono ?_;rintro e w' ⟨rfl,rfl⟩;rw[HK.out];go_wp2_with fail;have HA:=hid (hL.alloc (.cells #[.int .u8 0,.string ⟨#[]⟩,.int .i64 0,.int .i64 0] 46));have bb:=aa w (.cells #[.int .u8 0,.string ⟨#[]⟩,.int .i64 0,.int .i64 0] 46);have HZ:=hid (au.new w 46 #[.int .u8 0,.string ⟨#[]⟩,.int .i64 0,.int .i64 0]);have hne:w.heap.size≠g:=by omega
 go_quiet (fail);generalize s.extract at_ k=x at*;have bb2:=bb.trans ((dO _ nq).mono bb.size);have jW:At s g w at_ _:=(At.refl hL).later bb2;have Ga:=hid (HZ.out.drewN nq);generalize (w.alloc (.cells #[.int .u8 0,.string ⟨#[]⟩,.int .i64 0,.int .i64 0] 46)).drewN nq=W at*;have rR:=hid (hE.later bb2);have hx0:q.head?=some x[0]:=by rw[← HX.out,List.head?_eq_getElem?];exact ft x 0 EH
 have Oh:x.toList=q:=by rw[ByteArray.toList_eq];exact HX.out
 have qW:=hid hx0;have HXL:=hid Oh;clear hx0 Oh;go_wp2_with fail;by_cases hv:jg q≤9223372036854775807
 ·refine(Rg oK (by rw[HX.out];exact HN.out) (by rw[HX.out];exact JY.out) (by rw[HX.out];exact hv) _).mono ?_;rintro e w1 ⟨rfl,b1⟩;rw[HX.out];have JZ:=jW.later b1;have Gb:=hid (Ga.out.later b1);obtain⟨d0,d1⟩:=dT JZ.1;have BX:=hid JZ;clear JZ;obtain⟨z0,z1,z2,z3,y0,y1,y2,y3⟩:=aT Gb.out;by_cases hb:q.head?=some 48∧q≠ [48]
  ·have EI:R=.error 30:=by rw[lR.out,if_neg];rw[rf,HZF.out];simp[hb.1,hb.2]
   have EJ:=hid EI;clear EI;have t1:(((x[0].toNat:Nat):Int)==48)=true:=by have:=qW.out.symm.trans hb.1;injection this with this;rw[this];rfl
   have t2:¬x.toList=[48]:=by rw[HXL.out];exact hb.2
   have t3:(x.toList== [48])=false:=by simpa using t2
   clear hb;go_wp2_with fail;have EI:=EJ.out;refine bodyPost_ret (v:=.tuple #[.agg #[.int .u8 0,.string ⟨#[]⟩,.int .i64 0,.int .i64 0],.int .i64 30]) ?_ rfl ?_
   ·simp[results,Tryz.results62,go_sem,z0,z1,z2,z3]
   ·rw[EI];exact⟨rfl,(((BX.out.far (Nat.le_refl _) hne 0 _).far (Nat.le_refl _) hne 1 _ |>.far (Nat.le_refl _) hne 2 _ |>.far (Nat.le_refl _) hne 3 _))⟩
  ·by_cases GD:k < fp dr s.data.toList k
   ·have EI:R=.error 30:=by rw[lR.out,if_neg];rw[YO.out.2 GD];simp
    have EJ:=hid EI;clear EI;have g2:=decide_eq_true (show(k:Int)<(fp dr s.data.toList k:Nat) by omega);have g3:=decide_eq_true GD;by_cases QH:x[0]=48
    ·have t1:(((x[0].toNat:Nat):Int)==48)=true:=by rw[QH];rfl
     have t2:x.toList=[48]:=by
      rw[HXL.out];by_cases hq:q=[48]
      ·exact hq
      ·exact absurd ⟨by rw[qW.out,QH],hq⟩ hb
     have t3:(x.toList== [48])=true:=by simpa using t2
     clear QH;go_wp2_with fail;refine(nv lh s at_ k g _ BX.out.1 hle hs).mono ?_;rintro e w' ⟨rfl,rfl⟩;go_wp2_with fail;have EI:=EJ.out;refine bodyPost_ret (v:=.tuple #[.agg #[.int .u8 0,.string ⟨#[]⟩,.int .i64 0,.int .i64 0],.int .i64 30]) ?_ rfl ?_
     ·simp[results,Tryz.results62,go_sem,z0,z1,z2,z3]
     ·rw[EI];exact⟨rfl,(((BX.out.far (Nat.le_refl _) hne 0 _).far (Nat.le_refl _) hne 1 _ |>.far (Nat.le_refl _) hne 2 _ |>.far (Nat.le_refl _) hne 3 _))⟩
    ·have t1:(((x[0].toNat:Nat):Int)==48)=false:=by rw[beq_eq_false_iff_ne];intro h;exact QH (UInt8.toNat_inj.1 (by simpa using(by omega:x[0].toNat=48)))
     clear QH;go_wp2_with fail;refine(nv lh s at_ k g _ BX.out.1 hle hs).mono ?_;rintro e w' ⟨rfl,rfl⟩;go_wp2_with fail;have EI:=EJ.out;refine bodyPost_ret (v:=.tuple #[.agg #[.int .u8 0,.string ⟨#[]⟩,.int .i64 0,.int .i64 0],.int .i64 30]) ?_ rfl ?_
     ·simp[results,Tryz.results62,go_sem,z0,z1,z2,z3]
     ·rw[EI];exact⟨rfl,(((BX.out.far (Nat.le_refl _) hne 0 _).far (Nat.le_refl _) hne 1 _ |>.far (Nat.le_refl _) hne 2 _ |>.far (Nat.le_refl _) hne 3 _))⟩
   ·have EI:R=.ok (⟨2,[],jg q⟩,rr):=by
     rw[lR.out,if_pos];have h1:(rr.head?.any dr)=false:=by
      cases hh:rr.head?.any dr
      ·rfl
      ·exact absurd (YO.out.1 hh) GD
     rw[h1,rf,HZF.out];simp[hv];by_cases hq:q=[48]
     ·exact .inr hq
     ·exact .inl fun h=>hb ⟨h,hq⟩
    have EJ:=hid EI;clear EI;have hfe:fp dr s.data.toList k=k:=by have:=qA dr s.data.toList k;omega
    have xZ:=hid hfe;clear hfe GD;by_cases QH:x[0]=48
    ·have t1:(((x[0].toNat:Nat):Int)==48)=true:=by rw[QH];rfl
     have t2:x.toList=[48]:=by
      rw[HXL.out];by_cases hq:q=[48]
      ·exact hq
      ·exact absurd ⟨by rw[qW.out,QH],hq⟩ hb
     have t3:(x.toList== [48])=true:=by simpa using t2
     clear QH;go_wp2_with fail;refine(nv lh s at_ k g _ BX.out.1 hle hs).mono ?_;rintro e w' ⟨rfl,rfl⟩;rw[xZ.out];go_wp2_with fail;refine(nM s g at_ k 2 ⟨#[]⟩ (jg q) 0 _ BX.out.1).mono ?_;rintro e w2 ⟨rfl,hat⟩;clear z0 z1 z2 z3 y0 y1 y2 y3;obtain⟨z0,z1,z2,z3,y0,y1,y2,y3⟩:=aT (hat.other Gb.out hne);go_wp2_with fail;refine bodyPost_ret (v:=.tuple #[.agg #[.int .u8 2,.string ⟨#[]⟩,.int .i64 (jg q),.int .i64 at_],.int .i64 0]) ?_ rfl ?_
     ·simp[results,Tryz.results62,go_sem,z0,z1,z2,z3]
     ·rw[EJ.out];refine⟨rfl,?_⟩;show At s g w (s.size - _) _;rw[HR.out];exact(((BX.out.trans hat).far (Nat.le_refl _) hne 0 _).far (Nat.le_refl _) hne 1 _ |>.far (Nat.le_refl _) hne 2 _ |>.far (Nat.le_refl _) hne 3 _)
    ·have t1:(((x[0].toNat:Nat):Int)==48)=false:=by rw[beq_eq_false_iff_ne];intro h;exact QH (UInt8.toNat_inj.1 (by simpa using(by omega:x[0].toNat=48)))
     clear QH;go_wp2_with fail;refine(nv lh s at_ k g _ BX.out.1 hle hs).mono ?_;rintro e w' ⟨rfl,rfl⟩;rw[xZ.out];go_wp2_with fail;refine(nM s g at_ k 2 ⟨#[]⟩ (jg q) 0 _ BX.out.1).mono ?_;rintro e w2 ⟨rfl,hat⟩;clear z0 z1 z2 z3 y0 y1 y2 y3;obtain⟨z0,z1,z2,z3,y0,y1,y2,y3⟩:=aT (hat.other Gb.out hne);go_wp2_with fail;refine bodyPost_ret (v:=.tuple #[.agg #[.int .u8 2,.string ⟨#[]⟩,.int .i64 (jg q),.int .i64 at_],.int .i64 0]) ?_ rfl ?_
     ·simp[results,Tryz.results62,go_sem,z0,z1,z2,z3]
     ·rw[EJ.out];refine⟨rfl,?_⟩;show At s g w (s.size - _) _;rw[HR.out];exact(((BX.out.trans hat).far (Nat.le_refl _) hne 0 _).far (Nat.le_refl _) hne 1 _ |>.far (Nat.le_refl _) hne 2 _ |>.far (Nat.le_refl _) hne 3 _)
 ·have EI:R=.error 30:=by rw[lR.out,if_neg];rw[rf];simp[hv]
  have EJ:=hid EI;clear EI;refine(Gv oK (by rw[HX.out];exact HN.out) (by rw[HX.out];exact JY.out) (by rw[HX.out];exact hv) rR.out).mono ?_;rintro e w1 ⟨⟨N,rfl⟩,b1⟩;have JZ:=jW.later b1;have Gb:=hid (Ga.out.later b1);obtain⟨d0,d1⟩:=dT JZ.1;have BX:=hid JZ;clear JZ;obtain⟨z0,z1,z2,z3,y0,y1,y2,y3⟩:=aT Gb.out;go_wp2_with fail;have EI:=EJ.out;refine bodyPost_ret (v:=.tuple #[.agg #[.int .u8 0,.string ⟨#[]⟩,.int .i64 0,.int .i64 0],.int .i64 30]) ?_ rfl ?_
  ·simp[results,Tryz.results62,go_sem,z0,z1,z2,z3]
  ·rw[EI];exact⟨rfl,(((BX.out.far (Nat.le_refl _) hne 0 _).far (Nat.le_refl _) hne 1 _ |>.far (Nat.le_refl _) hne 2 _ |>.far (Nat.le_refl _) hne 3 _))⟩
theorem vL:(Tryz.prog.info? 124).map (·.size)=some 2:=by kernel_rfl
theorem EK:liesAt Tryz.prog Tryz.prog.depth 124 (2 / Tryz.prog.cellsOf 124) 0 124 1=true:=by kernel_rfl
theorem Oi:(Tryz.prog.info? 5).map (fun i=>(i.zero,i.size,i.bytes))=some (some (.int .u8 0),1,1):=by kernel_rfl
theorem Ka (b:Nat)(w:World)(h0:w.cell? ⟨b,0,none⟩=some (.pointer (some ⟨b,0,none⟩))):
  Calls Tryz.prog 115 #[.pointer (some ⟨b,0,none⟩)] w fun e w'=>e=.returned (.tuple #[])∧w=w':=by
 obtain⟨j,hj,_⟩:=Option.map_eq_some_iff.1 vL;go_enter Tryz.func115,Tryz.ntmps115;go_wp2_with fail;rw[Lib.run_neq_ptr_same w _ Tryz.underlying122 hj];go_wp2_with fail;go_end0;exact⟨rfl,rfl⟩
theorem GF (b:Nat)(w:World)(h0:w.cell? ⟨b,0,none⟩=some (.pointer none))(LU:w.shape? b=some (124,2))(hfz:w.frozen? ⟨b,0,none⟩=false):
  Calls Tryz.prog 115 #[.pointer (some ⟨b,0,none⟩)] w fun e w'=>e=.returned (.tuple #[])∧w'=w.setCell ⟨b,0,none⟩ (.pointer (some ⟨b,0,none⟩)):=by
 obtain⟨j,hj,Wo⟩:=Option.map_eq_some_iff.1 vL;go_enter Tryz.func115,Tryz.ntmps115;go_wp2_with fail;rw[Lib.run_to_unsafe w ⟨b,0,none⟩ Tryz.underlying122 Tryz.underlying158 hj (by rw[Wo];decide) LU (Nat.zero_lt_succ 1)];simp only[Result.andThen];rw[Oper.upon_value];go_wp2_with fail;rw[run_callFunc_extern Tryz.func132 (by kernel_rfl) (by kernel_rfl) (by kernel_rfl) (e:=Extern.AbiNoEscape.same) (by kernel_rfl)];rw[Lib.run_noEscape];simp only[Result.andThen];rw[Oper.upon_value];go_wp2_with fail;rw[Lib.run_from_unsafe w ⟨b,0,none⟩ Tryz.underlying158 Tryz.underlying122 hj LU EK];simp only[Result.andThen];rw[Oper.upon_value];go_wp2_with fail;go_end0;exact⟨rfl,rfl⟩
def GG (B b:Nat)(l:List UInt8)(w:World):Prop:=Lib.IsBuilder 124 5 B b (Lib.byteCells l) w
theorem Oj (B b:Nat)(bs:List Value)(w:World)(h:Lib.IsBuilder 124 5 B b bs w):
  Calls Tryz.prog 115 #[.pointer (some ⟨b,0,none⟩)] w fun e w'=>e=.returned (.tuple #[])∧Lib.BuilderAt 124 5 B b (.pointer (some ⟨b,0,none⟩)) bs w'∧Below B w w':=by
 rcases h with h | h
 ·refine(GF b w h.cell0 h.shape h.frozen0).mono ?_;rintro e w' ⟨rfl,rfl⟩;exact⟨rfl,h.used _,(Below.refl B w).setCell (p:=⟨b,0,none⟩) h.1 _⟩
 ·refine(Ka b w h.cell0).mono ?_;rintro e w' ⟨rfl,rfl⟩;exact⟨rfl,h,Below.refl B _⟩
theorem Ok (B b:Nat)(bs:List Value)(c:Int)(w:World)(h:Lib.IsBuilder 124 5 B b bs w)(hlen:bs.length+1≤140737488355328)(za:B≤w.heap.size):
  Calls Tryz.prog 98 #[.pointer (some ⟨b,0,none⟩),.int .u8 c] w fun e w'=>e=.returned .nilIface∧Lib.BuilderAt 124 5 B b (.pointer (some ⟨b,0,none⟩)) (bs++ [.int .u8 c]) w'∧Below B w w':=by
 obtain⟨i0,hi,hz0,hz1,hz2⟩:=info_parts Oi;go_enter Tryz.func98,Tryz.ntmps98;go_wp2_with fail;refine(Oj B b bs _ h).mono ?_;rintro e w1 ⟨rfl,h1,hb1⟩;obtain⟨hB,v,CW,hown,hne⟩:=h1;have c0:w1.cell? ⟨b,0,none⟩=some (.pointer (some ⟨b,0,none⟩)):=by rw[Lib.cell_of_heap CW];rfl
 have c1:w1.cell? ⟨b,1,none⟩=some v:=by rw[Lib.cell_of_heap CW];rfl
 go_wp2_with (at_builtin;refine wpList_append_own _ rfl _ _ 53 rfl B 5 i0 (.int .u8 0) 1 1 Tryz.underlying53 hi hz0 hz1 hz2 rfl (by decide) _ _ _ rfl (hown.alloc _) ⟨w1.heap.size,0,none⟩ 1 1 [.int .u8 c] rfl rfl ?c1 ?c2 ?c3 ?c4 ?c5 ?_);case c1=>
  intro j u hj
  match j,hj with
  | 0,hj=>simp at hj;subst hj;simp[Addr.add]
 case c2=>intro u hu;simp at hu;subst hu;rfl
 case c3=>unfold maxLen;omega
 case c4=>omega
 case c5=>have:=hb1.size;simp;omega
 intro v' w2 hown' hgrow _;have hlt:b < w1.heap.size:=by
  rcases Nat.lt_or_ge b w1.heap.size with h' | h'
  ·exact h'
  ·simp[Array.getElem?_eq_none h'] at CW
 have hb2:w2.heap[b]?=some (.cells #[.pointer (some ⟨b,0,none⟩),v] 124 (0,0)):=by rw[hgrow.block b (by simp;omega) (fun e=>hne e.symm),Lib.alloc_old w1 _ b hlt];exact CW
 have d0:w2.cell? ⟨b,0,none⟩=some (.pointer (some ⟨b,0,none⟩)):=by rw[Lib.cell_of_heap hb2];rfl
 have d1:w2.cell? ⟨b,1,none⟩=some v:=by rw[Lib.cell_of_heap hb2];rfl
 have f1:w2.frozen? ⟨b,1,none⟩=false:=Lib.frozen_of_heap hb2 1;obtain⟨g,cap,rfl⟩:∃g cap,v'=.slice (some ⟨g,0,none⟩) (bs.length+1) cap:=by
  rcases hown'.2 with ⟨_,h0⟩|⟨g,cap,cur,hv,_⟩
  ·omega
  ·exact⟨g,cap,hv⟩
 go_wp2_with fail;go_ret;refine⟨rfl,?_,?_⟩
 ·exact Lib.BuilderAt.put (T:=124) (e:=5) hB hb2 (bs':=bs++ [.int .u8 c]) (by simpa using hown') (by decide)
 ·exact((hb1.alloc (by have:=hb1.size;omega) _).grown hgrow (by have:=hb1.size;simp;omega) (fun k hk=>(hown.lt k hk).1)).setCell (p:=⟨b,1,none⟩) hB _
theorem Ad (B b:Nat)(l:List UInt8)(c:UInt8)(w:World)(h:GG B b l w)(hlen:l.length+1≤140737488355328)(za:B≤w.heap.size):
  Calls Tryz.prog 98 #[.pointer (some ⟨b,0,none⟩),.int .u8 (c.toNat:Int)] w fun e w'=>e=.returned .nilIface∧GG B b (l++ [c]) w'∧Below B w w':=by
 refine(Ok B b (Lib.byteCells l) c.toNat w h (by rw[Lib.byteCells_length];exact hlen) za).mono ?_;rintro e w' ⟨he,h1,h2⟩;refine⟨he,.inr ?_,h2⟩;have:Lib.byteCells (l++ [c])=Lib.byteCells l++ [.int .u8 (c.toNat:Int)]:=by simp[Lib.byteCells]
 rw[this];exact h1
end Go.Proofs.YtcneefmaghoejaaGreatDoor
