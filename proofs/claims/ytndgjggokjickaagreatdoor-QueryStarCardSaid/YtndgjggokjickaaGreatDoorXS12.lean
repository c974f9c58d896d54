/- Parts of the proof. -/
import Derived.Deep.Strs
import Derived.Lay
import Derived.LaidMore
import Derived.Stop.LaidErr
import Derived.HandedShaped
import Derived.Deep.DeepHandedRow
import Derived.Test.YtndgjggokjickaaGreatDoorXS11
namespace Go.Proofs.YtndgjggokjickaaGreatDoor
variable{p:Prop}
set_option maxHeartbeats 90000000
set_option maxRecDepth 100000
open Go.ChangeShapes Go.WideShapes Go.ChangeAt Go.RowKit List
set_option linter.unusedVariables false
set_option linter.unusedSimpArgs false
theorem zcj.Kar(h:p:=by exact Zcd):p:=h
theorem zex.KaQ(h:p:=by clear e1 H2;open zcj in exact ZaK):p:=h
theorem ziT.Kcr(h:p:=by have Nf:decide (f < b)=true:=decide_eq_true k5;open zex in exact ZbL):p:=h
theorem zfU.Kbf(h:p:=by open ziT in exact ZgJ):p:=h
theorem zdD.KaG(h:p:=by
 go_loopw [20,21] (λ sv rv wr=>∃i j:Nat,s0<=i/\i<=s/\s<=j/\j<=r0/\sv=af i/\rv=af j/\SS w0 g n wr D) (λ sv rv _=>(intOf rv).toNat - (intOf sv).toNat);case atStart=>exact Zbw
 case round=>
  clear HS;obtain⟨i,j,iM,hi,hj,nQ,rfl,rfl,hs⟩:=hrel;have H2:=aa hs;clear hs;by_cases hlt:i < j
  ·exact Zaa
  ·open zfU in exact Zdc):p:=h
theorem zbr.Kah(h:p:=by
 have zs:(mid:Int)+(m:Int) - (b:Int)=(s0:Int):=by omega
 open zdD in exact Zbl):p:=h
theorem JD (w0:World)(g n cap a m b mid p s f s0 r0:Nat)(D:Nat->aN)(w:World)(h:SS w0 g n w D)(hn:n<=1000)(BI:a+1 < m)(BJ:m+1 < b)(hb:b<=n)(cE:mid=(a+b)/ 2)(hp:p=mid+m - 1)(hf:f=mid+m - s)(iq:s0=mid+m - b)(fy:r0=mid)(xz:mid < m)
  (hs0:s0<=s) (kz:s<=r0) (hF:yX D p s0 r0 s s) (q1:bc (aO D s m f) a s) (q2:bc (aO D s m f) s mid) (q3:bc (aO D s m f) mid f) (q4:bc (aO D s m f) f b) (q5:∀x y,a<=x->x < mid->mid<=y->y < b->le (aO D s m f x) (aO D s m f y)) (k0:s < m) (k1:¬(m < f)) (k2:a < s) (k3:¬(s < mid)) (k4:mid < f) (k5:f < b)
  (ih:∀a' m' b' E W,a' < m'->m' < b'->b'<=n->b' - a' < b - a->SS w0 g n W E->bc E a' m'->bc E m' b'->ar 130 #[aF g n cap,af (a':Nat),af (m':Nat),af (b':Nat),.func (.func 14) #[] #[]] W (aS w0 g n a' b' E)):
  ar 130 #[aF g n cap,af a,af m,af b,.func (.func 14) #[] #[]] w (aS w0 g n a b D):=by
 open zbr in exact Zax
theorem zc2.Kaz(h:p:=by exact ZbU):p:=h
theorem zdE.KaG(h:p:=by
 go_loopw [20,21] (λ sv rv wr=>∃i j:Nat,s0<=i/\i<=s/\s<=j/\j<=r0/\sv=af i/\rv=af j/\SS w0 g n wr D) (λ sv rv _=>(intOf rv).toNat - (intOf sv).toNat);case atStart=>exact Za7
 case round=>
  clear HS;obtain⟨i,j,iM,hi,hj,nQ,rfl,rfl,hs⟩:=hrel;have H2:=aa hs;clear hs;by_cases hlt:i < j
  ·exact Zaa
  ·open zc2 in exact ZaU):p:=h
theorem zbs.Kah(h:p:=by
 have zs:(0:Int)=0:=by omega
 open zdE in exact Zbl):p:=h
theorem Dv (w0:World)(g n cap a m b mid p s f s0 r0:Nat)(D:Nat->aN)(w:World)(h:SS w0 g n w D)(hn:n<=1000)(BI:a+1 < m)(BJ:m+1 < b)(hb:b<=n)(cE:mid=(a+b)/ 2)(hp:p=mid+m - 1)(hf:f=mid+m - s)(iq:s0=a)(fy:r0=m)(xz:¬(mid < m))
  (hs0:s0<=s) (kz:s<=r0) (hF:yX D p s0 r0 s s) (q1:bc (aO D s m f) a s) (q2:bc (aO D s m f) s mid) (q3:bc (aO D s m f) mid f) (q4:bc (aO D s m f) f b) (q5:∀x y,a<=x->x < mid->mid<=y->y < b->le (aO D s m f x) (aO D s m f y)) (k0:¬(s < m)) (k2:a < s) (k3:s < mid) (Kx:¬(mid < f))
  (ih:∀a' m' b' E W,a' < m'->m' < b'->b'<=n->b' - a' < b - a->SS w0 g n W E->bc E a' m'->bc E m' b'->ar 130 #[aF g n cap,af (a':Nat),af (m':Nat),af (b':Nat),.func (.func 14) #[] #[]] W (aS w0 g n a' b' E)):
  ar 130 #[aF g n cap,af a,af m,af b,.func (.func 14) #[] #[]] w (aS w0 g n a b D):=by
 open zbs in exact Zax
theorem zcD.Kau(h:p:=by exact ZbU):p:=h
theorem zey.KaQ(h:p:=by clear e1 H2;open zcD in exact ZaN):p:=h
theorem zgr.Kbs(h:p:=by have EM:decide (s < mid)=false:=decide_eq_false k3;have KK:decide (mid < f)=false:=decide_eq_false Kx;open zey in exact ZbL):p:=h
theorem zdF.KaG(h:p:=by
 go_loopw [20,21] (λ sv rv wr=>∃i j:Nat,s0<=i/\i<=s/\s<=j/\j<=r0/\sv=af i/\rv=af j/\SS w0 g n wr D) (λ sv rv _=>(intOf rv).toNat - (intOf sv).toNat);case atStart=>exact Za7
 case round=>
  clear HS;obtain⟨i,j,iM,hi,hj,nQ,rfl,rfl,hs⟩:=hrel;have H2:=aa hs;clear hs;by_cases hlt:i < j
  ·exact Zaa
  ·open zgr in exact ZdO):p:=h
theorem zbt.Kah(h:p:=by
 have zs:(0:Int)=0:=by omega
 open zdF in exact Zbl):p:=h
theorem Dw (w0:World)(g n cap a m b mid p s f s0 r0:Nat)(D:Nat->aN)(w:World)(h:SS w0 g n w D)(hn:n<=1000)(BI:a+1 < m)(BJ:m+1 < b)(hb:b<=n)(cE:mid=(a+b)/ 2)(hp:p=mid+m - 1)(hf:f=mid+m - s)(iq:s0=a)(fy:r0=m)(xz:¬(mid < m))
  (hs0:s0<=s) (kz:s<=r0) (hF:yX D p s0 r0 s s) (q1:bc (aO D s m f) a s) (q2:bc (aO D s m f) s mid) (q3:bc (aO D s m f) mid f) (q4:bc (aO D s m f) f b) (q5:∀x y,a<=x->x < mid->mid<=y->y < b->le (aO D s m f x) (aO D s m f y)) (k0:¬(s < m)) (k2:a < s) (k3:¬(s < mid)) (Kx:¬(mid < f))
  (ih:∀a' m' b' E W,a' < m'->m' < b'->b'<=n->b' - a' < b - a->SS w0 g n W E->bc E a' m'->bc E m' b'->ar 130 #[aF g n cap,af (a':Nat),af (m':Nat),af (b':Nat),.func (.func 14) #[] #[]] W (aS w0 g n a' b' E)):
  ar 130 #[aF g n cap,af a,af m,af b,.func (.func 14) #[] #[]] w (aS w0 g n a b D):=by
 open zbt in exact Zax
variable{D:Nat->aN}{a m b mid s0 r0:Nat}
theorem mE{p:Nat}(hp:p=mid+m - 1)(he:mg a m b mid s0 r0)(h1:bc D a m)(h2:bc D m b)(WY:s0<=r0):∃s,s0<=s/\s<=r0/\yX D p s0 r0 s s:=by
 have key:∀d s,r0 - s<=d->s0<=s->s<=r0->yX D p s0 r0 s r0->∃s,s0<=s/\s<=r0/\yX D p s0 r0 s s:=by
  intro d
  induction d with
  | zero=>exact Zhk
  | succ d ih=>
    intro s h3 h4 h5 h6;by_cases hs:s=r0
    ·exact⟨s,h4,h5,by rw[<- hs] at h6 ⊢;exact h6⟩
    ·have k:=yX.goP hp he h1 h2 h6 h4 (Nat.le_refl _) (Nat.le_refl s) WC;exact ZfY
 exact Zhd
theorem zi9.Kcx(h:p:=by
 have ih':∀a' m' b' E W,a' < m'->m' < b'->b'<=n->b' - a' < b - a->SS w0 g n W E->bc E a' m'->bc E m' b'->ar 130 #[aF g n cap,af (a':Nat),af (m':Nat),af (b':Nat),.func (.func 14) #[] #[]] W (aS w0 g n a' b' E):=
  λ a' m' b' E W k1 k2 k3 k4 k5 k6 k7=>ih a' m' b' E W WC k1 k2 k3 k5 k6 k7
 exact Zan):p:=h
theorem wW (w0:World)(g n cap:Nat)(hn:n<=1000):∀(N a m b:Nat) (D:Nat->aN) (w:World),b - a<=N->a < m->m < b->b<=n->SS w0 g n w D->bc D a m->bc D m b->
  ar 130 #[aF g n cap,af a,af m,af b,.func (.func 14) #[] #[]] w (aS w0 g n a b D):=by
 intro N
 induction N with
 | zero=>intro a m b D w h0 h1 h2;omega
 | succ N ih=>
   open zi9 in exact Zhc
def Dx (E:Nat->aN)(s n:Nat):Prop:=∀a,s ∣ a->bc E a (min (a+s) n)
variable{d y:Nat}
theorem mF{x:Nat}(h1:d ∣ x)(h2:d ∣ y)(h:x < y):x+d<=y:=by exact Zd8
def Low (E:Nat->aN)(s a:Nat):Prop:=∀x,s ∣ x->x+s<=a->bc E x (x+s)
def JE (E:Nat->aN)(s a n:Nat):Prop:=∀x,s ∣ x->a<=x->bc E x (min (x+s) n)
variable{E F:Nat->aN}{s:Nat}
theorem Low.step(h:Low E s a)(hd:s ∣ a)(hw:Sw a (a+s) E F)(ho:bc F a (a+s)):Low F s (a+s):=by exact Zen
variable{n:Nat}
theorem JE.step(h:JE E s a n)(hab:a<=b)(hw:Sw a b E F):JE F s b n:=λ x hx hle=>(h x hx WC).congr λ i h2 h3=>hw.ae i (.inr WC)
theorem iF(h:Low E s a)(hd:s ∣ a)(I7:a<=n)(hn:n < a+s)(hw:Sw a n E F)(ho:bc F a n):Dx F s n:=by exact Zc5
theorem zgz.Kbw(h:p:=by
 go_loopw [6] (λ sv wr=>∃(j:Nat) (E:Nat->aN),0 < j/\j<=2000/\sv=af j/\SS w0 g n wr E/\Sw 0 n D E/\Dx E j n) (λ sv _=>n - (intOf sv).toNat);case atStart=>exact⟨20,F,by omega,by omega,rfl,H2.ae,HW.ae,EN.ae⟩
 case round=>
  clear H2 HW EN;obtain⟨j,E,hj0,hj,rfl,hF,ih,q1⟩:=hrel;have HF:=aa hF;have IH:=aa ih;have Q1:=aa q1;clear hF ih q1;by_cases hlt:j < n
  ·go_wp2_with fail;go_loopw [7,8] (λ av bv wr2=>∃(a:Nat) (E:Nat->aN),2*j ∣ a/\a<=n/\av=af a/\bv=af (a+2*j:Nat)/\SS w0 g n wr2 E/\Sw 0 n D E/\Low E (2*j) a/\JE E j a n) (λ av _ _=>n - (intOf av).toNat);case atStart=>exact Zgk
   case round=>exact Zap
  ·have HE:=aa (show bc E 0 n from(Q1.ae 0 ⟨0,rfl⟩).mono (Nat.le_refl _) WC);go_wp2_with fail;exact bodyPost_ret (v:=.tuple #[]) Tbn rfl ⟨rfl,E,HF.ae,IH.ae,HE.ae⟩):p:=h
theorem vd (w0:World)(g n cap:Nat)(D:Nat->aN)(w:World)(h:SS w0 g n w D)(hn:n<=1000):
  ar 84 #[aF g n cap,af n,.func (.func 14) #[] #[]] w (aS w0 g n 0 n D):=by
 have HS:=aa h;clear h;go_enter Tryz.func84,Tryz.ntmps84;go_wp2_with fail;go_loopw [7,8] (λ av bv wr=>∃(a:Nat) (E:Nat->aN),20 ∣ a/\a<=n/\av=af a/\bv=af (a+20)/\SS w0 g n wr E/\Sw 0 n D E/\Low E 20 a) (λ av _ _=>n - (intOf av).toNat);case atStart=>exact Zht
 case round=>
  clear HS;obtain⟨a,E,q3,I7,rfl,rfl,hF,ih,q1⟩:=hrel;have HF:=aa hF;have IH:=aa ih;have Q1:=aa q1;have Q3:=aa q3;clear hF ih q1 q3;by_cases hlt:a+20<=n
  ·exact Zb4
  ·open zgz in exact Zd2
theorem mG (w0:World)(g n cap:Nat)(D:Nat->aN)(w:World)(h:SS w0 g n w D)(hn:n<=1000):
  ar 51 #[aF g n cap,.func (.func 14) #[] #[]] w (aS w0 g n 0 n D):=by have HC:=vd w0 g n cap D w h hn;clear h;go_enter Tryz.func51,Tryz.ntmps51;go_wp2_with fail;refine HC.mono ?_;rintro e w1 ⟨rfl,b1⟩;go_wp2_with fail;exact bodyPost_ret (v:=.tuple #[]) Tbp rfl ⟨rfl,b1⟩
def mH (w:World)(e:Ending)(w':World):Prop:=e=.returned (.tuple #[])/\w'=w
theorem mI (A:Option Addr)(cap:Nat)(w:World):
  ar 129 #[.slice A 0 cap,af 0,af 0,.func (.func 14) #[] #[]] w (mH w):=by
 go_enter Tryz.func129,Tryz.ntmps129;go_wp2_with fail;go_loopw [8] (λ iv wr=>iv=af 1/\wr=w) (λ _ _=>0);case atStart=>exact ZfI
 case round=>obtain⟨rfl,rfl⟩:=hrel;go_wp2_with fail;exact bodyPost_ret (v:=.tuple #[]) Tbi rfl ⟨rfl,rfl⟩
theorem su (A:Option Addr)(cap:Nat)(w:World):
  ar 84 #[.slice A 0 cap,af 0,.func (.func 14) #[] #[]] w (mH w):=by
 go_enter Tryz.func84,Tryz.ntmps84;go_wp2_with fail;go_loopw [7,8] (λ av bv wr=>av=af 0/\bv=af 20/\wr=w) (λ _ _ _=>0);case atStart=>exact Ziu
 case round=>
  obtain⟨rfl,rfl,rfl⟩:=hrel;go_wp2_with fail;refine(mI A cap _).mono ?_;rintro e_ w1 ⟨rfl,rfl⟩;go_wp2_with fail;go_loopw [6] (λ sv wr=>sv=af 20/\wr=w1) (λ _ _=>0);case atStart=>exact ZfI
  case round=>obtain⟨rfl,rfl⟩:=hrel;go_wp2_with fail;exact bodyPost_ret (v:=.tuple #[]) Tbn rfl ⟨rfl,rfl⟩
theorem kW (A:Option Addr)(cap:Nat)(w:World):
  ar 51 #[.slice A 0 cap,.func (.func 14) #[] #[]] w (mH w):=by go_enter Tryz.func51,Tryz.ntmps51;go_wp2_with fail;refine(su A cap w).mono ?_;rintro e_ w1 ⟨rfl,rfl⟩;go_wp2_with fail;exact bodyPost_ret (v:=.tuple #[]) Tbp rfl ⟨rfl,rfl⟩
variable{w':World}{A:Option Addr}{rs:List aN}
theorem RR.later{w:World}  (h:RR w w.heap.size A rs)(hb:aj w w'):RR w' w'.heap.size A rs:=by
 rcases h with h |⟨b,off,h1,h2,h3⟩
 ·exact .inl h
 ·exact .inr ⟨b,off,h1,Nat.lt_of_lt_of_le h2 hb.size,λ i r hr=>⟨(hb.cell (p:=⟨b,off+i,none⟩) h2).trans (h3 i r hr).1,((h3 i r hr).2.below hb).more hb.size⟩⟩
theorem JM (a b:Val)(w:World):ar 144 #[.agg (aH a),.agg (aH b)] w λ e w'=>e=.returned (af (bQ a b))/\aj w w':=by
 by_cases hk:a.k=b.k
 ·have t1:(a.k != b.k)=false:=by simpa using hk
  by_cases hn:a.n=b.n
  ·have t2:(a.n != b.n)=false:=by simpa using hn
   have hv:bQ a b=lq a.s b.s:=by unfold bQ X7 lQ;rw[if_neg (show¬a.k < b.k by omega),if_neg (show¬b.k < a.k by omega),if_pos rfl,if_neg (show¬a.n < b.n by omega),if_neg (show¬b.n < a.n by omega),if_pos rfl]
   have HV:=aa hv;clear hv hk hn;cases he:(a.s.toList==b.s.toList)
   ·cases hl:Op.bytesLess a.s.toList b.s.toList
    ·have HQ:=aa (show bQ a b=1 by rw[HV.ae];unfold lq;rw[if_neg (by rw[hl];simp),if_neg (by rw[he];simp)]);exact ZbG
    ·have HQ:=aa (show bQ a b= -1 by rw[HV.ae];unfold lq;rw[if_pos hl]);exact ZbG
   ·have hl:Op.bytesLess a.s.toList b.s.toList=false:=by
     have:a.s.toList=b.s.toList:=by simpa using he
     rw[this];exact jT _
    have HQ:=aa (show bQ a b=0 by rw[HV.ae];unfold lq;rw[if_neg (by rw[hl];simp),if_pos he]);exact ZbG
  ·have t2:(a.n != b.n)=true:=by simpa using hn
   by_cases hl:a.n < b.n
   ·have t3:=decide_eq_true hl;have HQ:=aa (show bQ a b= -1 by unfold bQ X7 lQ;rw[if_neg (show¬a.k < b.k by omega),if_neg (show¬b.k < a.k by omega),if_pos rfl,if_pos hl,if_neg Taa]);clear hk hn;exact ZbG
   ·have t3:=decide_eq_false hl;have HQ:=aa (show bQ a b=1 by unfold bQ X7 lQ;rw[if_neg (show¬a.k < b.k by omega),if_neg (show¬b.k < a.k by omega),if_pos rfl,if_neg hl,if_pos (show b.n < a.n by omega),if_neg Taa]);clear hk hn;exact ZbG
 ·have t1:(a.k != b.k)=true:=by simpa using hk
  by_cases hl:a.k < b.k
  ·have t3:=decide_eq_true hl;have HQ:=aa (show bQ a b= -1 by unfold bQ X7 lQ;rw[if_pos hl,if_neg Taa]);clear hk;exact ZbG
  ·have t3:=decide_eq_false hl;have HQ:=aa (show bQ a b=1 by unfold bQ X7 lQ;rw[if_neg hl,if_pos (show b.k < a.k by omega),if_neg Taa]);clear hk;exact ZbG
theorem zen.KaO(h:p:=by clear bM x9 x0 x1 x2 y0 y1 y2;replace hB:=ai.then hB hL;clear hL;exact ZcJ):p:=h
theorem zfo.Ka6(h:p:=by go_big_quiet_step ((go_at_call 144;exact aB (Nat.le_refl _) (JM v v' _)));open zen in exact ZbB):p:=h
theorem Wk (A:Option Addr)(c:Nat)(l:List Val)(A':Option Addr)(c':Nat)(l':List Val)(w:World)(h:RV w w.heap.size A l)(h':RV w w.heap.size A' l')(hm:l.length<=1000)(hm':l'.length<=1000):
  ar 90 #[.slice A l.length c,.slice A' l'.length c'] w λ e w'=>e=.returned (af (bu l l'))/\aj w w':=by
 have HR:=aa h;have HR':=aa h';clear h h';go_enter Tryz.func90,Tryz.ntmps90;go_wp2_with fail;go_loopw [5] (λ i wr=>∃k:Nat,k<=l.length/\k<=l'.length/\i=af k/\bu (l.drop k) (l'.drop k)=bu l l'/\aj w wr) (λ i _=>l.length - (intOf i).toNat);case atStart=>exact Zii
 case round=>
  obtain⟨k,hk,Ru,rfl,hd,hB⟩:=hrel;have HD:=aa hd;clear hd;by_cases hlt:k < l.length
  ·by_cases BH:k < l'.length
   ·obtain⟨b,off,rfl,hb,c0,c1,c2⟩:=(HR.ae.later hB).at_ hlt;obtain⟨b',off',rfl,hb',d0,d1,d2⟩:=(HR'.ae.later hB).at_ BH;have HS:=aa (Fy l l' k hlt BH);generalize l[k]=v at*;generalize l'[k]=v' at*;have x0:=λ q:Ext wr.heap.size wr=>(q.h.cell (p:=⟨b,off+k*3,none⟩) hb).trans c0
    have x1:=λ q:Ext wr.heap.size wr=>(q.h.cell (p:=⟨b,off+k*3+1,none⟩) hb).trans c1
    have x2:=λ q:Ext wr.heap.size wr=>(q.h.cell (p:=⟨b,off+k*3+2,none⟩) hb).trans c2
    have y0:=λ q:Ext wr.heap.size wr=>(q.h.cell (p:=⟨b',off'+k*3,none⟩) hb').trans d0
    have y1:=λ q:Ext wr.heap.size wr=>(q.h.cell (p:=⟨b',off'+k*3+1,none⟩) hb').trans d1
    have y2:=λ q:Ext wr.heap.size wr=>(q.h.cell (p:=⟨b',off'+k*3+2,none⟩) hb').trans d2
    clear c0 c1 c2 d0 d1 d2;go_upto_region 4 with fail;refine aD 9 wr.heap.size wr (Below.refl _ _) Vx Vx Vx Vx ?_;open zfo in exact ZcP
   ·have HS:=aa (Fz l l' k hlt WC);have n1:¬l.length < l'.length:=by omega
    have n2:l'.length < l.length:=by omega
    exact Zdt
  ·by_cases BH:k < l'.length
   ·have HS:=aa (FA l l' k WC BH);have n1:l.length < l'.length:=by omega
    exact Zdt
   ·have HS:=aa (KY l l' k WC WC);have n1:¬l.length < l'.length:=by omega
    have n2:¬l'.length < l.length:=by omega
    exact Zdt
theorem Wl (A:Option Addr)(c:Nat)(l:List Val)(A':Option Addr)(c':Nat)(l':List Val)(w:World)(h:RV w w.heap.size A l)(h':RV w w.heap.size A' l')(hm:l.length<=1000)(hm':l'.length<=1000):
  ar 53 #[.slice A l.length c,.slice A' l'.length c'] w λ e w'=>e=.returned (.bool (bu l l'==0))/\aj w w':=by have HC:=Wk A c l A' c' l' w h h' hm hm';clear h h';go_enter Tryz.func53,Tryz.ntmps53;go_wp2_with fail;refine HC.mono ?_;exact ZfQ
theorem zeo.KaO(h:p:=by exact Zf3):p:=h
theorem zfp.Ka6(h:p:=by go_big_quiet_step ((go_at_call 53;exact aB (Nat.le_refl _) (hc1 _)));open zeo in exact ZbB):p:=h
theorem DT (A:Option Addr)(c:Nat)(rs:List aN)(A':Option Addr)(c':Nat)(ss:List aN)(w:World)(h:RR w w.heap.size A rs)(h':RR w w.heap.size A' ss)(he:rs.map (·.l)=ss.map (·.l))(hm:rs.length<=1000)(hl:∀r∈rs,r.l.length<=1000):
  ar 26 #[.slice A rs.length c,.slice A' ss.length c'] w λ e w'=>e=.returned (.bool true)/\aj w w':=by
 have hlen:ss.length=rs.length:=by simpa using(congrArg List.length he).symm
 have Nz:=aa (show∀i (h1:i < rs.length) (h2:i < ss.length),ss[i].l=rs[i].l from λ i h1 h2=>by
  have:=congrArg (λ l=>l[i]?) he
  simp only[getElem?_map,getElem?_eq_getElem h1,getElem?_eq_getElem h2,Option.map_some,Option.some.injEq] at this
  exact this.symm)
 have Ur:=aa hlen;have HR:=aa h;have HR':=aa h';have HL:=aa hl;rw[hlen];clear he h h' hl hlen;go_enter Tryz.func26,Tryz.ntmps26;go_wp2_with fail;go_loopw [5] (λ Kx wr=>∃k:Nat,k<=rs.length/\Kx=af k/\aj w wr) (λ Kx _=>rs.length - (intOf Kx).toNat);case atStart=>exact Zf0
 case round=>
  obtain⟨i,hk,rfl,hB⟩:=hrel;by_cases hlt:i < rs.length
  ·have Yt:i < ss.length:=by rw[Ur.ae];exact hlt
   obtain⟨b1,o1,rfl,l1,c1,r1⟩:=(HR.ae.later hB).at_ hlt;obtain⟨b2,o2,rfl,l2,c2_,r2⟩:=(HR'.ae.later hB).at_ Yt;have k1:=λ q:Ext wr.heap.size wr=>(q.h.cell (p:=⟨b1,o1+i,none⟩) l1).trans c1
   have k2:=λ q:Ext wr.heap.size wr=>(q.h.cell (p:=⟨b2,o2+i,none⟩) l2).trans c2_
   have hc1:=λ q:Ext wr.heap.size wr=>Wl rs[i].A rs[i].c rs[i].l ss[i].A ss[i].c ss[i].l q.w (r1.later q.h) (r2.later q.h) (HL.ae _ (getElem_mem hlt)) (by rw[Nz.ae i hlt Yt];exact HL.ae _ (getElem_mem hlt))
   have t1:(bu rs[i].l ss[i].l==0)=true:=by rw[Nz.ae i hlt Yt,om];rfl
   clear c1 c2_ l1 l2 r1 r2;go_upto_region 6 with fail;refine aD 10 wr.heap.size wr (Below.refl _ _) Vx Vx Vx Vx ?_;open zfp in exact ZcP
  ·exact ZhM
theorem acZ:Tryz.f11.body=some ez:=by unfold ez;simp only[Tryz.f11,Option.getD_some]
theorem ada (a b c:Value):(#[a,b,c]++Array.replicate (Tryz.f11.ntmps - (#[a,b,c]:Array Value).size) undef).size=183:=by simp[Tryz.f11]
variable{T:Array Value}{g6:Nat}{c u:Value}{W:World}
theorem zhA.KbW(h:p:=by simp[results,Tryz.f11,go_sem,e6,e7,v0,v1,v2]):p:=h
theorem JN{a b:Value} (h6:T.getD 6 undef=aw g6)(h7:T.getD 7 undef=u)(HV:aC W g6 33 #[a,b,c]):(results Tryz.f11 T).run Tryz.prog W=.ok (.tuple #[.agg #[a,b,c],u]) W:=by
 have e6:T[6]?.getD undef=aw g6:=by rw[<- h6];simp[Array.getD_eq_getD_getElem?]
 have e7:T[7]?.getD undef=u:=by rw[<- h7];simp[Array.getD_eq_getD_getElem?]
 open zhA in exact Ze2
def DU (q:Qy)(cols:List aZ)(rows:List (List Val))(w0:World)(e:Ending)(W:World):Prop:=
 aj w0 W/\match pD q cols rows with
 | .error er=>er≠0/\e=.returned (.tuple #[.agg #[az,az,af 0],af er])
 | .ok (hd,la)=>∃HA hc ov out,e=.returned (.tuple #[.agg #[.slice HA hd.length hc,ov,af la.length],af 0])/\aI aU 113 2 W w0.heap.size (.slice HA hd.length hc) hd/\aI bX 38 1 W w0.heap.size ov out/\(∀r∈out,bP W r.A r.l)/\out.map (·.l)=la
variable{q:Qy}{cols:List aZ}
theorem O6{p:ji}(h:ew q cols=.ok p):∀n∈q.lim,0<=n:=by
 unfold ew at h;split at h
 ·cases h
 ·rename_i hn;intro n hm;rcases hl:q.lim with _ |⟨a,_ |⟨b,l⟩⟩
  ·rw[hl] at hm;cases hm
  ·rw[hl] at hm hn;rw[mem_singleton] at hm;subst hm;refine Int.not_lt.1 λ hlt=>hn (.inr (.inr (.inr ⟨rfl,hlt⟩)))
  ·rw[hl] at hn;exact absurd (.inr (.inr (.inl Tac))) hn
theorem Wm{p:ji}(h:ew q cols=.ok p):q.lim.length<=1:=by
 unfold ew at h;split at h
 ·cases h
 ·rename_i hn;exact Nat.not_lt.1 λ hlt=>hn (.inr (.inr (.inl hlt)))
theorem JO{p:ji}(h:ew q cols=.ok p):q.all.any (λ t=>decide (32 < t.depth))=false:=by
 unfold ew at h;split at h
 ·cases h
 ·split at h
  ·cases h
  ·rename_i hn;exact Bool.not_eq_true _▸hn
structure JP (w0:World) (q:Qy) (L:QL) (CA:Option Addr) (cc:Nat) (cols:List aZ) (RA:Option Addr) (rows:List aN):Prop where
 qy:rD w0 q L
 ok:q.Ok
 pl:DJ (Av q L CA cc cols) w0 q L cols
 cl:cols.length<=1000
 rr:RR w0 w0.heap.size RA rows
 each:∀r∈rows,r.l.length<=1000/\∀v∈r.l,v.Ok
 rn:rows.length<=300
 ng:q.aL.length<=1000
 ni:q.items.length<=1000
 no:q.ord.length<=1000
 nh:q.ft.length<=1000
 nw:q.cK.length<=1000
 sm:q.all.any (λ t=>decide (32 < t.depth))=false->q.aL.length+(q.aL.length+2*Tr.aY (q.items.map (·.1))+2*Tr.aY q.ft+2*Tr.aY (q.ord.map (·.1)))<=1000
 lim:∀n∈q.lim,n<=9223372036854775807
variable{w0:World}{L:QL}{CA:Option Addr}{cc:Nat}{RA:Option Addr}{rows:List aN}
theorem JP.later{w:World}       (h:JP w0 q L CA cc cols RA rows)(hb:aj w0 w):JP w q L CA cc cols RA rows:=
 ⟨h.qy.later hb,h.ok,h.pl.later hb,h.cl,RR.later h.rr hb,h.each,h.rn,h.ng,h.ni,h.no,h.nh,h.nw,h.sm,h.lim⟩
theorem zh7.Kb7(h:p:=by clear pO;go_wp2_with fail;refine⟨rfl,_,JN rfl rfl (((K62.ae.aW 0 _).aW 1 _).aW 2 _),?_⟩;unfold DU;rw[HR.ae];exact⟨Below.trans apl.ae ((pY K62.ae).mono apl.ae.size),by decide,rfl⟩):p:=h
theorem adb (q:Qy)(L:QL)(CA:Option Addr)(cc:Nat)(cols:List aZ)(RA:Option Addr)(rc:Nat)(rows:List aN)(T:Array Value)(hT:T.size=183)(h0:T.getD 0 undef=tJ q L)(h1:T.getD 1 undef=.slice CA cols.length cc)(h2:T.getD 2 undef=.slice RA rows.length rc)(w0:World)(hq:JP w0 q L CA cc cols RA rows):
  (fA ez 0).wp Tryz.prog (bodyPost Tryz.prog Tryz.f11 (DU q cols (rows.map (·.l)) w0)) { tmps:=T,defers:=[] } w0:=by
 obtain⟨f,rfl⟩:=yN T hT;have h0:f 0=_:=h0;have h1:f 1=_:=h1;have h2:f 2=_:=h2;unfold tJ at h0;simp only[Xk,h0,h1,h2];clear h0 h1 h2;clear h0 h1 h2 hT;have b1:=ah w0 (.cells (fW q L) 27);have k3:=aC.new w0 27 (fW q L);obtain⟨W1,hW1⟩:∃W1,W1=w0.alloc (.cells (fW q L) 27):=⟨_,rfl⟩;have s1:W1.heap.size=w0.heap.size+1:=by rw[hW1,World.size_alloc]
 rw[<- hW1] at b1 k3;have b2:=ah W1 (.cells #[.slice CA cols.length cc] 28);have k4:=aC.new W1 28 #[.slice CA cols.length cc];obtain⟨W2,hW2⟩:∃W2,W2=W1.alloc (.cells #[.slice CA cols.length cc] 28):=⟨_,rfl⟩;have s2:W2.heap.size=W1.heap.size+1:=by rw[hW2,World.size_alloc]
 rw[<- hW2] at b2 k4;have b3:=ah W2 (.cells #[az,az,af 0] 33);have HX:=aC.new W2 33 #[az,az,af 0];obtain⟨W3,hW3⟩:∃W3,W3=W2.alloc (.cells #[az,az,af 0] 33):=⟨_,rfl⟩;rw[<- hW3] at b3 HX;have hb:=ai.then (ai.then b1 b2) b3;have K2:=aa (show aC W3 w0.heap.size 27 (fW q L)from(k3.later b2).later b3);have K3:=aa (show aC W3 W1.heap.size 28 #[.slice CA cols.length cc] from k4.later b3);have K6:=aa HX;have HB:=aa hb;have HQ:=aa (hq.later hb);have xp:=aa (show w0.heap.size<=W2.heap.size by omega);have y0:=K2.ae.cell 0;have y1:=K2.ae.cell 1;have y2:=K2.ae.cell 2;have y3:=K2.ae.cell 3;have y4:=K2.ae.cell 4;have y5:=K2.ae.cell 5;have y6:=K2.ae.cell 6;have c7:=K2.ae.cell 7;have d0:=K3.ae.cell 0;unfold fW at y0 y1 y2 y3 y4 y5 y6 c7;simp only[Uaa] at y0 y1 y2 y3 y4 y5 y6 c7 d0;subst hW2;subst hW1;obtain⟨g3,hg3⟩:∃g3,g3=w0.heap.size:=⟨_,rfl⟩;have vq:=aa hg3;have hpl:=Rh q L CA cc cols W3 HQ.ae.qy HQ.ae.ok HQ.ae.cl HQ.ae.pl;unfold tJ at hpl;have Pu:=aa hpl;have WJ:=aa hq;clear hq b1 b2 b3 k3 k4 HX hb s1 s2 hg3 hpl;unfold fW at hW3;simp only[World.size_alloc] at y0 y1 y2 y3 y4 y5 y6 c7 d0 K3 K6 xp;simp only[ez,fA,Tryz.f11,Option.getD_some];refine wp_seq_k λ K hK=>?_
 have DY:=aa hK;clear hK;go_wp2_with fail;refine DY.ae _ _ ?_;clear DY;rw[<- hW3];have JF:=aa hW3;clear hW3;obtain⟨g4,hg4⟩:∃g4,g4=w0.heap.size+1:=⟨_,rfl⟩;obtain⟨g6,rZ⟩:∃g6,g6=w0.heap.size+1+1:=⟨_,rfl⟩;obtain⟨g3,hg3⟩:∃g3,g3=w0.heap.size:=⟨_,rfl⟩;have auO:=aa (show w0.heap.size<=g6 by omega);rw[<- rZ] at K6 ⊢;rw[<- hg4] at d0 K3 ⊢;rw[<- hg3] at y0 y1 y2 y3 y4 y5 y6 c7 K2 ⊢;clear hg3 hg4 rZ xp vq JF;refine wp_seq_k λ Kx oZ=>?_
 have Hs:=aa oZ;clear oZ;go_wp2_with fail;clear y0 y1 y2 y3 y4 y5 y6 c7 d0;refine Pu.ae.mono ?_;intro e W hp;unfold JK at hp;have ko:=aa (acX q cols (rows.map (·.l)))
 cases q3:ew q cols with
 | error er=>
   rw[q3] at hp;obtain⟨hne,rfl,q4⟩:=hp;have HR:=aa (show pD q cols (rows.map (·.l))=.error er by rw[ko.ae,q3]);have t1:(er != 0)=true:=by simp[hne]
   have nV:=aa hne;have HX:=K6.ae.later q4;have HK:=aa HX
   have z0:=HX.cell 0;have z1:=HX.cell 1;have x2:=HX.cell 2;have f0:=HX.frozen 0;have f1:=HX.frozen 1;have f2:=HX.frozen 2;simp only[Uaa] at z0 z1 x2
   have Q4:=aa (Below.trans HB.ae (q4.mono HB.ae.size));clear q3 hne HX q4;go_wp2_with fail;refine Hs.ae _ _ ?_;clear Hs;refine wp_seq_k λ K1 hK1=>?_
   clear hK1;go_wp2_with fail;refine⟨rfl,_,JN rfl rfl (((HK.ae.aW 0 _).aW 1 _).aW 2 _),?_⟩;unfold DU;rw[HR.ae];exact⟨Below.trans Q4.ae ((pY HK.ae).mono Q4.ae.size),nV.ae,rfl⟩
 | ok p=>
   rw[q3] at hp;obtain⟨gp,r,u,v,ya,yi,yh,yo,rfl,ain⟩:=hp;have Q6:=HQ.ae;obtain⟨yg,AA,ac,VA,vc,HA,hc,IA,ic,JA,jc,DA,dc,hF,ih⟩:=N6 ain Q6.pl;have q1:=acO q3 Q6.pl.qi Q6.pl.qh Q6.pl.qo;obtain⟨q2,_⟩:=Di q3;have q4:=ain.base;have HF:=aa hF;have IH:=aa ih;have Q1:=aa q1;have HH:=aa q2;have Q3:=aa q3;have Q4:=aa q4;have BN:=aa (Below.trans HB.ae (q4.mono HB.ae.size));have tR:=aa (K2.ae.later q4);have wP:=aa (K3.ae.later q4);have HK:=aa (K6.ae.later q4);have Ss:=aa (Q6.later q4);clear q3 ain Q6 hF ih q1 q2 q4;go_wp2_with fail;refine Hs.ae _ _ ?_
   clear Hs;refine wp_seq_k λ K1 hK1=>?_
   have nM:=aa hK1;clear hK1;go_wp2_with fail;refine nM.ae _ _ ?_;clear nM;refine wp_seq_k λ K2 hK2=>?_
   have IM:=aa hK2;clear hK2
   have d0:=wP.ae.cell 0;simp only[getElem?_toArray,getElem?_cons_zero] at d0;go_wp2_with fail;refine(Nb g4 cols CA cc rows RA rc W wP.ae.lt d0 (by have:=Ss.ae.cl;omega) (by have:=Ss.ae.rn;omega) (λ x q3=>by have:=(Ss.ae.each x q3).1;omega) Ss.ae.pl.ok.cols Ss.ae.rr).mono ?_;rintro e w2 ⟨rfl,b2⟩;have fH:=aa b2;have apj:((rows.map (·.l)).any λ r=> !ib cols r)=(rows.any λ r=> !ib cols r.l):=by rw[any_map];rfl
   have apk:=aa apj;have apl:=aa (Below.trans BN.ae (b2.mono BN.ae.size));have K62:=aa (HK.ae.later b2);clear b2 apj d0
   cases pO:(rows.any λ r=> !ib cols r.l)with
   | true=>have HR:=aa (show pD q cols (rows.map (·.l))=.error 40 by rw[ko.ae,Q3.ae];dsimp only;rw[apk.ae,pO,if_pos rfl]);open zh7 in exact Zfk
   | false=>
     have HR:=aa (show pD q cols (rows.map (·.l))=(match xh q p cols (dx cols q.cK (rows.map (·.l))).2 (dx cols q.cK (rows.map (·.l))).1 with | .error e=> .error e | .ok la=> .ok (p.head,la)) by rw[ko.ae,Q3.ae];dsimp only;rw[apk.ae,pO,if_neg Taa];try(try(generalize xh q p cols _ _=z;cases z <;> rfl)));clear pO;go_wp2_with fail;refine IM.ae _ _ ?_;clear IM;refine wp_seq_k λ K3 hK3=>?_
     have CY:=aa hK3;clear hK3;have zu:=aa (Ss.ae.later fH.ae);obtain⟨yw,cb,hR,VQ⟩:=N0 zu.ae.pl.iw;have y3:=(tR.ae.later fH.ae).cell 3;have d0:=(wP.ae.later fH.ae).cell 0;unfold fW at y3;simp only[Uaa] at y3 d0;rw[cb] at y3;have yr:=aa hR;have GU:=aa VQ;clear hR VQ cb;go_wp2_with fail;clear y3 d0;have hyl:yw.length=q.cK.length:=(dY GU.ae).symm;refine(Tp cols CA cc q.cK yw L.w.A L.w.c rows RA rc w2 (by have:=zu.ae.cl;omega) (by have:=zu.ae.rn;omega) (λ x q3=>⟨by have:=(zu.ae.each x q3).1;omega,(zu.ae.each x q3).2⟩) zu.ae.pl.qw GU.ae (by rw[hyl];have:=zu.ae.nw;omega) yr.ae zu.ae.pl.ok.cols zu.ae.rr).mono ?_;rintro e w3 ⟨v3,rfl,ho3,b3⟩;have TJ:=aa ho3;have tP:=aa b3;have WM:=aa (M9 cols q.cK rows);have JQ:=aa (Below.trans fH.ae (b3.mono fH.ae.size));clear ho3 b3 hyl;obtain⟨e0,hK4⟩:∃e0,e0=(dx cols q.cK (rows.map (·.l))).2:=⟨_,rfl⟩;rw[<- hK4] at HR ⊢;rw[<- WM.ae] at HR;clear hK4;go_wp2_with fail;refine CY.ae _ _ ?_;clear CY;refine wp_seq_k λ K5 hK5=>?_
     have HK5:=aa hK5;clear hK5;have d0:=(wP.ae.later JQ.ae).cell 0;simp only[getElem?_toArray,getElem?_cons_zero] at d0;go_wp2_with fail;refine HK5.ae _ _ ?_;clear HK5 d0;have aBM:=aa (Below.trans Q4.ae (JQ.ae.mono Q4.ae.size));have auP:=aa (HF.ae.later JQ.ae);have auQ:=aa (Below.trans BN.ae (JQ.ae.mono BN.ae.size));have zQ:(jq (fI cols q.cK) rows).length<=300:=Nat.le_trans (length_filter_le _ _) HQ.ae.rn;have acW:∀x∈jq (fI cols q.cK) rows,xg w3 x:=λ x q3=>by have q3:=(List.mem_filter.1 q3).1;obtain⟨i,hi,he⟩:=getElem_of_mem q3;obtain⟨_,_,_,_,_,hv⟩:=zu.ae.rr.at_ hi;rw[he] at hv;have hv3:RV w3 w3.heap.size x.A x.l:=hv.later tP.ae;exact⟨hv3,HQ.ae.each x q3⟩
     have hsm:=HQ.ae.sm (JO Q3.ae);have hln:=Q1.ae.ln
     have Km:=λ T hT a3 a6 a8 a9 FN C1=>O1 w0 g3 g6 gp q L p cols CA cc yg ya yi yh yo AA ac VA vc HA hc IA ic JA jc DA dc e0 (jq (fI cols q.cK) rows) w2.heap.size v3 T hT a3 a6 a8 a9 FN C1 [] w3 (bodyPost Tryz.prog Tryz.f11 (DU q cols (rows.map (·.l)) w0)) auP.ae Q1.ae HH.ae HQ.ae.pl.qg HQ.ae.ng WC WC (by have:=HQ.ae.cl;omega) (by rw[Q1.ae.lh];have:=HQ.ae.nh;omega) HQ.ae.ni HQ.ae.no WJ.ae.pl.io WJ.ae.qy.l (λ n hn=>⟨O6 Q3.ae n hn,HQ.ae.lim n hn⟩) (Wm Q3.ae) auQ.ae (tR.ae.later JQ.ae) (HK.ae.later JQ.ae) auO.ae TJ.ae acW zQ
      (λ er hr hne a W e1 e2 e3 HX q4=>⟨e1,_,JN e2 e3 HX,by
        unfold DU
        rw[HR.ae,hr]
        exact⟨q4,hne,rfl⟩⟩)
      (λ la hr a W ov out e1 e2 e3 HX oW hk zE q4 gW=>⟨e1,_,JN e2 e3 HX,by
        unfold DU
        rw[HR.ae,hr]
        have hlen:out.length=la.length:=by rw[<- zE,length_map]
        rw[hlen]
        have hh:=(IH.ae.later JQ.ae).grown gW ((IH.ae.later JQ.ae).other (HK.ae.later JQ.ae) Taa)
        exact⟨q4,HA,hc,ov,out,rfl,hh.down HB.ae.size,oW,hk,zE⟩⟩)
     simp only[ez,fA,Tryz.f11,Option.getD_some] at Km;exact Km _ rfl rfl rfl rfl rfl rfl rfl
theorem zjH.KcM(h:p:=by
 have t2:T.getD 2 undef=.slice RA rows.length rc:=by rw[Kj];simp[Array.getD_eq_getD_getElem?]
 clear Kj;exact adb q L CA cc cols RA rc rows T hT t0 t1 t2 w0 hq):p:=h
theorem JR (q:Qy)(L:QL)(CA:Option Addr)(cc:Nat)(cols:List aZ)(RA:Option Addr)(rc:Nat)(rows:List aN)(w0:World)(hq:JP w0 q L CA cc cols RA rows):
  ar 11 #[tJ q L,.slice CA cols.length cc,.slice RA rows.length rc] w0 (DU q cols (rows.map (·.l)) w0):=by
 refine calls_of_wp Tryz.func11 acZ ?_;obtain⟨T,Kj⟩:∃T:Array Value,T= #[tJ q L,.slice CA cols.length cc,.slice RA rows.length rc]++Array.replicate (Tryz.f11.ntmps - (#[tJ q L,.slice CA cols.length cc,.slice RA rows.length rc]:Array Value).size) undef:=⟨_,rfl⟩;rw[<- Kj];have hT:T.size=183:=by rw[Kj];exact ada _ _ _
 open zjH in exact Ziz
mutual
def Tr.small:Tr->Prop
 | .mk op v name width args=>name.size<=1048576/\v.s.size<=1048576/\Tr.smalls args
def Tr.smalls:List Tr->Prop
 | []=>True
 | t::ts=>t.small/\Tr.smalls ts
end
theorem jP (a b:List Tr):Tr.aY (a++b)=Tr.aY a+Tr.aY b:=by rw[gh,gh,gh,map_append,sum_append]
theorem DV (q:Qy):Tr.aY q.all=Tr.aY (q.items.map (·.1))+(Tr.aY q.cK+Tr.aY q.aL+Tr.aY q.ft)+Tr.aY (q.ord.map (·.1)):=by unfold Qy.all;rw[jP,jP,jP,jP]
structure Few (q:Qy):Prop where
 g:q.aL.length<=40
 w:q.cK.length<=40
 h:q.ft.length<=40
 i:q.items.length<=40
 o:q.ord.length<=40
 nodes:Tr.aY q.all<=320
 lim:∀n∈q.lim,n<=9223372036854775807
structure CR (w:World) (CA:Option Addr) (cols:List aZ) (RA:Option Addr) (rows:List aN):Prop where
 env:zW w
 cr:RC w w.heap.size CA cols
 cl:cols.length<=20
 rr:RR w w.heap.size RA rows
 rn:rows.length<=100
 each:∀r∈rows,r.l.length<=30/\∀v∈r.l,v.Ok
theorem CR.later{w:World}    (h:CR w CA cols RA rows)(hb:aj w w'):CR w' CA cols RA rows:=
 ⟨h.env.later hb,h.cr.later hb,h.cl,h.rr.later hb,h.rn,h.each⟩
theorem tG{w:World}   (cc:Nat)   (Ki:rD w q L)(ok:q.Ok)(f:Few q)(c:CR w CA cols RA rows):JP w q L CA cc cols RA rows:=by have hn:=f.nodes;rw[DV] at hn;have h1:=f.g;have h2:=f.w;have h3:=f.h;have h4:=f.i;have h5:=f.o;have h6:=c.cl;have h7:=c.rn;refine⟨Ki,ok,⟨⟨c.env,Ki.g,ok.g,by show q.aL.length<=1000000;omega,c.cr,by show cols.length<=1000000;omega⟩,ok.w,Ki.w,by omega,ok.g,Ki.g,by omega,ok.i,Ki.i,by omega,by omega,ok.h,Ki.h,by omega,ok.o,Ki.o,by omega,λ _=>by omega⟩,by omega,c.rr,λ r hr=>⟨by have:=(c.each r hr).1;omega,(c.each r hr).2⟩,by omega,by omega,by omega,by omega,by omega,by omega,λ _=>by omega,f.lim⟩
def apm (w:World)(hd:List aZ)(la:List (List Val))(e:Ending)(w':World):Prop:=∃HA hc OA oc out,e=.returned (.tuple #[.agg #[.slice HA hd.length hc,.slice OA (List.length out) oc,af la.length],af 0])/\RC w' w'.heap.size HA hd/\RR w' w'.heap.size OA out/\out.map (·.l)=la/\aj w w'
variable{hd:List aZ}{la:List (List Val)}
theorem Rl{w:World}      (rc:Nat) (h:JP w q L CA cc cols RA rows)  (hr:pD q cols (rows.map (·.l))=.ok (hd,la)):
  ar 11 #[tJ q L,.slice CA cols.length cc,.slice RA rows.length rc] w (apm w hd la):=by
 refine(JR q L CA cc cols RA rc rows w h).mono ?_;rintro e w1 ⟨hb,hk⟩;rw[hr] at hk;obtain⟨HA,hc,ov,out,rfl,h1,h2,h3,h4⟩:=hk;obtain⟨OA,oc,rfl,h5⟩:=He h2 λ r hr=>(h3 r hr).rv
 obtain⟨A',c',h6,h7⟩:=xf h1;injection h6 with e1 e2 e3;subst e1;exact⟨HA,hc,OA,oc,out,rfl,h7,h5,h4,hb⟩
variable{er:Int}
theorem ade{w:World}      (rc:Nat) (h:JP w q L CA cc cols RA rows) (hr:pD q cols (rows.map (·.l))=.error er):
  ar 11 #[tJ q L,.slice CA cols.length cc,.slice RA rows.length rc] w λ e w'=>er≠0/\e=.returned (.tuple #[.agg #[az,az,af 0],af er])/\aj w w':=by refine(JR q L CA cc cols RA rc rows w h).mono ?_;rintro e w1 ⟨hb,hk⟩;rw[hr] at hk;exact⟨hk.1,hk.2,hb⟩
theorem aio:(fl R.Xh).Ok:=by refine⟨?_,?_,?_,?_,?_,by decide,by decide,by decide,by decide,by decide⟩<;> simp[R.Xh,fl,gL,qD,Tr.cP,Tr.ok,Val.Ok,Gk,R.sq,R.kV,R.kT,R.AJ,R.uC,R.tL,R.jF]
theorem adf:Few (fl R.Xh):=by refine⟨by decide,by decide,by decide,by decide,by decide,by decide,?_⟩;intro n hn;simp[R.Xh,fl] at hn
theorem aip:(fl R.Xi).Ok:=by refine⟨?_,?_,?_,?_,?_,by decide,by decide,by decide,by decide,by decide⟩<;> simp[R.Xi,fl,gL,qD,Tr.cP,Tr.ok,Val.Ok,Gk,R.sq,R.kV,R.kT,R.AJ,R.uC,R.tL,R.jF]
theorem adg:Few (fl R.Xi):=by refine⟨by decide,by decide,by decide,by decide,by decide,by decide,?_⟩;intro n hn;simp[R.Xi,fl] at hn;omega
theorem aiq:(fl R.G6).Ok:=by refine⟨?_,?_,?_,?_,?_,by decide,by decide,by decide,by decide,by decide⟩<;> simp[R.G6,fl,gL,qD,Tr.cP,Tr.ok,Val.Ok,Gk,R.sq,R.kV,R.kT,R.AJ,R.uC,R.tL,R.jF]
theorem adh:Few (fl R.G6):=by refine⟨by decide,by decide,by decide,by decide,by decide,by decide,?_⟩;intro n hn;simp[R.G6,fl] at hn
theorem air:(fl R.Xj).Ok:=by refine⟨?_,?_,?_,?_,?_,by decide,by decide,by decide,by decide,by decide⟩<;> simp[R.Xj,fl,gL,qD,Tr.cP,Tr.ok,Val.Ok,Gk,R.sq,R.kV,R.kT,R.AJ,R.uC,R.tL,R.jF]
theorem adi:Few (fl R.Xj):=by refine⟨by decide,by decide,by decide,by decide,by decide,by decide,?_⟩;intro n hn;simp[R.Xj,fl] at hn
theorem O7{w:World}  (hE:zW w)(h1:RC w w.heap.size CA mC)(h2:RR w w.heap.size RA rs)(h3:rs.map (·.l)=wV):CR w CA mC RA rs:=by
 have hl:rs.length=3:=by have:=congrArg List.length h3;simpa [wV] using this
 refine⟨hE,h1,by decide,h2,by omega,λ r hr=>?_⟩;have hm:r.l∈wV:=by rw[<- h3];exact List.mem_map.2 ⟨r,hr,rfl⟩
 simp only[wV,mem_cons,not_mem_nil,or_false] at hm;rcases hm with h | h | h <;> rw[h] <;> refine⟨by decide,λ v hv=>?_⟩<;> simp only[mem_cons,not_mem_nil,or_false] at hv <;> rcases hv with rfl | rfl <;> exact⟨by decide,by decide⟩
variable{out:List aN}
theorem vk(h:out.map (·.l)=la)(h1:la.length<=1000)(h2:∀r∈la,r.length<=1000):out.length<=1000/\∀r∈out,r.l.length<=1000:=by subst h;exact⟨by simpa using h1,λ r hr=>h2 _ (List.mem_map.2 ⟨r,hr,rfl⟩)⟩
theorem ais{w:World} {g:Nat} {a:Int}(h:aC w g 44 #[ag 2,af a,au]):RV w w.heap.size (some ⟨g,0,none⟩) [num a]:=by
 refine .inr ⟨_,0,rfl,h.lt,λ i x hx=>?_⟩
 match i,hx with
 | 0,hx=>exact Zh6
 | n+1,hx=>cases hx
variable{x z:Int}
theorem O8(OA:Option Addr)(oc:Nat)(out:List aN)(g a b:Nat) {y u:Int}(w:World)(ho:RR w w.heap.size OA out)(hm:out.map (·.l)=[[num x,num y],[num z,num u]])(hs:out.length<=1000/\∀r∈out,r.l.length<=1000)(k0:aC w g 38 #[aF a 2 2,aF b 2 2])(k1:aC w a 44 #[ag 2,af x,au,ag 2,af y,au])(k2:aC w b 44 #[ag 2,af z,au,ag 2,af u,au]):
  ar 26 #[.slice OA out.length oc,aF g 2 2] w λ e w'=>e=.returned (.bool true)/\aj w w':=by
 refine DT OA oc out (some ⟨g,0,none⟩) 2 [⟨some ⟨a,0,none⟩,[num x,num y],2⟩,⟨some ⟨b,0,none⟩,[num z,num u],2⟩] w ho ?_ hm hs.1 hs.2;refine .inr ⟨_,0,rfl,k0.lt,λ i r hx=>?_⟩
 match i,hx with
 | 0,hx=>injection hx with hx;subst hx;exact⟨k0.cell 0,Dt k1⟩
 | 1,hx=>injection hx with hx;subst hx;exact⟨k0.cell 1,Dt k2⟩
 | n+2,hx=>cases hx
theorem Ns(OA:Option Addr)(oc:Nat)(out:List aN)(g a:Nat) (w:World)(ho:RR w w.heap.size OA out)(hm:out.map (·.l)=[[num x]])(hs:out.length<=1000/\∀r∈out,r.l.length<=1000)(k0:aC w g 38 #[aF a 1 1])(k1:aC w a 44 #[ag 2,af x,au]):
  ar 26 #[.slice OA out.length oc,aF g 1 1] w λ e w'=>e=.returned (.bool true)/\aj w w':=by
 refine DT OA oc out (some ⟨g,0,none⟩) 1 [⟨some ⟨a,0,none⟩,[num x],1⟩] w ho ?_ hm hs.1 hs.2;refine .inr ⟨_,0,rfl,k0.lt,λ i r hx=>?_⟩
 match i,hx with
 | 0,hx=>injection hx with hx;subst hx;exact⟨k0.cell 0,ais k1⟩
 | n+1,hx=>cases hx
def wkV (qa qb qd:Nat)(V2:Option Addr)(n0 V3:Nat)(V5:Option Addr)(n1 V6:Nat)(V7:Option Addr)(n3 V8:Nat):Nat->World->Value->Prop
 | 0,_,v=>v=af 0
 | 1,_,v=>v=.bool true
 | 2,_,v=>v=.bool true
 | 3,_,v=>v=bj qa 1
 | 4,_,v=>v=.slice V2 n0 V3
 | 5,_,v=>v=.agg #[ag 2,af 0,au]
 | 6,_,v=>v=.agg #[ag 2,af 12,au]
 | 7,w,v=>∃g:Nat,v=aF g 2 2/\aC w g 44 #[ag 2,af 0,au,ag 2,af 12,au]
 | 8,_,v=>v=.agg #[ag 2,af 5,au]
 | 9,_,v=>v=.agg #[ag 2,af 1,au]
 | 10,w,v=>∃g:Nat,v=aF g 2 2/\aC w g 44 #[ag 2,af 5,au,ag 2,af 1,au]
 | 11,w,v=>∃g a b:Nat,v=aF g 2 2/\aC w g 38 #[aF a 2 2,aF b 2 2]/\aC w a 44 #[ag 2,af 0,au,ag 2,af 12,au]/\aC w b 44 #[ag 2,af 5,au,ag 2,af 1,au]
 | 12,_,v=>v=.bool true
 | 13,_,v=>v=.bool true
 | 14,_,v=>v=.bool true
 | 15,_,v=>v=af 0
 | 16,_,v=>v=.bool true
 | 17,_,v=>v=.bool true
 | 18,_,v=>v=.bool true
 | 19,_,v=>v=bj qb 2
 | 20,_,v=>v=af 1
 | 21,_,v=>v=.bool true
 | 22,_,v=>v=.bool true
 | 23,_,v=>v=.bool true
 | 24,_,v=>v=bj qb 1
 | 25,_,v=>v=.slice V5 n1 V6
 | 26,_,v=>v=.agg #[ag 2,af 7,au]
 | 27,w,v=>∃g:Nat,v=aF g 1 1/\aC w g 44 #[ag 2,af 7,au]
 | 28,w,v=>∃g a:Nat,v=aF g 1 1/\aC w g 38 #[aF a 1 1]/\aC w a 44 #[ag 2,af 7,au]
 | 29,_,v=>v=.bool true
 | 30,_,v=>v=.bool true
 | 31,_,v=>v=.bool true
 | 32,_,v=>v=af 42
 | 33,_,v=>v=.bool true
 | 34,_,v=>v=.bool true
 | 35,_,v=>v=.bool true
 | 36,_,v=>v=af 0
 | 37,_,v=>v=.bool true
 | 38,_,v=>v=.bool true
 | 39,_,v=>v=.bool true
 | 40,_,v=>v=bj qd 1
 | 41,_,v=>v=.slice V7 n3 V8
 | 42,_,v=>v=.agg #[ag 2,af 0,au]
 | 43,w,v=>∃g:Nat,v=aF g 1 1/\aC w g 44 #[ag 2,af 0,au]
 | 44,w,v=>∃g a:Nat,v=aF g 1 1/\aC w g 38 #[aF a 1 1]/\aC w a 44 #[ag 2,af 0,au]
 | 45,_,v=>v=.bool true
 | 46,_,v=>v=.bool true
 | _,_,_=>False
theorem Wo (qa qb qd:Nat)(V2:Option Addr)(n0 V3:Nat)(V5:Option Addr)(n1 V6:Nat)(V7:Option Addr)(n3 V8:Nat):∀i w w' v,wkV qa qb qd V2 n0 V3 V5 n1 V6 V7 n3 V8 i w v->ai w w'->wkV qa qb qd V2 n0 V3 V5 n1 V6 V7 n3 V8 i w' v:=by
 intro i w w' v h hl
 match i with
 | 0 | 1 | 2 | 3 | 4 | 5 | 6 | 8 | 9 | 12 | 13 | 14 | 15 | 16 | 17 | 18 | 19 | 20 | 21 | 22 | 23 | 24 | 25 | 26 | 29 | 30 | 31 | 32 | 33 | 34 | 35 | 36 | 37 | 38 | 39 | 40 | 41 | 42 | 45 | 46=>exact h
 | 7=>exact Zfy
 | 10=>exact Zfy
 | 11=>obtain⟨g,a,b,h1,f0,f1,f2⟩:=h;exact⟨g,a,b,h1,f0.later hl,f1.later hl,f2.later hl⟩
 | 27=>exact Zfy
 | 28=>exact ZhX
 | 43=>exact Zfy
 | 44=>exact ZhX
 | n+47=>exact h
theorem zeL.KaV(h:p:=by have h0:_=_:=hr.1;have c0:=(K1.ae.later hL).cell 1;exact Za0):p:=h
theorem zeM.KaV(h:p:=by exact Ze1):p:=h
theorem zeN.KaV(h:p:=by have e1:=hc.func 27;have e2:=hc.const (af 12);refine bD (f:=27) (args:= #[af 12]) (w':=W4) TaB ?_;refine(fD 12 W4).mono ?_;exact Zbs):p:=h
theorem zeO.KaV(h:p:=by have h0:_=_:=hr.1;have h1:_=_:=hr.2.1;exact aq (v:=aF W4.heap.size 2 2) (w':=W4.alloc (.cells #[ag 2,af 0,au,ag 2,af 12,au] 44)) Tav ⟨ah W4 _,⟨_,rfl,aC.new W4 _ _⟩⟩):p:=h
theorem zeP.KaV(h:p:=by have e1:=hc.func 27;have e2:=hc.const (af 5);refine bD (f:=27) (args:= #[af 5]) (w':=W4) TaB ?_;refine(fD 5 W4).mono ?_;exact Zbs):p:=h
theorem zeQ.KaV(h:p:=by have e1:=hc.func 27;have e2:=hc.const (af 1);refine bD (f:=27) (args:= #[af 1]) (w':=W4) TaB ?_;refine(fD 1 W4).mono ?_;exact Zbs):p:=h
theorem zeR.KaV(h:p:=by have h0:_=_:=hr.1;have h1:_=_:=hr.2.1;exact aq (v:=aF W4.heap.size 2 2) (w':=W4.alloc (.cells #[ag 2,af 5,au,ag 2,af 1,au] 44)) Tav ⟨ah W4 _,⟨_,rfl,aC.new W4 _ _⟩⟩):p:=h
theorem zeS.KaV(h:p:=by obtain⟨g0,h0,fQ⟩:∃g:Nat,ρ (.tmp 50)=aF g 2 2/\aC W4 g 44 #[ag 2,af 0,au,ag 2,af 12,au]:=hr.1;obtain⟨g1,h1,uS⟩:∃g:Nat,ρ (.tmp 53)=aF g 2 2/\aC W4 g 44 #[ag 2,af 5,au,ag 2,af 1,au]:=hr.2.1;exact aq (v:=aF W4.heap.size 2 2) (w':=W4.alloc (.cells #[aF g0 2 2,aF g1 2 2] 38)) Tav ⟨ah W4 _,⟨W4.heap.size,g0,g1,rfl,aC.new W4 _ _,fQ.later (ah _ _),uS.later (ah _ _)⟩⟩):p:=h
theorem zeT.KaV(h:p:=by have h0:_=_:=hr.1;obtain⟨g1,a1,b1,h1,uS,Jl,auS⟩:∃g a b:Nat,ρ (.tmp 54)=aF g 2 2/\aC W4 g 38 #[aF a 2 2,aF b 2 2]/\aC W4 a 44 #[ag 2,af 0,au,ag 2,af 12,au]/\aC W4 b 44 #[ag 2,af 5,au,ag 2,af 1,au]:=hr.2.1;have e1:=hc.func 26;refine bD (f:=26) (args:= #[.slice V2 P0.length V3,aF g1 2 2]) (w':=W4) Tar ?_;refine(O8 V2 V3 P0 g1 a1 b1 W4 (HK.ae.later hL) HM0.ae HS0.ae uS Jl auS).mono ?_;exact Zbs):p:=h
theorem zgG.KbA(h:p:=by have h0:_=_:=hr.1;have c0:=(K3.ae.later hL).cell 1;exact Za0):p:=h
theorem zgH.KbA(h:p:=by have e1:=hc.func 27;have e2:=hc.const (af 7);refine bD (f:=27) (args:= #[af 7]) (w':=W4) TaB ?_;refine(fD 7 W4).mono ?_;exact Zbs):p:=h
theorem zgI.KbA(h:p:=by have h0:_=_:=hr.1;exact aq (v:=aF W4.heap.size 1 1) (w':=W4.alloc (.cells #[ag 2,af 7,au] 44)) Taq ⟨ah W4 _,⟨_,rfl,aC.new W4 _ _⟩⟩):p:=h
theorem zgJ.KbA(h:p:=by obtain⟨g0,h0,fQ⟩:∃g:Nat,ρ (.tmp 70)=aF g 1 1/\aC W4 g 44 #[ag 2,af 7,au]:=hr.1;exact ZeU):p:=h
theorem zgK.KbA(h:p:=by have h0:_=_:=hr.1;obtain⟨g1,a1,h1,uS,Jl⟩:∃g a:Nat,ρ (.tmp 71)=aF g 1 1/\aC W4 g 38 #[aF a 1 1]/\aC W4 a 44 #[ag 2,af 7,au]:=hr.2.1;have e1:=hc.func 26;refine bD (f:=26) (args:= #[.slice V5 P3.length V6,aF g1 1 1]) (w':=W4) Tar ?_;refine(Ns V5 V6 P3 g1 a1 W4 (K2.ae.later hL) HM1.ae lg.ae uS Jl).mono ?_;exact Zbs):p:=h
theorem zgL.KbB(h:p:=by have h0:_=_:=hr.1;have c0:=(R3.ae.later hL).cell 1;exact Za0):p:=h
theorem zgM.KbB(h:p:=by exact Ze1):p:=h
theorem zgN.KbB(h:p:=by have h0:_=_:=hr.1;exact aq (v:=aF W4.heap.size 1 1) (w':=W4.alloc (.cells #[ag 2,af 0,au] 44)) Taq ⟨ah W4 _,⟨_,rfl,aC.new W4 _ _⟩⟩):p:=h
theorem zgO.KbB(h:p:=by obtain⟨g0,h0,fQ⟩:∃g:Nat,ρ (.tmp 86)=aF g 1 1/\aC W4 g 44 #[ag 2,af 0,au]:=hr.1;exact ZeU):p:=h
theorem zgP.KbB(h:p:=by have h0:_=_:=hr.1;obtain⟨g1,a1,h1,uS,Jl⟩:∃g a:Nat,ρ (.tmp 87)=aF g 1 1/\aC W4 g 38 #[aF a 1 1]/\aC W4 a 44 #[ag 2,af 0,au]:=hr.2.1;have e1:=hc.func 26;refine bD (f:=26) (args:= #[.slice V7 P5.length V8,aF g1 1 1]) (w':=W4) Tar ?_;refine(Ns V7 V8 P5 g1 a1 W4 (TJ.ae.later hL) HM3.ae HS3.ae uS Jl).mono ?_;exact Zbs):p:=h
theorem zjL.KcO(h:p:=by
 have O9:=aa (tG cc hq aiq adh HO.ae);clear hq b1;go_wp2_with fail;refine(ade rc O9.ae (by rw[Kx.ae];exact abW)).mono ?_;rintro e4 w4 ⟨_,rfl,hB⟩;replace HO:=aa (HO.ae.later hB);replace HK:=aa (HK.ae.later hB);replace K1:=aa (K1.ae.later hB);replace K2:=aa (K2.ae.later hB);replace K3:=aa (K3.ae.later hB);replace HB:=aa (ai.then HB.ae hB);clear hB O9;go_wp2_with fail;have b3:=ah w4 (.cells #[az,az,af 0] 33);have R2:=aa (aC.new w4 33 #[az,az,af 0]);replace HB:=aa (ai.then HB.ae b3);replace HO:=aa (HO.ae.later b3);replace HK:=aa (HK.ae.later b3);replace K1:=aa (K1.ae.later b3);replace K2:=aa (K2.ae.later b3);replace K3:=aa (K3.ae.later b3);clear b3;generalize w4.alloc _=wz3 at*;generalize w4.heap.size=qc at*;refine(tE t3B R.Xj Taa aoc _).mono ?_;rintro e4 wa ⟨L,rfl,hq,b1⟩;replace HO:=aa (HO.ae.later b1);replace HK:=aa (HK.ae.later b1);replace K1:=aa (K1.ae.later b1);replace K2:=aa (K2.ae.later b1);replace K3:=aa (K3.ae.later b1);replace R2:=aa (R2.ae.later b1);replace HB:=aa (ai.then HB.ae b1);have O9:=aa (tG cc hq air adi HO.ae);clear hq b1;go_wp2_with fail;refine(Rl rc O9.ae (by rw[Kx.ae];exact abY)).mono ?_;rintro e4 w5 ⟨IV,hc3,V7,V8,P5,rfl,_,ho,he,hB⟩;replace HO:=aa (HO.ae.later hB);replace HK:=aa (HK.ae.later hB);replace K1:=aa (K1.ae.later hB);replace K2:=aa (K2.ae.later hB);replace K3:=aa (K3.ae.later hB);replace R2:=aa (R2.ae.later hB);replace HB:=aa (ai.then HB.ae hB);have TJ:=aa ho;have HM3:=aa he;have HS3:=aa (vk he Taa Taa);clear ho he hB O9;go_upto_region 6 with fail
 have b3:=ah w5 (.cells #[.slice IV QO.length hc3,.slice V7 P5.length V8,af 1] 33);have R3:=aa (aC.new w5 33 #[.slice IV QO.length hc3,.slice V7 P5.length V8,af 1]);replace HB:=aa (ai.then HB.ae b3);replace HO:=aa (HO.ae.later b3);replace HK:=aa (HK.ae.later b3);replace K1:=aa (K1.ae.later b3);replace K2:=aa (K2.ae.later b3);replace K3:=aa (K3.ae.later b3);replace R2:=aa (R2.ae.later b3);replace TJ:=aa (TJ.ae.later b3);clear b3;generalize w5.alloc _=W9 at*;generalize w5.heap.size=qd at*;refine bC 47 (wkV qa qb qd V2 P0.length V3 V5 P3.length V6 V7 P5.length V8) (Wo _ _ _ _ _ _ _ _ _ _ _ _) Vx Vx Vx ?_ ?_
 ·simp only[take_succ_cons,take_zero];refine⟨Zab,Zab,Zab,?_,?_,?_,?_,?_,?_,?_,?_,?_,?_,Zex,Zab,ZhE,ZhE,Zex,Zab,ZhF,?_,ZhF,Zex,Zab,?_,?_,?_,?_,?_,?_,Zex,Zab,ZhG,ZhG,Zex,Zab,ZhH,ZhH,Zex,Zab,?_,?_,?_,?_,?_,?_,Zex,trivial⟩
  ·intro ρ W4 hc hL hr;intro hg;have hg:ρ (.tmp 45)=.bool true:=hg;exact Zao
  ·open zeL in exact Zch
  ·open zeM in exact Zch
  ·open zeN in exact Zch
  ·open zeO in exact Zch
  ·open zeP in exact Zch
  ·open zeQ in exact Zch
  ·open zeR in exact Zch
  ·open zeS in exact Zch
  ·open zeT in exact Zch
  ·intro ρ W4 hc hL hr;intro hg;have hg:ρ (.tmp 61)=.bool true:=hg;refine⟨λ _=>?_,λ hn=>absurd hg hn⟩;have h0:_=_:=hr.1;have c0:=(K3.ae.later hL).cell 2;exact Za0
  ·intro ρ W4 hc hL hr;intro hg;have hg:ρ (.tmp 66)=.bool true:=hg;exact Zao
  ·open zgG in exact Zec
  ·open zgH in exact Zec
  ·open zgI in exact Zec
  ·open zgJ in exact Zec
  ·open zgK in exact Zec
  ·intro ρ W4 hc hL hr;intro hg;have hg:ρ (.tmp 82)=.bool true:=hg;exact Zao
  ·open zgL in exact Zed
  ·open zgM in exact Zed
  ·open zgN in exact Zed
  ·open zgO in exact Zed
  ·open zgP in exact Zed
 intro W3 hL;simp only[Uab];rintro a0 - a1 - a2 - a3 - a4 - a5 - a6 - a7 - a8 - a9 - FN - C1 - a12 - a13 - a14 - a15 - a16 - a17 - a18 - a19 - a20 - a21 - a22 - a23 - a24 - a25 - a26 - a27 - a28 - a29 - a30 - a31 - a32 - a33 - a34 - a35 - a36 - a37 - a38 - a39 - a40 - a41 - a42 - a43 - a44 - a45 - _ rfl;simp only[bF,Act.put,Uac];have hb3:=ai.then HB.ae hL;clear hL;go_wp2_with fail;go_ret;exact⟨rfl,hb3⟩):p:=h
theorem yO (w:World)(hE:zW w):ar 10 #[] w λ e4 w'=>e4=.returned (.bool true)/\aj w w':=by
 have HE:=aa hE;clear hE;go_enter Tryz.func10,Tryz.ntmps10;go_wp2_with fail;refine(VE w).mono ?_;rintro e4 w1 ⟨CA,cc,RA,rc,rs,rfl,h1,h2,h3,b1⟩;have HO:=aa (O7 (HE.ae.later b1) h1 h2 h3);have Kx:=aa h3;have HB:=aa b1;clear h1 h2 h3 b1;go_wp2_with fail;refine(tE t0B R.Xh Taa anZ _).mono ?_;rintro e4 wa ⟨L,rfl,hq,b1⟩;replace HO:=aa (HO.ae.later b1);replace HB:=aa (ai.then HB.ae b1);have O9:=aa (tG cc hq aio adf HO.ae);clear hq b1;go_wp2_with fail;refine(Rl rc O9.ae (by rw[Kx.ae];exact abS)).mono ?_;rintro e4 w2 ⟨HA0,hc0,V2,V3,P0,rfl,_,ho,he,hB⟩;replace HO:=aa (HO.ae.later hB);replace HB:=aa (ai.then HB.ae hB);have HK:=aa ho;have HM0:=aa he;have HS0:=aa (vk he Taa Taa);clear ho he hB O9;go_wp2_with fail;have b3:=ah w2 (.cells #[.slice HA0 QM.length hc0,.slice V2 P0.length V3,af 2] 33);have K1:=aa (aC.new w2 33 #[.slice HA0 QM.length hc0,.slice V2 P0.length V3,af 2]);replace HB:=aa (ai.then HB.ae b3);replace HO:=aa (HO.ae.later b3);replace HK:=aa (HK.ae.later b3);clear b3;generalize w2.alloc _=wz1 at*;generalize w2.heap.size=qa at*;refine(tE t1B R.Xi Taa aoa _).mono ?_;rintro e4 wa ⟨L,rfl,hq,b1⟩;replace HO:=aa (HO.ae.later b1);replace HK:=aa (HK.ae.later b1);replace K1:=aa (K1.ae.later b1);replace HB:=aa (ai.then HB.ae b1);have O9:=aa (tG cc hq aip adg HO.ae);clear hq b1;go_wp2_with fail;refine(Rl rc O9.ae (by rw[Kx.ae];exact abU)).mono ?_;rintro e4 W4 ⟨GN,hc1,V5,V6,P3,rfl,_,ho,he,hB⟩;replace HO:=aa (HO.ae.later hB);replace HK:=aa (HK.ae.later hB);replace K1:=aa (K1.ae.later hB)
 replace HB:=aa (ai.then HB.ae hB);have K2:=aa ho;have HM1:=aa he;have lg:=aa (vk he Taa Taa);clear ho he hB O9;go_wp2_with fail;have b3:=ah W4 (.cells #[.slice GN QN.length hc1,.slice V5 P3.length V6,af 1] 33);have K3:=aa (aC.new W4 33 #[.slice GN QN.length hc1,.slice V5 P3.length V6,af 1]);replace HB:=aa (ai.then HB.ae b3);replace HO:=aa (HO.ae.later b3);replace HK:=aa (HK.ae.later b3);replace K1:=aa (K1.ae.later b3);replace K2:=aa (K2.ae.later b3);clear b3;generalize W4.alloc _=wz2 at*;generalize W4.heap.size=qb at*;refine(tE t2B R.G6 Taa aob _).mono ?_;rintro e4 wa ⟨L,rfl,hq,b1⟩;replace HO:=aa (HO.ae.later b1);open zjL in exact ZiB
def apn (r:Except Int (List aZ×List (List Val)))(B:Nat)(w:World)(v:Value):Prop:=match r with
 | .error er=>er≠0/\v=.tuple #[.agg #[az,az,af 0],af er]
 | .ok (hd,la)=>∃HA hc OA oc out,v=.tuple #[.agg #[.slice HA hd.length hc,.slice OA (List.length out) oc,af la.length],af 0]/\aI aU 113 2 w B (.slice HA hd.length hc) hd/\aI bX 38 1 w B (.slice OA out.length oc) out/\(∀r∈out,bP w r.A r.l)/\out.map (·.l)=la
theorem Nt{w:World}      (rc:Nat) (h:JP w q L CA cc cols RA rows):
  ar 11 #[tJ q L,.slice CA cols.length cc,.slice RA rows.length rc] w λ e w'=>∃v,e=.returned v/\apn (pD q cols (rows.map (·.l))) w.heap.size w' v/\aj w w':=by
 refine(JR q L CA cc cols RA rc rows w h).mono ?_;rintro e w1 ⟨hb,hk⟩
 cases hr:pD q cols (rows.map (·.l))with
 | error er=>rw[hr] at hk;exact⟨_,hk.2,⟨hk.1,rfl⟩,hb⟩
 | ok x=>
   obtain⟨hd,la⟩:=x;rw[hr] at hk;obtain⟨HA,hc,ov,out,rfl,h1,h2,h3,h4⟩:=hk;obtain⟨OA,oc,rfl,_⟩:=He h2 λ r hr=>(h3 r hr).rv
   exact⟨_,rfl,⟨HA,hc,OA,oc,out,rfl,h1,h2,h3,h4⟩,hb⟩
def z33:Array Value:= #[az,az,af 0]
section
variable {W w w':World} {rows:List (List Val)} {r:Except Int (List aZ×List (List Val))} {s3 s4 s5 s6 s7 s8 s9:Option Value}
end
theorem ait{w:World}    (rc:Nat)(h:CR w CA cols RA rows):
  ar 12 #[.slice RA rows.length rc] w λ e w'=>∃v,e=.returned v/\(∃A c rs,v=.slice A (List.length rs) c/\RR w' w'.heap.size A rs/\rs.map (·.l)=rows.map (·.l))/\aj w w':=by refine(abi rows RA rc w (by have:=h.rn;omega) (λ r hr=>by have:=(h.each r hr).1;omega) h.rr).mono ?_;rintro e w1 ⟨v,cl,rfl,h1,h2,h3,h4⟩;obtain⟨A,c,rfl,h5⟩:=SN h1 h2;exact⟨_,rfl,⟨A,c,cl,rfl,h5,h3⟩,h4⟩
variable{RB:Option Addr}
theorem CR.same{w:World}    (h:CR w CA cols RA rows)(hr:RR w w.heap.size RB rs)(he:rs.map (·.l)=rows.map (·.l)):CR w CA cols RB rs:=by
 refine⟨h.env,h.cr,h.cl,hr,?_,λ r hm=>?_⟩
 ·have:=congrArg List.length he;simp only[length_map] at this;rw[this];exact h.rn
 ·have hx:r.l∈rows.map (·.l):=by rw[<- he];exact List.mem_map.2 ⟨r,hm,rfl⟩
  obtain⟨r0,kz,e0⟩:=List.mem_map.1 hx;rw[<- e0];exact h.each r0 kz
theorem zaL.Kaf(h:p:=by rw[<- qL] at nM x2 x7 Rm Rn ⊢;clear qL;have t1:decide ((200:Int)<(L.i.n:Int))=true:=decide_eq_true WC;clear h0;exact ZbY):p:=h
theorem zbT.Kam(h:p:=by have x2:=k1.cell 2;have x7:=k1.cell 7;have Rm:=k1.cell 19;have Rn:=k1.cell 20;simp only[Uaa] at x2 x7 Rm Rn;open zaL in exact Zal):p:=h
theorem Wp (q:Qy)(L:QL)(w:World)(hf:q.bZ.size<=4611686018427387904)(hn:L.i.n<=4611686018427387904/\L.o.n<=4611686018427387904/\L.l.n<=4611686018427387904)(h0:200 < L.i.n):ar 21 #[.agg (NK q L)] w (ru w):=by
 open zbT in exact ZaE
theorem zaM.Kaf(h:p:=by rw[<- qL] at nM x2 x7 Xn Rm Rn ⊢;clear qL;have t1:decide ((200:Int)<(L.i.n:Int))=false:=decide_eq_false WC;have t2:decide ((200:Int)<(L.o.n:Int))=true:=decide_eq_true WC;clear h0 h1;exact ZbY):p:=h
theorem zbU.Kam(h:p:=by have x2:=k1.cell 2;have x7:=k1.cell 7;have Xn:=k1.cell 13;have Rm:=k1.cell 19;have Rn:=k1.cell 20;simp only[Uaa] at x2 x7 Xn Rm Rn;open zaM in exact Zal):p:=h
theorem Wt (q:Qy)(L:QL)(w:World)(hf:q.bZ.size<=4611686018427387904)(hn:L.i.n<=4611686018427387904/\L.o.n<=4611686018427387904/\L.l.n<=4611686018427387904)(h0:¬200 < L.i.n)(h1:200 < L.o.n):ar 21 #[.agg (NK q L)] w (ru w):=by
 open zbU in exact ZaE
theorem zhT.Kb2(h:p:=by have t3:decide ((200:Int)<(L.l.n:Int))=true:=decide_eq_true WC;clear h0 h1 h2;exact ZbY):p:=h
theorem zaN.Kaf(h:p:=by rw[<- qL] at nM x2 x7 Xn c14 Rm Rn ⊢;clear qL;open zhT in exact Zfb):p:=h
theorem zbV.Kam(h:p:=by have x2:=k1.cell 2;have x7:=k1.cell 7;have Xn:=k1.cell 13;have c14:=k1.cell 14;have Rm:=k1.cell 19;have Rn:=k1.cell 20;simp only[Uaa] at x2 x7 Xn c14 Rm Rn;open zaN in exact Zal):p:=h
theorem Wu (q:Qy)(L:QL)(w:World)(hf:q.bZ.size<=4611686018427387904)(hn:L.i.n<=4611686018427387904/\L.o.n<=4611686018427387904/\L.l.n<=4611686018427387904)(h0:¬200 < L.i.n)(h1:¬200 < L.o.n)(h2:200 < L.l.n):ar 21 #[.agg (NK q L)] w (ru w):=by
 open zbV in exact ZaE
theorem zhU.Kb2(h:p:=by have t3:decide ((200:Int)<(L.l.n:Int))=false:=decide_eq_false WC;have t4:decide ((5000:Int)<(q.bZ.size:Int))=true:=decide_eq_true WC;clear h0 h1 h2 h3;exact ZbY):p:=h
theorem zaO.Kaf(h:p:=by rw[<- qL] at nM z1 x2 x3 x5 x7 x8 x9 Xn x14 x16 Rm Rn x24 x27 ⊢;clear qL;open zhU in exact Zfb):p:=h
theorem zgQ.KbC(h:p:=by simp only[Uaa] at z1 x2 x3 x5 x7 x8 x9 Xn x14 x16 Rm Rn x24 x27;open zaO in exact Zal):p:=h
theorem zbW.Kam(h:p:=by open zgQ in exact Zee):p:=h
theorem Wv (q:Qy)(L:QL)(w:World)(hf:q.bZ.size<=4611686018427387904)(hn:L.i.n<=4611686018427387904/\L.o.n<=4611686018427387904/\L.l.n<=4611686018427387904)(h0:¬200 < L.i.n)(h1:¬200 < L.o.n)(h2:¬200 < L.l.n)(h3:5000 < q.bZ.size):ar 21 #[.agg (NK q L)] w (ru w):=by
 open zbW in exact ZaE
variable{base:Nat}{v:Value}{ys:List Ex}
theorem adk{w:World}   (h:aI bI 46 7 w base v ys):∃A c,v=.slice A ys.length c/\RE w w.heap.size A ys:=by
 obtain⟨A,c,hv,hc⟩:=ej (f:=bI) (size:=7) (λ _=>rfl) h;refine⟨A,c,hv,?_⟩;rcases hc with hc |⟨g,hA,hg,hc⟩
 ·exact .inl hc
 ·refine .inr ⟨g,0,hA,hg,λ i x hx=>?_⟩;have c0:=hc i x 0 _ hx WC rfl;have c1:=hc i x 1 _ hx WC rfl;have c2:=hc i x 2 _ hx WC rfl;have c3:=hc i x 3 _ hx WC rfl;have c4:=hc i x 4 _ hx WC rfl;have c5:=hc i x 5 _ hx WC rfl;have c6:=hc i x 6 _ hx WC rfl;unfold cy;rw[Nat.zero_add];exact⟨by simpa using c0,c1,c2,c3,c4,c5,c6⟩
theorem Hg (q:Qy)(w:World)(v:Value)(ys:List Ex)(base:Nat)(ho:aI bI 46 7 w base v ys)(ht:Tr.aQ w (Old w) q.all ys)(bh:Tr.cP q.all)(hl:q.all.length<=1599289640356):ar 22 #[v] w λ e w'=>e=.returned (af (Tr.mY 0 q.all))/\aj w w':=by obtain⟨A,c,rfl,GD⟩:=adk ho;rw[Tr.aQ.length ht];exact RF A c q.all ys w hl ht GD (Tr.BC q.all ys w bh ht)
theorem zji.KcB(h:p:=by exact⟨_,rfl,hb4⟩):p:=h
theorem zhV.Kb2(h:p:=by
 have t3:decide ((200:Int)<(L.l.n:Int))=false:=decide_eq_false WC;have t4:decide ((5000:Int)<(q.bZ.size:Int))=false:=decide_eq_false WC;clear h0 h1 h2 h3;go_upto_region 3 with fail;clear t1 t2 t3 t4 z1 x3 x5 x8 x9 Xn x14 x16 Rm x24 x27;go_wp2_with fail;go_loopw [3] (λ iv wr=>iv=af 0/\wr=W1) (λ _ _=>0);case atStart=>exact⟨rfl,rfl⟩
 case round=>
  obtain⟨rfl,rfl⟩:=hrel;go_wp2_with fail;go_loopw [4] (λ iv wr2=>iv=af 0/\wr2=wr) (λ _ _=>0);case atStart=>exact⟨rfl,rfl⟩
  case round=>
   obtain⟨rfl,rfl⟩:=hrel;clear x2;go_wp2_with fail;clear Rn;generalize wr=wz at*;go_loopw [5] (λ iv wr2=>∃i:Nat,i<=L.i.n/\iv=af i/\wr2=wz) (λ iv _=>L.i.n - (intOf iv).toNat);case atStart=>exact⟨0,Nat.zero_le _,rfl,rfl⟩
   case round=>
    obtain⟨i,hk,rfl,rfl⟩:=hrel;by_cases hlt:i < L.i.n
    ·have P9:i < zi.length:=by rw[oQ.ae];exact hlt
     obtain⟨b,off,hA,kE,cg⟩:∃b off,L.i.A=some ⟨b,off,none⟩/\b < w.heap.size/\w.cell? ⟨b,off+i*8+7,none⟩=some zi[i].2:=by
      rcases HF.ae with h |⟨b,off,h1,h2,h3⟩
      ·rw[h] at P9;simp at P9
      ·exact⟨b,off,h1,h2,(h3 i _ (getElem?_eq_getElem P9)).2⟩
     obtain⟨sv2,Dh⟩:=B9.ae i zi[i] (getElem?_eq_getElem P9);rw[Dh] at cg;have hc2:=(eN.ae.cell (p:=⟨b,off+i*8+7,none⟩) kE).trans cg;rw[hA] at x7;clear hA Dh cg P9;by_cases h5:100 < sv2.size
     ·have t5:decide ((100:Int)<(sv2.size:Int))=true:=decide_eq_true WC;exact ZbY
     ·have t5:decide ((100:Int)<(sv2.size:Int))=false:=decide_eq_false WC;go_wp2_with fail;go_roundw;case rel=>first | exact⟨i+1,hlt,by go_num,trivial⟩| exact⟨i+1,hlt,by go_num,rfl⟩
      case measure=>exact Za6
    ·have hsz:(Tryz.prog.info? 64).map (·.size)=some (NK q L).size:=by show _=some 28;kernel_rfl
     go_wp2_with (first
      |(refine wpList_load_row rfl 64 (.tmp 1) rfl gs rfl 64 (NK q L) (0,0) _ HKQ.ae Tryz.underlying64 rfl hsz ?_))
     refine(HEX.ae _ eN.ae).mono ?_;rintro e w3 ⟨v3,ys,rfl,o3,tt,b3⟩;have O3:=aa o3;have TT:=aa (Tr.aQ.later tt b3);have tP:=aa (Below.trans eN.ae (b3.mono eN.ae.size));clear o3 tt b3 x7;open zji in exact Zhl):p:=h
theorem zaP.Kaf(h:p:=by rw[<- qL] at nM z1 x2 x3 x5 x7 x8 x9 Xn x14 x16 Rm Rn x24 x27 ⊢;clear qL;have HKQ:=aa (show aC W1 gs 64 (NK q L)from nM.ae);clear nM;open zhV in exact Zfb):p:=h
theorem zgR.KbC(h:p:=by simp only[Uaa] at z1 x2 x3 x5 x7 x8 x9 Xn x14 x16 Rm Rn x24 x27;open zaP in exact Zal):p:=h
theorem zbX.Kam(h:p:=by open zgR in exact Zee):p:=h
theorem Ww (q:Qy)(L:QL)(w:World)(hq:rD w q L)(hlen:q.items.length+q.cK.length+q.aL.length+q.ft.length+q.ord.length<=1100000)(bh:Tr.cP q.all)(hf:q.bZ.size<=4611686018427387904)(hn:L.i.n<=4611686018427387904/\L.o.n<=4611686018427387904/\L.l.n<=4611686018427387904)(h0:¬200 < L.i.n)(h1:¬200 < L.o.n)(h2:¬200 < L.l.n)(h3:¬5000 < q.bZ.size):
  ar 21 #[.agg (NK q L)] w (ru w):=by
 have HEX:=aa (λ W (hW:aj w W)=>uP (k:=0) q L W (hq.later hW) hlen);obtain⟨hni,zi,hri,hzb,_⟩:=hq.i;have HF:=aa hri;have hzl:zi.length=L.i.n:=by have:=congrArg List.length hzb;simp at this;rw[hni];simpa using this
 have oQ:=aa hzl;have B9:=aa (show∀(Kx:Nat) (x:Ex×Value),zi[Kx]?=some x->∃s:ByteArray,x.2=Value.string s from λ Kx x hx=>by
  have h1:=congrArg (λ l=>l[Kx]?) hzb
  simp only[getElem?_map,hx,Option.map_some] at h1
  cases hy:q.items[Kx]? with
  | none=>rw[hy] at h1;cases h1
  | some y=>
    rw[hy] at h1
    injection h1 with h1
    exact⟨_,h1⟩)
 have je:=aa bh;have Cg:=aa (show q.all.length<=1599289640356 by unfold Qy.all;simp only[length_append,length_map];omega);clear hq hlen bh hzb hri hni;open zbX in exact ZaE
theorem Nu (q:Qy)(L:QL)(w:World)(hq:rD w q L)(hlen:q.items.length+q.cK.length+q.aL.length+q.ft.length+q.ord.length<=1100000)(bh:Tr.cP q.all)(hf:q.bZ.size<=4611686018427387904)(hn:L.i.n<=4611686018427387904/\L.o.n<=4611686018427387904/\L.l.n<=4611686018427387904):
  ar 21 #[.agg (NK q L)] w (ru w):=by
 by_cases h0:200 < L.i.n
 ·exact Wp q L w hf hn h0
 by_cases h1:200 < L.o.n
 ·exact Wt q L w hf hn h0 h1
 by_cases h2:200 < L.l.n
 ·exact Wu q L w hf hn h0 h1 h2
 by_cases h3:5000 < q.bZ.size
 ·exact Wv q L w hf hn h0 h1 h2 h3
 exact Ww q L w hq hlen bh hf hn h0 h1 h2 h3
structure GOK (q:Qy) (cols:List aZ) (rows:List aN):Prop where
 cl:cols.length<=20
 rn:rows.length<=100
 g:q.aL.length<=20
 w:q.cK.length<=20
 h:q.ft.length<=20
 i:q.items.length<=20
 o:q.ord.length<=20
 each:∀r∈rows,r.l.length<=30
 size:Tr.mY 0 q.all<=300
def JS (q:Qy)(cols:List aZ)(rows:List aN)(w:World)(e:Ending)(w':World):Prop:=∃b:Bool,e=.returned (.bool b)/\aj w w'/\(b=false->GOK q cols rows)
theorem zjh.KcB(h:p:=by refine⟨_,rfl,hb4,λ h=>?_⟩;obtain⟨g1,g2,g3,g4,g5,g6,g7⟩:=WN.ae;exact⟨g1,g2,by rw[<- Xc.ae];exact g3,by rw[<- HNW.ae];exact g4,by rw[<- HNH.ae];exact g5,by rw[<- HNI.ae];exact g6,by rw[<- HNO.ae];exact g7,HEA.ae,by have:=of_decide_eq_false h;omega⟩):p:=h
theorem zjD.KcL(h:p:=by
 have y6:=cL.cell 6;have c7:=cL.cell 7;unfold fW at y0 y1 y2 y3 y4 y5 y6 c7;simp only[Uaa] at y0 y1 y2 y3 y4 y5 y6 c7;have yes:∀w2,aj w w2->JS q cols rows w (.returned (.bool true)) w2:=λ w2 h=>⟨true,rfl,h,λ h=>by cases h⟩
 have YES:=aa yes;obtain⟨vn,WI,hn3⟩:=hn;unfold fW at HB F2;clear hq hlen bh b1 cL hr lX yes;go_enter Tryz.func9,Tryz.ntmps9;go_upto_region 1 with fail;generalize w.alloc _=W1 at*;obtain⟨g,hg⟩:∃g,g=w.heap.size:=⟨_,rfl⟩;rw[<- hg] at F2 y0 y1 y2 y3 y4 y5 y6 c7 ⊢;have HGQ:=aa hg;clear hg;go_wp2_with fail;have hgr:=yq.ae _ HB.ae;unfold NK at hgr;refine hgr.mono ?_;rintro e W2 ⟨b,rfl,hL⟩;have eN:=aa (Below.trans HB.ae (hL.mono HB.ae.size));have K2:=aa (F2.ae.later hL);have y0:=(K2.ae.cell 0);have y1:=K2.ae.cell 1;have y2:=K2.ae.cell 2;have y3:=K2.ae.cell 3;have y4:=K2.ae.cell 4;have y5:=K2.ae.cell 5;have y6:=K2.ae.cell 6;have c7:=K2.ae.cell 7;simp only[Uaa] at y0 y1 y2 y3 y4 y5 y6 c7;clear hgr hL;have WV:=aa (HR.ae.later eN.ae);cases b;case true=>exact ZbY
 by_cases h0:20 < cols.length
 ·have t0:decide ((20:Int)<(cols.length:Int))=true:=decide_eq_true WC;exact ZbY
 by_cases h1:100 < rows.length
 ·have t0:decide ((20:Int)<(cols.length:Int))=false:=decide_eq_false WC;have t1:decide ((100:Int)<(rows.length:Int))=true:=decide_eq_true WC;exact ZbY
 by_cases h2:20 < L.g.n
 ·have t0:decide ((20:Int)<(cols.length:Int))=false:=decide_eq_false WC;have t1:decide ((100:Int)<(rows.length:Int))=false:=decide_eq_false WC;have t2:decide ((20:Int)<(L.g.n:Int))=true:=decide_eq_true WC;exact ZbY
 by_cases h3:20 < L.w.n
 ·have t0:decide ((20:Int)<(cols.length:Int))=false:=decide_eq_false WC;have t1:decide ((100:Int)<(rows.length:Int))=false:=decide_eq_false WC;have t2:decide ((20:Int)<(L.g.n:Int))=false:=decide_eq_false WC;have t3:decide ((20:Int)<(L.w.n:Int))=true:=decide_eq_true WC;exact ZbY
 by_cases h4:20 < L.h.n
 ·have t0:decide ((20:Int)<(cols.length:Int))=false:=decide_eq_false WC;have t1:decide ((100:Int)<(rows.length:Int))=false:=decide_eq_false WC;have t2:decide ((20:Int)<(L.g.n:Int))=false:=decide_eq_false WC;have t3:decide ((20:Int)<(L.w.n:Int))=false:=decide_eq_false WC;have t4:decide ((20:Int)<(L.h.n:Int))=true:=decide_eq_true WC;exact ZbY
 by_cases h5:20 < L.i.n
 ·have t0:decide ((20:Int)<(cols.length:Int))=false:=decide_eq_false WC;have t1:decide ((100:Int)<(rows.length:Int))=false:=decide_eq_false WC;have t2:decide ((20:Int)<(L.g.n:Int))=false:=decide_eq_false WC;have t3:decide ((20:Int)<(L.w.n:Int))=false:=decide_eq_false WC;have t4:decide ((20:Int)<(L.h.n:Int))=false:=decide_eq_false WC;have t5:decide ((20:Int)<(L.i.n:Int))=true:=decide_eq_true WC;exact ZbY
 by_cases h6:20 < L.o.n
 ·have t0:decide ((20:Int)<(cols.length:Int))=false:=decide_eq_false WC;have t1:decide ((100:Int)<(rows.length:Int))=false:=decide_eq_false WC;have t2:decide ((20:Int)<(L.g.n:Int))=false:=decide_eq_false WC;have t3:decide ((20:Int)<(L.w.n:Int))=false:=decide_eq_false WC;have t4:decide ((20:Int)<(L.h.n:Int))=false:=decide_eq_false WC;have t5:decide ((20:Int)<(L.i.n:Int))=false:=decide_eq_false WC;have t6:decide ((20:Int)<(L.o.n:Int))=true:=decide_eq_true WC;exact ZbY
 have t0:decide ((20:Int)<(cols.length:Int))=false:=decide_eq_false WC;have t1:decide ((100:Int)<(rows.length:Int))=false:=decide_eq_false WC;have t2:decide ((20:Int)<(L.g.n:Int))=false:=decide_eq_false WC;have t3:decide ((20:Int)<(L.w.n:Int))=false:=decide_eq_false WC;have t4:decide ((20:Int)<(L.h.n:Int))=false:=decide_eq_false WC;have t5:decide ((20:Int)<(L.i.n:Int))=false:=decide_eq_false WC;have t6:decide ((20:Int)<(L.o.n:Int))=false:=decide_eq_false WC;have WN:=aa (show cols.length<=20/\rows.length<=100/\L.g.n<=20/\L.w.n<=20/\L.h.n<=20/\L.i.n<=20/\L.o.n<=20 from⟨by omega,by omega,by omega,by omega,by omega,by omega,by omega⟩);go_upto_region 3 with fail;clear t0 t1 t2 t3 t4 t5 t6;go_wp2_with fail;go_loopw [7,8] (λ iv _ wr=>∃k:Nat,k<=rows.length/\iv=af k/\W2=wr/\∀j,j < k->∀r,rows[j]?=some r->r.l.length<=30) (λ iv _ _=>rows.length - (intOf iv).toNat);case atStart=>exact⟨0,Nat.zero_le _,rfl,rfl,λ j hj=>absurd hj WC⟩
 case round=>
  obtain⟨k,Kx,rfl,rfl,hp⟩:=hrel;have HP:=aa hp;clear hp;have hk9:k<=100:=by have:=WN.ae.2.1;omega
  by_cases hlt:k < rows.length
  ·obtain⟨b,off,rfl,kE,cg,tO⟩:=WV.ae.at_ hlt;have hrw:=Qr.ae _ (getElem_mem hlt);have Bp:=aa tO;have HIK:=aa (getElem?_eq_getElem hlt);clear tO;obtain⟨r,GD⟩:∃r,r=rows[k]:=⟨_,rfl⟩;rw[<- GD] at Bp cg HIK hrw;clear GD;by_cases h5:30 < r.l.length
   ·have t5:decide ((30:Int)<(r.l.length:Int))=true:=decide_eq_true WC;exact ZbY
   have t5:decide ((30:Int)<(r.l.length:Int))=false:=decide_eq_false WC;go_wp2_with fail;go_loopw [8] (λ jv wr2=>∃i:Nat,i<=r.l.length/\jv=af i/\W2=wr2) (λ jv _=>r.l.length - (intOf jv).toNat);case atStart=>exact⟨0,Nat.zero_le _,rfl,rfl⟩
   case round=>
    obtain⟨i,hk,rfl,rfl⟩:=hrel;by_cases hlm:i < r.l.length
    ·obtain⟨b3,aBR,hA,hb3,hva⟩:=Bp.ae.at_ hlm;unfold eh at hva;obtain⟨_,_,Dh⟩:=hva;rw[hA] at cg;clear hA;obtain⟨sv,apq⟩:∃sv,sv=r.l[i].s:=⟨_,rfl⟩;rw[<- apq] at Dh;clear apq;by_cases h6:300 < sv.size
     ·have t6:decide ((300:Int)<(sv.size:Int))=true:=decide_eq_true WC;exact ZbY
     ·have t6:decide ((300:Int)<(sv.size:Int))=false:=decide_eq_false WC;go_wp2_with fail;go_roundw;case rel=>exact⟨i+1,hlm,by go_num,trivial⟩
      case measure=>exact Za6
    ·go_wp2_with fail;go_roundw
     case rel=>
      refine⟨k+1,hlt,by go_num,?_⟩
      have mn:∀j,j < k+1->∀r2,rows[j]?=some r2->r2.l.length<=30:=by
       intro j hj r2 hr2;rcases Nat.lt_or_ge j k with h | h
       ·exact HP.ae j h r2 hr2
       ·have:j=k:=by omega
        subst this;rw[HIK.ae] at hr2;injection hr2 with hr2;subst hr2;omega
      first
      | exact mn
      | exact⟨rfl,mn⟩
      | exact⟨trivial,mn⟩
     case measure=>exact Za6
  ·have fL:k=rows.length:=by omega
   have HEA:=aa (show∀r∈rows,r.l.length<=30 from λ r hr=>by
    obtain⟨KK,hi,he⟩:=getElem_of_mem hr
    exact HP.ae KK WC r Tay)
   clear fL;go_wp2_with fail;have hex:=HEX.ae _ eN.ae;unfold NK at hex;refine hex.mono ?_;rintro e w3 ⟨v3,ys,rfl,o3,tt,b3⟩;have O3:=aa o3;have TT:=aa (Tr.aQ.later tt b3);have tP:=aa (Below.trans eN.ae (b3.mono eN.ae.size));clear o3 tt b3 y0 y1 y2 y3 y4 y5 y6 c7 hex;open zjh in exact Zhl):p:=h
theorem Wx (q:Qy)(L:QL)(CA:Option Addr)(cc:Nat)(cols:List aZ)(RA:Option Addr)(rc:Nat)(rows:List aN)(w:World)(hq:rD w q L)(hlen:q.items.length+q.cK.length+q.aL.length+q.ft.length+q.ord.length<=1100000)(bh:Tr.cP q.all)(hf:q.bZ.size<=4611686018427387904)(hn:L.i.n<=4611686018427387904/\L.o.n<=4611686018427387904/\L.l.n<=4611686018427387904)(hr:RR w w.heap.size RA rows)(QD:rows.length<=4611686018427387904)(cg:cols.length<=4611686018427387904)(lX:∀r∈rows,r.l.length<=4611686018427387904):
  ar 9 #[tJ q L,.slice CA cols.length cc,.slice RA rows.length rc] w (JS q cols rows w):=by have HEX:=aa (λ W (hW:aj w W)=>uP (k:=0) q L W (hq.later hW) hlen);have yq:=aa (λ W (hW:aj w W)=>Nu q L W (hq.later hW) hlen bh hf hn);have je:=aa bh;have Cg:=aa (show q.all.length<=1599289640356 by unfold Qy.all;simp only[length_append,length_map];omega);have Xc:=aa hq.g.n;have HNW:=aa hq.w.n;have HNH:=aa hq.h.n;have HNI:=aa (show L.i.n=q.items.length by have:=hq.i.n;simpa using this);have HNO:=aa (show L.o.n=q.ord.length by have:=hq.o.n;simpa using this);have HR:=aa hr;have Qr:=aa lX;have b1:=ah w (.cells (fW q L) 27);have cL:=aC.new w 27 (fW q L);have HB:=aa b1;have F2:=aa cL;unfold tJ;open zjD in exact Ziy
theorem Wy:Tryz.prog.cellsOf 38=1:=by exact ZhU
theorem Wz:Tryz.prog.bytesOf 38=24:=by exact ZhU
section
variable {H:Type} {enc:TypeId×Value->H} {w:World} {base:Nat} {spare:Nat->Bool} {held:Bool}
end
section
variable {H:Type} {enc:TypeId×Value->H} {w:World} {base:Nat} {spare:Nat->Bool} {held:Bool}
theorem jM:∀ts:List Tr,ts.length<=Tr.aY ts
 | []=>Nat.zero_le _
 | t::ts=>by have:=jM ts;unfold Tr.aY;cases t;unfold Tr.nodes;rw[length_cons];omega
theorem WE {fuel:Nat} {cs:List Value} {x:DataW H×List MemPlace}(h:DataW.trod enc Tryz.prog w base spare held fuel 29 cs=some x)(hw:Light 29 x.1):
  ∃A rs c,cs=[.slice A rs.length c]/\RR w w.heap.size A rs/\rs.length<=140737488355328/\∀r∈rs,r.l.length<=140737488355328/\∀a∈r.l,a.Ok/\0<=a.k/\a.k<=255:=by
 obtain⟨A,rs,c,hcs,hP,hb,hR⟩:=uv (λ r:aN=> [.slice r.A r.l.length r.c]) (λ r=>RV w w.heap.size r.A r.l/\r.l.length<=140737488355328/\∀a∈r.l,a.Ok/\0<=a.k/\a.k<=255) 1 Tryz.underlying29 Wy WC (λ _=>rfl)
  (λ m _ cs y hy hl=>by obtain⟨A,l,c,h1,h2⟩:=TW hy hl;exact⟨⟨A,l,c⟩,h1,h2⟩) h hw
 rw[Wz] at hb;refine⟨A,rs,c,hcs,?_,by unfold reachBytes at hb;omega,λ r hr=>(hP r hr).2⟩;rcases hR with h0 |⟨b,off,h1,h2,h3⟩
 ·exact .inl h0
 ·refine .inr ⟨b,off,h1,h2,λ i r hr=>⟨?_,(hP r (mem_of_getElem? hr)).1⟩⟩;have:=h3 i r 0 _ hr rfl;exact Zfa
end
section
variable {H:Type} {enc:TypeId×Value->H} {W:World} {base:Nat} {v:Value} {d:DataW H} {p:List MemPlace}
theorem rows_open (ok:Value.okWide Tryz.prog W .any base 29 v)(k:DataW.Trod enc Tryz.prog W 0 (λ _=>true) true 29 v d p)(hw:Light 29 d):
  ∃A rs c,v=.slice A rs.length c/\RR W W.heap.size A rs/\rs.length<=140737488355328/\∀r∈rs,r.l.length<=140737488355328/\∀a∈r.l,a.Ok/\0<=a.k/\a.k<=255:=by obtain⟨a,len,cap,rfl⟩:=okWide_slice Tryz.underlying29 ok;obtain⟨fuel,hf⟩:=k;obtain⟨A,l,c,q,h⟩:=WE hf hw;exact ZhA
end
structure xi (w:World) (q:Qy) (L:QL) (CA:Option Addr) (cols:List aZ) (RA:Option Addr) (rows:List aN):Prop where
 qy:rD w q L
 ok:q.Ok
 smalls:Tr.smalls q.all
 nodes:Tr.aY q.all<=1100000
 bZ:q.bZ.size<=1048576
 ln:L.l.n<=1048576
 lim:∀n∈q.lim,n<=9223372036854775807
 env:zW w
 cr:RC w w.heap.size CA cols
 cl:cols.length<=140737488355328
 rr:RR w w.heap.size RA rows
 rn:rows.length<=140737488355328
 each:∀r∈rows,r.l.length<=140737488355328/\∀v∈r.l,v.Ok
section
variable {w w':World} {q:Qy} {L:QL} {CA:Option Addr} {cols:List aZ} {RA:Option Addr} {rows:List aN}
theorem xi.later (h:xi w q L CA cols RA rows)(hb:aj w w'):xi w' q L CA cols RA rows:=
 ⟨h.qy.later hb,h.ok,h.smalls,h.nodes,h.bZ,h.ln,h.lim,h.env.later hb,h.cr.later hb,h.cl,h.rr.later hb,h.rn,h.each⟩
theorem Qy.Ok.all (h:q.Ok):Tr.cP q.all:=by unfold Qy.all;exact mA.2 ⟨mA.2 ⟨h.i,mA.2 ⟨mA.2 ⟨h.w,h.g⟩,h.h⟩⟩,h.o⟩
theorem xi.great (cc rc:Nat)(h:xi w q L CA cols RA rows):ar 9 #[tJ q L,.slice CA cols.length cc,.slice RA rows.length rc] w (JS q cols rows w):=by
 have hn:=h.nodes;rw[DV] at hn;have l1:=jM (q.items.map (·.1));have l2:=jM q.cK;have l3:=jM q.aL;have l4:=jM q.ft;have l5:=jM (q.ord.map (·.1));rw[length_map] at l1 l5;have hf:=h.bZ;have hl:=h.ln;have i1:L.i.n=q.items.length:=by have:=h.qy.i.n;simpa using this
 have i2:L.o.n=q.ord.length:=by have:=h.qy.o.n;simpa using this
 have hc:=h.cl;have hr:=h.rn;exact Wx q L CA cc cols RA rc rows w h.qy WC h.ok.all WC ⟨by omega,by omega,by omega⟩ h.rr WC WC λ r hr=>by have:=(h.each r hr).1;omega
theorem xi.cr_ (h:xi w q L CA cols RA rows)(g:GOK q cols rows):CR w CA cols RA rows:=
 ⟨h.env,h.cr,g.cl,h.rr,g.rn,λ r hr=>⟨g.each r hr,(h.each r hr).2⟩⟩
end
theorem Du (D:Nat->aN)(n i j:Nat)(hi:i < n)(hj:j < n):((List.range n).map (swp D i j)).Perm ((List.range n).map D):=by exact ZbD
theorem Sw.perm(h:Sw a b D E)(hb:b<=n):((List.range n).map E).Perm ((List.range n).map D):=by exact Zf7
variable{l:List Val}
theorem aiu{w:World}   (h:aI aX 44 3 w base v l):∃A c,v=.slice A l.length c/\RV w w.heap.size A l/\l.length<=c:=by
 obtain⟨A,c,rfl,hr,hc,_⟩:=h.reads;refine⟨A,c,rfl,?_,hc⟩;rcases Nat.eq_zero_or_pos l.length with h0 | h0
 ·exact .inl (eq_nil_of_length_eq_zero h0)
 ·obtain⟨ad,rfl,hb,hcell⟩:=hr.2 h0;rcases h.2 with ⟨h,_⟩|⟨g,cap,cur,h,_⟩
  ·cases h
  ·injection h with h;injection h with h;subst h;refine .inr ⟨g,0,rfl,hb,λ i x hx=>?_⟩;have k:∀r,r < 3->∀u,(aX x)[r]?=some u->w.cell? ⟨g,0+i*3+r,none⟩=some u:=λ r hr u hu=>by have:=hcell (i*3+r) u ((Hq (size:=3) (λ _=>rfl) l i r x hx hr).trans hu);rwa [dR,<- Nat.add_assoc] at this
   exact⟨k 0 WC _ rfl,k 1 WC _ rfl,k 2 WC _ rfl⟩
theorem P6 (l:List aN):l.flatMap bX=l.map aN.v:=by
 induction l with
 | nil=>rfl
 | cons x l ih=>simp only[flatMap_cons,map_cons,ih];rfl
variable{ov:Value}
theorem P7{w:World}   {cl:List aN}(h:aI bX 38 1 w base ov cl)(hm:Mine w base cl)(hne:cl≠ [])(hl:∀r∈cl,r.l.length<=1000):
  ∃g cap,ov=aF g cl.length cap/\base<=g/\SS w g cl.length w (λ i=>cl.getD i ⟨none,[],0⟩):=by
 rcases h.2 with ⟨rfl,h0⟩|⟨g,cap,cur,rfl,hb,e1,hn,hm2,hs,ht⟩
 ·exact absurd (eq_nil_of_length_eq_zero h0) hne
 ·have hsz:cl.length<=cur.size:=by rw[hs];omega
  have Bc:∀i,(hi:i < cl.length)->cl.getD i ⟨none,[],0⟩=cl[i]:=λ i hi=>by simp[hi]
  refine⟨g,cap,rfl,hb,⟨⟨cur,e1,hsz,λ i hi=>?_⟩,⟨rfl,rfl,rfl,Nat.le_refl _,λ _ _ _=>rfl⟩,λ k hk=>?_⟩⟩
  ·have e:=congrArg (λ l=>l[i]?) ht;rw[P6] at e;simp only[getElem?_take,getElem?_map] at e;rw[if_pos WC,getElem?_eq_getElem hi] at e;show cur[i]?=some (cl.getD i ⟨none,[],0⟩).v;rw[Bc i hi];simpa using e
  ·show RN w g (cl.getD k ⟨none,[],0⟩)/\(cl.getD k ⟨none,[],0⟩).l.length<=1000;rw[Bc k hk];have hr:=getElem_mem hk;refine⟨?_,hl _ hr⟩;obtain⟨A,c,KK,Kx,_⟩:=aiu (hm _ hr);have hA:cl[k].A=A:=by unfold aN.v at KK;injection KK
   subst hA;rcases Kx with Kx |⟨b,off,h1,h2,h3⟩
   ·exact .inl Kx
   ·refine .inr ⟨b,off,h1,h2,λ e=>?_,h3⟩;subst e
    have hq:(cl[k].v).ownBlock=some b:=by
     rcases(hm _ hr).2 with ⟨h4,_⟩|⟨g',cap',cur',h4,_⟩
     ·unfold aN.v at h4;injection h4 with h4;rw[h1] at h4;cases h4
     ·rw[h4];unfold aN.v at h4;injection h4 with h4;rw[h1] at h4;injection h4 with h4;injection h4 with h4;rw[<- h4];rfl
    obtain⟨_,_,cur',e2⟩:=(hm _ hr).lt hq;rw[e1] at e2;injection e2 with e2;injection e2 with _ e2 _;exact absurd e2 Taa
def auU (w:World)(A:Option Addr)(out:List aN):Prop:=out=[]\/∃g cs,A=some ⟨g,0,none⟩/\aC w g 38 cs
def DX (rs:List aN)(w:World)(e:Ending)(w':World):Prop:=
 ∃(A':Option Addr) (c':Nat) (out:List aN),e=.returned (.slice A' out.length c')/\(out.map (·.l)).Perm (rs.map (·.l))/\out.Pairwise le/\RR w' w'.heap.size A' out/\(Mine w' w.heap.size out/\auU w' A' out)/\aj w w'
theorem WG (cl:List aN)(d:aN):(List.range cl.length).map (λ i=>cl.getD i d)=cl:=by
 apply ext_getElem
 ·simp
 ·intro i h1 h2;simp at h1;simp[h1]
theorem JT(h:bc E 0 n):((List.range n).map E).Pairwise le:=by rw[pairwise_iff_getElem];intro i j hi hj kY;simp at hi hj;simp only[getElem_map,getElem_range];exact h i j WC kY hj
theorem zgX.KbF(h:p:=by
 have HV:=aa tO;clear tO;generalize aL[i]=r at*;obtain⟨rA,l,rc⟩:=r;dsimp only at*;go_wp2_with fail;refine(uO rA rc l _ ((HV.ae.more hB.size)) lX).mono ?_;rintro e_ w1 ⟨v,rfl,hO1,b1⟩;obtain⟨A1,c1,rfl,_⟩:=hO1.reads
 have hM1:Mine w1 w.heap.size (cl++ [⟨A1,l,c1⟩]):=by
  intro r hr;rcases List.mem_append.1 hr with hr | hr
  ·exact(HE.ae r hr).later b1
  ·simp at hr;subst hr;exact hO1.down hB.size
 have b2:=ah w1 (.cells #[.slice A1 l.length c1] 38);have HG:=aa (aC.new w1 38 #[.slice A1 l.length c1]);replace HE:=aa (hM1.later b2);replace HM:=aa ((HM.ae.later b1).later b2);have ek:=ai.then (ai.then hB b1) b2;have cg:cl.length=i:=by have:=congrArg List.length HC.ae;simp at this;omega
 clear hO1 b1 b2 hM1 hcell HV hB;go_wp2_with (first
  |(at_builtin
    refine aV (f:=bX) rfl (.tmp 12) (.tmp 15) 29 rfl _ 24 Tryz.underlying29 oB rfl WC (⟨A1,l,c1⟩:aN) rfl Taw rfl HM.ae w1.heap.size rfl HG.ae WC WC ek.size ?_
    intro v2 w2 o2 g2
    have b3:=bw HM.ae g2 ek.size
    have HM2:=aa (HE.ae.grown HM.ae g2)
    have O2:=aa o2
    clear o2 g2))
 clear HM HG HE;go_wp2_with fail;go_roundw;case rel=>refine⟨i+1,_,hlt,by go_num,?_,O2.ae,HM2.ae,ek.trans b3⟩;rw[HT.ae,<- HC.ae,map_append];rfl
 case measure=>exact Za6):p:=h
theorem P8 (A:Option Addr)(c:Nat)(aL:List aN)(w:World)(h:RR w w.heap.size A aL)(hm:aL.length<=1000)(hl:∀r∈aL,r.l.length<=1000):
  ar 19 #[.slice A aL.length c] w (DX aL w):=by
 have HR:=aa h;have Aa:=aa hl;clear h hl;go_enter Tryz.func19,Tryz.ntmps19;go_wp2_with fail;go_loopw [3,8] (λ ov iv wr=>∃(i:Nat) (cl:List aN),i<=aL.length/\iv=af i/\cl.map (·.l)=(aL.take i).map (·.l)/\aI bX 38 1 wr w.heap.size ov cl/\Mine wr w.heap.size cl/\aj w wr) (λ _ iv _=>aL.length - (intOf iv).toNat);case atStart=>exact⟨0,[],Nat.zero_le _,rfl,rfl,aI.nil,λ r hr=>by simp at hr,Below.refl _ _⟩
 case round=>
  obtain⟨i,cl,hk,rfl,cg,hO,hM,hB⟩:=hrel;have HC:=aa cg;have HM:=aa hO;have HE:=aa hM;clear cg hO hM;by_cases hlt:i < aL.length
  ·open zgX in exact Zev
  ·have fL:i=aL.length:=by omega
   subst fL;rw[take_length] at HC;have Ou:∀r∈cl,r.l.length<=1000:=by intro r hr;have h1:r.l∈cl.map (·.l):=List.mem_map.2 ⟨r,hr,rfl⟩;rw[HC.ae] at h1;obtain⟨r',h2,h3⟩:=List.mem_map.1 h1;rw[<- h3];exact Aa.ae r' h2
   have cg:cl.length=aL.length:=by have:=congrArg List.length HC.ae;simpa using this
   have Cp:cl.length<=1000:=by omega
   clear cg;by_cases h0:cl=[]
   ·subst h0;obtain⟨A1,c1,rfl,_⟩:=HM.ae.reads;go_wp2_with fail;refine(kW A1 c1 _).mono ?_;rintro e_ w1 ⟨rfl,rfl⟩;go_wp2_with fail;go_ret;exact⟨A1,c1,[],rfl,by rw[<- HC.ae],.nil,.inl rfl,⟨λ r hr=>by simp at hr,.inl rfl⟩,hB⟩
   ·obtain⟨g,cap,rfl,hbg,hSS⟩:=P7 HM.ae HE.ae h0 Ou;have HSS:=aa hSS;clear hSS;go_wp2_with fail;refine(mG _ g cl.length cap _ _ HSS.ae WC).mono ?_;rintro e_ w1 ⟨rfl,E,hs,hw,ho⟩;have hp:=hw.perm (Nat.le_refl cl.length);rw[WG] at hp;have hlen:((List.range cl.length).map E).length=cl.length:=by simp
    have hP:=aa (show DX aL w (.returned (aF g cl.length cap)) w1 from by
     refine⟨some ⟨g,0,none⟩,cap,(List.range cl.length).map E,by rw[hlen],?_,JT ho,?_,?_,dy hB hs.grown hbg⟩
     ·rw[<- HC.ae]
      exact hp.map _
     ·obtain⟨cs,hblk,_⟩:=hs.at_
      refine .inr ⟨g,0,rfl,hblk.lt,λ Kx r hr=>?_⟩
      rw[getElem?_map] at hr
      cases hi:(List.range cl.length)[Kx]? with
      | none=>rw[hi] at hr;cases hr
      | some j=>
        have hj:=List.getElem?_eq_some_iff.1 hi
        obtain⟨h1,h2⟩:=hj
        simp at h1 h2
        subst h2
        rw[hi] at hr
        simp only[Option.map_some,Option.some.injEq] at hr
        subst hr
        rw[Nat.zero_add]
        exact⟨hs.at_.cell Kx h1,hs.rv Kx h1⟩
     ·have apr:=HE.ae.grown HM.ae (show World.grownBy _ w1 _ from hs.grown)
      obtain⟨cs,hblk,_⟩:=hs.at_
      exact⟨λ r hr=>apr r (hp.mem_iff.1 hr),.inr ⟨g,cs,rfl,hblk⟩⟩)
    clear hp hlen hs hw ho;go_wp2_with fail;go_ret;exact hP.ae
variable{off:Nat}
theorem zI{w:World}  {x:aZ}(h:mW w b off x):w.cell? ⟨b,off,none⟩=some (.string x.name)/\w.cell? ⟨b,off+1,none⟩=some (ag x.t):=h
variable{B k:Nat}
theorem aeU{w:World}   {l:List aZ}(h:RC w B A l) (hk:k < l.length):∃b off,A=some ⟨b,off,none⟩/\b < B/\mW w b (off+k*2) l[k]:=by exact Zct
def c6V (b1 o1 b2 o2 n c c2 k:Nat)(x:aZ):Nat->World->Value->Prop
 | 0,_,v=>v=.slice (some ⟨b1,o1,none⟩) n c
 | 1,_,v=>v=af k
 | 2,_,v=>v=bj b1 (o1+k*2)
 | 3,_,v=>v=.agg #[.string x.name,ag x.t]
 | 4,_,v=>v=.slice (some ⟨b2,o2,none⟩) n c2
 | 5,_,v=>v=af k
 | 6,_,v=>v=bj b2 (o2+k*2)
 | 7,_,v=>v=.agg #[.string x.name,ag x.t]
 | 8,_,v=>v=.bool false
 | _,_,_=>False
theorem WH (b1 o1 b2 o2 n c c2 k:Nat)(x:aZ):∀i w w' v,c6V b1 o1 b2 o2 n c c2 k x i w v->ai w w'->c6V b1 o1 b2 o2 n c c2 k x i w' v:=by exact ZgU
theorem xj (A:Option Addr)(c:Nat)(A':Option Addr)(c':Nat)(l:List aZ)(w:World)(h:RC w w.heap.size A l)(h':RC w w.heap.size A' l)(hn:l.length<=1000000):
  ar 20 #[.slice A l.length c,.slice A' l.length c'] w λ e w'=>e=.returned (.bool true)/\aj w w':=by
 have H:=aa h;have H':=aa h';clear h h';go_enter Tryz.func20,Tryz.ntmps20;go_wp2_with fail;go_loopw [5] (λ Kx wr=>∃i:Nat,i<=l.length/\Kx=af i/\aj w wr) (λ Kx _=>l.length - (intOf Kx).toNat);case atStart=>exact Zf0
 case round=>
  obtain⟨i,hk,rfl,hB⟩:=hrel;by_cases hlt:i < l.length
  ·obtain⟨b1,o1,rfl,l1,q1⟩:=aeU (H.ae.later hB) hlt;obtain⟨b2,o2,rfl,l2,q2⟩:=aeU (H'.ae.later hB) hlt;have HLT:=aa hlt;have Kc:=aa l1;have xu:=aa l2;have NA:=aa (zI q1);have Az:=aa (zI q2);generalize l[i]=x at*;clear l1 l2 q1 q2;go_upto_region 6 with fail;refine bC 9 (c6V b1 o1 b2 o2 l.length c c' i x) (WH _ _ _ _ _ _ _ _ _) Vx Vx Vx ?_ ?_
   ·simp only[take_succ_cons,take_zero];refine⟨Zab,Zab,?_,?_,Zab,Zab,?_,?_,?_,trivial⟩
    ·intro ρ W4 hc hL hr;have h0:_=_:=hr.1;have h1:_=_:=hr.2.1;exact aq (v:=bj b1 (o1+i*2)) (w':=W4) Ta3 ⟨ai.refl _,rfl⟩
    ·intro ρ W4 hc hL hr;have h0:_=_:=hr.1;have c0:=(hL.cell (p:=⟨b1,o1+i*2,none⟩) Kc.ae).trans NA.ae.1;have c1:=(hL.cell (p:=⟨b1,o1+i*2+1,none⟩) Kc.ae).trans NA.ae.2;exact ZhW
    ·intro ρ W4 hc hL hr;have h0:_=_:=hr.1;have h1:_=_:=hr.2.1;exact aq (v:=bj b2 (o2+i*2)) (w':=W4) Ta3 ⟨ai.refl _,rfl⟩
    ·intro ρ W4 hc hL hr;have h0:_=_:=hr.1;have c0:=(hL.cell (p:=⟨b2,o2+i*2,none⟩) xu.ae).trans Az.ae.1;have c1:=(hL.cell (p:=⟨b2,o2+i*2+1,none⟩) xu.ae).trans Az.ae.2;exact ZhW
    ·intro ρ W4 hc hL hr;have h0:_=_:=hr.1;have h1:_=_:=hr.2.1;exact aq (w':=W4) Tav ⟨ai.refl _,rfl⟩
   intro W3 hL;simp only[Uab];rintro a0 - a1 - a2 - a3 - a4 - a5 - a6 - a7 - _ rfl;simp only[bF,Act.put,Uac];have hW:=ai.then hB hL;clear hL;go_wp2_with fail;go_roundw;case rel=>exact⟨i+1,hlt,by go_num,hW⟩
   case measure=>exact Za6
  ·exact ZhM
theorem zjy.KcJ(h:p:=by have K1:=aa HX;have K2:=aa k2;clear h1 h2 hF ih q1 q2 q3 bb b2 HX k2 q4 s1;go_enter Tryz.func13,Tryz.ntmps13;go_wp2_with fail;clear x0 hex x2 y0 hz y2;refine H1.ae.mono ?_;rintro e w3 ⟨rfl,b3⟩;have hex:=(K1.ae.later b3).cell 1;have hz:=(K2.ae.later b3).cell 1;simp only[Uaa] at hex hz;have hb:=ai.then Q4.ae b3;clear b3 H1;go_wp2_with fail;refine(DT RA rc rs RA' rc' ss w3 (HF.ae.later hb) (IH.ae.later hb) Q1.ae HH.ae Q3.ae).mono ?_;rintro e w1 ⟨rfl,b1⟩;have hb1:=ai.then hb b1;clear hex hz b1 hb;go_wp2_with fail;go_ret;exact⟨rfl,hb1⟩):p:=h
theorem Nv (hd:List aZ)(HA:Option Addr)(hc:Nat)(HA':Option Addr)(hc':Nat)(rs ss:List aN)(RA:Option Addr)(rc:Nat)(RA':Option Addr)(rc':Nat)(cnt:Int)(w:World)(h1:RC w w.heap.size HA hd)(h2:RC w w.heap.size HA' hd)(hn:hd.length<=1000000)(hF:RR w w.heap.size RA rs)(ih:RR w w.heap.size RA' ss)(q1:rs.map (·.l)=ss.map (·.l))(q2:rs.length<=1000)(q3:∀r∈rs,r.l.length<=1000):
  ar 13 #[.agg #[.slice HA hd.length hc,.slice RA rs.length rc,af cnt],.agg #[.slice HA' hd.length hc',.slice RA' ss.length rc',af cnt]] w λ e w'=>e=.returned (.bool true)/\aj w w':=by
 have bb:=ah w (.cells #[.slice HA hd.length hc,.slice RA rs.length rc,af cnt] 33);have HX:=aC.new w 33 #[.slice HA hd.length hc,.slice RA rs.length rc,af cnt];obtain⟨W1,hW1⟩:∃W1,W1=w.alloc (.cells #[.slice HA hd.length hc,.slice RA rs.length rc,af cnt] 33):=⟨_,rfl⟩;have s1:W1.heap.size=w.heap.size+1:=by rw[hW1,World.size_alloc]
 rw[<- hW1] at bb HX;have b2:=ah W1 (.cells #[.slice HA' hd.length hc',.slice RA' ss.length rc',af cnt] 33);have k2:=aC.new W1 33 #[.slice HA' hd.length hc',.slice RA' ss.length rc',af cnt];rw[s1] at k2;have q4:=ai.then bb b2;have HX:=HX.later b2;subst hW1;have H1:=aa (xj HA hc HA' hc' hd _ (h1.later q4) (h2.later q4) hn);have HF:=aa hF;have IH:=aa ih;have Q1:=aa q1;have HH:=aa q2;have Q3:=aa q3;have Q4:=aa q4;have x0:=HX.cell 0;have hex:=HX.cell 1;have x2:=HX.cell 2;open zjy in exact Zin
def Hh:QL:=⟨⟨none,0,0⟩,⟨none,0,0⟩,⟨none,0,0⟩,⟨none,0,0⟩,⟨none,0,0⟩,⟨none,0,0⟩⟩
theorem JU (w:World):rD w mz Hh:=
 by
 have h:fU w [] none 0:=⟨rfl,[],.inl rfl,by unfold Tr.aQ;rfl⟩;have k:eQ w [] none 0:=⟨rfl,[],.inl rfl,rfl,by simp only[map_nil];unfold Tr.aQ;rfl⟩;exact⟨k,h,h,h,k,rfl,.inl rfl⟩
theorem Nw:Few mz:=⟨by decide,by decide,by decide,by decide,by decide,by decide,λ n hn=>by cases hn⟩
theorem JV:mz.Ok:=by refine⟨?_,?_,?_,?_,?_,by decide,by decide,by decide,by decide,by decide⟩<;> simp[mz,Tr.cP]
variable{so:List aN}
theorem Nx{rows:List (List Val)}(h1:(so.map (·.l)).Perm rows)(h2:so.Pairwise le):so.map (·.l)=qm bu rows:=by have:=uy eD id (λ x y h=>fG x y h) (so.map (·.l)) (qm bu rows) (h1.trans (fX bu rows).symm) ((pairwise_map (f:=λ r:aN=>r.l) (R:=λ a b=>bu a b<=0)).2 h2) (iU eD rows);exact Zfa
theorem star_in(hE:zW W)(c1:RC W W.heap.size CA cols)(c2:cols.length<=140737488355328)(r1:RR W W.heap.size RA rows)(r2:rows.length<=140737488355328)(r3:∀r∈rows,r.l.length<=140737488355328/\∀a∈r.l,a.Ok/\0<=a.k/\a.k<=255):xi W mz Hh CA cols RA rows:=
 ⟨JU W,JV,by simp[mz,Qy.all,Tr.smalls],by decide,by decide,by decide,(λ n hn=>nomatch hn),hE,c1,c2,r1,r2,λ r hr=>⟨(r3 r hr).1,λ v hv=>((r3 r hr).2 v hv).1⟩⟩
theorem zep.KaO(h:p:=by exact Zf3):p:=h
theorem zfq.Ka6(h:p:=by go_big_quiet_step ((go_at_call 14;exact aB (Nat.le_refl _) (hc _)));open zep in exact ZbB):p:=h
theorem zjz.KcJ(h:p:=by clear h2 h3 h4 a2 hrun KK b10 k2 Xm Kd hsm u0 u1 u2 q3;go_upto_region 15 with fail;generalize w9.alloc _=MH at*;generalize w9.heap.size=gb at*;go_wp2_with fail;refine HSM.ae.mono ?_;rintro e w11 ⟨rfl,UM⟩;replace HB:=aa (ai.then HB.ae UM);go_wp2_with fail;refine(yO _ (V1.ae.env.later HB.ae)).mono ?_;rintro e w12 ⟨rfl,b12⟩;go_wp2_with fail;go_ret;exact⟨rfl,ai.then HB.ae b12⟩):p:=h
theorem star_any (CA:Option Addr)(cc:Nat)(cols:List aZ)(RA:Option Addr)(rc:Nat)(rows:List aN)(w:World)(h:xi w mz Hh CA cols RA rows):
  ar 8 #[.slice CA cols.length cc,.slice RA rows.length rc] w λ e w'=>e=.returned (.bool true)/\aj w w':=by
 have V1:=aa h;have hgr:=h.great cc rc;clear h;unfold tJ Hh mz at hgr;go_enter Tryz.func8,Tryz.ntmps8;go_wp2_with fail;refine hgr.mono ?_;rintro e W2 ⟨b,rfl,b2,bh⟩;have HB:=aa b2;have apt:=aa bh;clear hgr b2 bh;cases b;case true=>go_wp2_with fail;refine(yO _ (V1.ae.env.later HB.ae)).mono ?_;exact Zey
 have HG:=aa (apt.ae rfl);have HIW:=aa (V1.ae.later HB.ae);have HCR:=aa (HIW.ae.cr_ HG.ae);clear apt;go_wp2_with fail;refine(ait rc HCR.ae).mono ?_;rintro e w4 ⟨v,rfl,⟨A,c,rs,rfl,Kd,hm⟩,b4⟩;have hrun:=Nt c (tG cc (JU w4) JV Nw ((HCR.ae.later b4).same Kd hm));rw[hm] at hrun;unfold tJ Hh mz at hrun;replace HB:=aa (ai.then HB.ae b4);have Pn:=aa (V1.ae.rr.later HB.ae);clear Kd hm HIW HCR b4;go_wp2_with fail;refine hrun.mono ?_;rintro e w5 ⟨v,rfl,hv,b5⟩;replace Pn:=aa (Pn.ae.later b5);replace HB:=aa (ai.then HB.ae b5);clear hrun b5;replace hv:=aa (show apn (pD mz cols (rows.map (·.l))) _ _ _ from hv);rw[Mx] at hv;by_cases hf:(rows.map (·.l)).any (λ r=> !ib cols r)=true
 ·rw[if_pos hf] at hv;obtain⟨_,rfl⟩:=hv.ae;clear hv hf;have Jm:=aa (ai.then HB.ae (ah w5 (.cells #[az,az,af 0] 33)));go_wp2_with fail;refine(yO _ (V1.ae.env.later Jm.ae)).mono ?_;rintro e w1 ⟨rfl,b9⟩;go_wp2_with fail;go_ret;exact⟨rfl,ai.then Jm.ae b9⟩
 ·rw[if_neg hf] at hv;obtain⟨HA,Lw,OA,oc,kl,rfl,h2,h3,h4,a2⟩:=hv.ae;obtain⟨A9,c9,e9,Xm⟩:=xf h2;injection e9 with e9 en ec;clear ec;subst e9;obtain⟨A8,c8,e8,Kd⟩:=He h3 λ r hr=>(h4 r hr).rv
  injection e8 with e8 en2 ec2;clear ec2;subst e8;have zE:(qm bu (rows.map (·.l))).length=kl.length:=by rw[<- a2,length_map]
  have SZ:kl.length=rows.length:=by rw[<- zE,(fX bu _).length_eq,length_map]
  rw[zE];have H5:=aa a2;have HF:=aa hf;have HLR:=aa SZ;have b6:=ah w5 (.cells #[.slice HA cols.length Lw,.slice OA kl.length oc,af kl.length] 33);have Ka:=aa (aC.new w5 33 #[.slice HA cols.length Lw,.slice OA kl.length oc,af kl.length]);replace HB:=aa (ai.then HB.ae b6);replace Pn:=aa (Pn.ae.later b6);have HO:=aa (Xm.later b6);have HK:=aa (Kd.later b6);clear hv hf zE SZ h2 h3 h4 a2 Xm Kd b6;go_wp2_with fail;generalize w5.alloc _=W6 at*;generalize w5.heap.size=ga at*;refine(P8 RA rc rows W6 Pn.ae (by have:=HG.ae.rn;omega) (λ r hr=>by have:=HG.ae.each r hr;omega)).mono ?_;rintro e w7 ⟨SA,sc,aL,rfl,hpm,hpw,LM,_,b1⟩;have Qw:=Nx hpm hpw;have hn:kl.length=aL.length:=by have:=congrArg List.length (Qw.trans H5.ae.symm);rw[length_map,length_map] at this;exact this.symm
  replace Ka:=aa (show aC w7 ga 33 #[.slice HA cols.length Lw,.slice OA aL.length oc,af aL.length] from hn▸Ka.ae.later b1);replace HB:=aa (ai.then HB.ae b1);replace HO:=aa (HO.ae.later b1);replace HK:=aa (HK.ae.later b1);have K1:=aa LM;have HSO:=aa Qw;have IH:=aa hn;have u0:=Ka.ae.cell 0;have u1:=Ka.ae.cell 1;have u2:=Ka.ae.cell 2
  simp only[Uaa] at u0 u1 u2;clear hpm hpw LM Qw hn b1 Pn;go_wp2_with fail;refine(xj HA Lw CA cc cols w7 HO.ae (V1.ae.cr.later HB.ae) (by have:=HG.ae.cl;omega)).mono ?_;rintro e w8 ⟨rfl,b3⟩;replace Ka:=aa (Ka.ae.later b3);replace HB:=aa (ai.then HB.ae b3);replace HO:=aa (HO.ae.later b3);replace HK:=aa (HK.ae.later b3);replace K1:=aa (K1.ae.later b3);have aiv:=aa (show∀r∈kl,r.l.length<=30/\∀v∈r.l,v.Ok from λ r hr=>by
   have hm:r.l∈kl.map (·.l):=List.mem_map.2 ⟨r,hr,rfl⟩
   rw[H5.ae,(fX bu _).mem_iff] at hm
   obtain⟨x,hx,he⟩:=List.mem_map.1 hm
   rw[<- he]
   exact⟨HG.ae.each x hx,(V1.ae.each x hx).2⟩)
  have auZ:=aa (show∀r∈aL,r.l.length<=1000 from λ r hr=>by
   have hm:r.l∈aL.map (·.l):=List.mem_map.2 ⟨r,hr,rfl⟩
   rw[HSO.ae,(fX bu _).mem_iff] at hm
   obtain⟨x,hx,he⟩:=List.mem_map.1 hm
   rw[<- he]
   have:=HG.ae.each x hx
   omega)
  have vn:aL.length<=1000:=by have:=HG.ae.rn;have:=HLR.ae;have:=IH.ae;omega
  clear u0 u1 u2 b3;go_wp2_with fail;go_loopw [8] (λ iv wr=>∃i:Nat,i<=aL.length/\iv=af i/\aj w8 wr) (λ iv _=>aL.length - (intOf iv).toNat);case atStart=>exact Zf0
  case round=>
   obtain⟨i,hk,rfl,hB⟩:=hrel;have ka:=Ka.ae.later hB;have u0:=ka.cell 0;have u1:=ka.cell 1;have u2:=ka.cell 2;simp only[Uaa] at u0 u1 u2;have ual:=ka.lt;by_cases hlt:i < aL.length
   ·have fK:i < kl.length:=by have:=IH.ae;omega
    obtain⟨Kx,o1,Uh,l1,c1,r1⟩:=(K1.ae.later hB).at_ hlt;obtain⟨b2,o2,xH,l2,c2,r2⟩:=(HK.ae.later hB).at_ fK;have heq:aL[i].l=kl[i].l:=by have h1:=congrArg (λ l=>l[i]?) (HSO.ae.trans H5.ae.symm);simp only[getElem?_map,getElem?_eq_getElem hlt,getElem?_eq_getElem fK,Option.map_some] at h1;injection h1
    have t1:(bu aL[i].l kl[i].l != 0)=false:=by rw[heq,om];rfl
    rw[xH] at u1;subst Uh;have k1:=λ x:Ext wr.heap.size wr=>(x.h.cell (p:=⟨ga,1,none⟩) ual).trans u1
    have k3:=λ x:Ext wr.heap.size wr=>(x.h.cell (p:=⟨Kx,o1+i,none⟩) l1).trans c1
    have k4:=λ x:Ext wr.heap.size wr=>(x.h.cell (p:=⟨b2,o2+i,none⟩) l2).trans c2
    have hc:=λ x:Ext wr.heap.size wr=>vQ aL[i].A aL[i].c aL[i].l kl[i].A kl[i].c kl[i].l x.w (r1.later x.h) (r2.later x.h) (auZ.ae _ (getElem_mem hlt)) (by have:=(aiv.ae _ (getElem_mem fK)).1;omega)
    clear u0 u1 u2 c1 c2 l1 l2 r1 r2 xH heq ka;go_upto_region 12 with fail;refine aD 11 wr.heap.size wr (Below.refl _ _) Vx Vx Vx Vx ?_;open zfq in exact ZcP
   ·replace HB:=aa (Below.trans HB.ae (hB.mono HB.ae.size));replace HO:=aa (HO.ae.later hB);replace HK:=aa (HK.ae.later hB);replace Ka:=aa ka;have xw:CR wr HA cols OA kl:=⟨V1.ae.env.later HB.ae,HO.ae,HG.ae.cl,HK.ae,by have:=HG.ae.rn;have:=HLR.ae;omega,aiv.ae⟩;have hrun:=Nt oc (tG Lw (JU wr) JV Nw xw);rw[IH.ae] at hrun;have hS:qm bu (kl.map (·.l))=kl.map (·.l):=by have hs:=iU eD (rows.map (·.l));rw[<- H5.ae] at hs;have:=uy eD id (λ x y h=>fG x y h) _ _ (fX bu (kl.map (·.l))) (iU eD _) hs;simpa using this
    have hff:(kl.map (·.l)).any (λ r=> !ib cols r)≠true:=by rw[H5.ae];intro h;obtain⟨x,hx,hy⟩:=List.any_eq_true.1 h;exact HF.ae (List.any_eq_true.2 ⟨x,(fX bu _).mem_iff.1 hx,hy⟩)
    rw[Mx,if_neg hff,hS] at hrun;unfold tJ Hh mz at hrun;clear xw hS hff ka ual hB;go_wp2_with fail;refine hrun.mono ?_;rintro e w9 ⟨v,rfl,hv,KK⟩;obtain⟨LK,hc2,OA2,oc2,ys,rfl,h2,h3,h4,a2⟩:=hv;obtain⟨A9,c9,e9,Xm⟩:=xf h2;injection e9 with e9 en ec;clear ec;subst e9;obtain⟨A8,c8,e8,Kd⟩:=He h3 λ r hr=>(h4 r hr).rv
    injection e8 with e8 en2 ec2;clear ec2;subst e8;have q3:ys.length=aL.length:=by have:=congrArg List.length a2;rw[length_map,length_map] at this;rw[this,IH.ae]
    rw[length_map,IH.ae,q3];have b10:=ai.then KK (ah w9 (.cells #[.slice LK cols.length hc2,.slice OA2 aL.length oc2,af aL.length] 33));have k2:=aC.new w9 33 #[.slice LK cols.length hc2,.slice OA2 aL.length oc2,af aL.length];replace Xm:=Xm.later (ah w9 (.cells #[.slice LK cols.length hc2,.slice OA2 aL.length oc2,af aL.length] 33));replace Kd:=Kd.later (ah w9 (.cells #[.slice LK cols.length hc2,.slice OA2 aL.length oc2,af aL.length] 33));replace Ka:=aa (Ka.ae.later b10);replace HB:=aa (ai.then HB.ae b10);have hsm:=Nv cols HA Lw LK hc2 kl ys OA oc OA2 oc2 aL.length (w9.alloc (.cells #[.slice LK cols.length hc2,.slice OA2 aL.length oc2,af aL.length] 33)) (HO.ae.later b10) Xm (by have:=HG.ae.cl;omega) (HK.ae.later b10) Kd a2.symm (by have:=IH.ae;omega) (λ r hr=>by have:=(aiv.ae r hr).1;omega);rw[IH.ae,q3] at hsm;have HSM:=aa hsm;have x0:=Ka.ae.cell 0;have hex:=Ka.ae.cell 1;have x2:=Ka.ae.cell 2;open zjz in exact Zin
def laidL:List (String×DataW Unit):=Rows.queryLimitRow.laid
noncomputable def laidW (os:Os):World:=World.laidAll Tryz.prog os laidL
theorem laid_os (os:Os):(laidW os).os=os:=World.laidAll_os _ _ _
theorem laid_met (os:Os)(args:Array Value):laidMet Tryz.prog laidL ((laidW os).forCall (λ _ _=>0) ⟨#[],args,[]⟩).memory:=
 laidMet_laidAll _ Vx Vx
theorem env_of(h:laidMetH Tryz.prog laidL W):zW W:=by rw[MakeChecks.laidMetH_plain _ _ _ Vx] at h;have h3:laidMet Tryz.prog [("internal/strconv.uint64pow10",Lib.tabData .u64 Lib.pow10Tab)] W:=h.tail.tail;exact Lib.tabIs_of_head (g:=0) (t:=261) (e:=195) (n:=20) Vx Vx Tryz.underlying261 Tryz.underlying195 Vx Vx h3
section
variable {H:Type} {enc:TypeId×Value->H} {W:World} {base:Nat} {v0 v1 v2:Value} {d0 d1 d2:DataW H} {p0 p1 p2:List MemPlace}
end
end Go.Proofs.YtndgjggokjickaaGreatDoor
