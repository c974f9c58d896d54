/- Parts of the proof. -/
import Derived.Test.YtehhdlgjfdnafaaGreatDoorXF25
import Derived.Test.YtehhdlgjfdnafaaGreatDoorXF29
namespace Go.Proofs.YtehhdlgjfdnafaaGreatDoor
open List
set_option maxHeartbeats 90000000
set_option maxRecDepth 100000
set_option linter.unusedVariables false
set_option linter.unusedSimpArgs false
theorem Aw:∀(r:List UInt8) (t rest:List UInt8),fw r=some (t,rest)->t.length<=r.length
 | [],t,rest,h=>by simp[fw] at h
 | [c],t,rest,h=>by
   simp only[fw] at h;split at h
   ·injection h with h;injection h with h1 h2;subst h1;simp
   ·cases h
 | c::d::r,t,rest,h=>by
   simp only[fw] at h;split at h
   ·split at h
    ·obtain⟨x,hx,h2⟩:=Option.map_eq_some_iff.1 h;have:=Aw r x.1 x.2 hx;injection h2 with h2 h3;subst h2;simp only[length_cons];omega
    ·injection h with h;injection h with h1 h2;subst h1;simp
   ·obtain⟨x,hx,h2⟩:=Option.map_eq_some_iff.1 h;have:=Aw (d::r) x.1 x.2 hx;injection h2 with h2 h3;subst h2;simp only[length_cons] at this ⊢;omega
theorem WI:∀s∈signs,s.length<=2:=by decide
theorem Bt:∀(k:List (List UInt8)) (r s:List UInt8),gp k r=some s->s∈k
 | [],r,s,h=>by cases h
 | a::k,r,s,h=>by
   simp only[gp] at h;split at h
   ·injection h with h;subst h;simp
   ·exact mem_cons_of_mem _ (Bt k r s h)
variable{r rest:List UInt8}
theorem T6{w:Wd}(h:dG r=.ok (w,rest)):w.s.length<=r.length+32:=by
 match r with
 | []=>cases h
 | c::r=>
   simp only[dG] at h;split at h
   ·split at h
    ·rename_i h2;injection h with h;injection h with h1 h2;subst h1;simp only[length_map];omega
    ·cases h
   split at h
   ·split at h
    ·injection h with h;injection h with h1 h2;subst h1;simp
    ·cases h
   split at h
   ·split at h
    ·rename_i t q hq;injection h with h;injection h with h1 h2;subst h1;have:=Aw _ _ _ hq;simp only[length_cons];omega
    ·cases h
   ·split at h
    ·rename_i s hs;injection h with h;injection h with h1 h2;subst h1;have:=WI s (Bt _ _ _ hs);simp only;omega
    ·cases h
def WZ (t:Wd):Prop:=Y7 t/\t.s.length<=5000
theorem Nt (n:Nat):∀(f:Nat) (r:List UInt8) (l:List na),oZ n f r=.ok l->∀t∈l,t.w.s.length<=r.length+32
 | 0,r,l,h=>by cases h
 | f+1,r,l,h=>by
   have hle:=jC false r;simp only[oZ] at h;split at h
   ·injection h with h;subst h;intro t ht;simp at ht;subst ht;simp
   ·rename_i c r' hsk;rw[hsk] at hle;split at h
    ·cases h
    ·rename_i w rest ho;have hlt:=rR ho;split at h
     ·cases h
     ·rename_i l' hl';injection h with h;subst h;intro t ht;rcases List.mem_cons.1 ht with rfl | ht
      ·have:=T6 ho;simp only;omega
      ·have:=Nt n f rest l' hl' t ht;omega
variable{s:List UInt8}{l:List na}
theorem acR(h:kO s=.ok l):∀w∈l.map (·.w),WZ w:=λ w hw=>by
 refine⟨Nq h w hw,?_⟩;unfold kO at h;split at h
 ·cases h
 ·obtain⟨t,ht,rfl⟩:=List.mem_map.1 hw;have:=Nt _ _ _ _ h t ht;omega
variable{α:Type}
def EX(k:Nat)(p:Ps α)(c:α->Nat)(Q:α->Prop):Prop:=∀l x r,(∀w∈l,WZ w)->p l=.ok (x,r)->(∀w∈r,WZ w)/\Q x/\c x+r.length<=l.length+k
section
variable {α β:Type} {p:Ps α} {Q Q':α->Prop} {R:β->Prop} {k k':Nat} {c:α->Nat} {d:β->Nat}
theorem az {f:α->Ps β}(h:EX k p c Q)(g:∀x,Q x->EX (c x) (f x) d R):EX k (p >>= f) d R:=by intro l y r hl e;obtain⟨x,m,h1,h2⟩:=Bq e;obtain⟨a,b,b2⟩:=h _ _ _ hl h1;obtain⟨a2,b3,b4⟩:=g x b _ _ _ a h2;exact⟨a2,b3,by omega⟩
theorem bZ {x:α}(h:Q x)(hk:c x<=k):EX k (pure x:Ps α) c Q:=by intro l y r hl e;rw[Je] at e;injection e with e;injection e with e1 e2;subst e1 e2;exact⟨hl,h,by omega⟩
theorem Ct (h:EX k p c Q)(hk:k<=k'):EX k' p c Q:=λ l x r hl e=>by obtain⟨a,b,b2⟩:=h _ _ _ hl e;exact⟨a,b,by omega⟩
theorem Nu:EX k (tS:Ps α) c Q:=by intro l x r hl e;cases e
theorem js {C:Prop} [Decidable C] {q:Ps α}(h:C->EX k p c Q)(g:¬C->EX k q c Q):EX k (if C then p else q) c Q:=by
 split
 ·exact h ‹_›
 ·exact g ‹_›
theorem xz {l:aK}(h:∀w∈l,WZ w):∀w∈l.tail,WZ w:=λ w hw=>h w (mem_of_mem_tail hw)
theorem head_ne {s:List UInt8} {l:aK}(h:ar s l=true):l.tail.length+1=l.length:=by
 cases l with
 | nil=>cases h
 | cons t l=>simp
theorem lp (s:List UInt8):EX k (may s) (λ b=>k+if b then 1 else 0) λ _=>True:=by
 intro l x r hl e;unfold may at e;split at e
 ·rename_i hh;have:=head_ne hh;injection e with e;injection e with e1 e2;subst e1 e2;exact⟨xz hl,trivial,by simp only[if_true];omega⟩
 ·injection e with e;injection e with e1 e2;subst e1 e2;exact⟨hl,trivial,by simp;omega⟩
theorem cS (s:List UInt8):EX k (must s) (λ _=>k+1) λ _=>True:=by
 intro l x r hl e;unfold must at e;split at e
 ·rename_i hh;have:=head_ne hh;injection e with e;injection e with e1 e2;subst e1 e2;exact⟨xz hl,trivial,by dsimp only;omega⟩
 ·cases e
theorem Ax:∀ks:List (List UInt8),EX k (jS ks) (λ _=>k+1) λ s=>s∈ks
 | []=>Nu
 | s::ks=>by
   intro l x r hl e;unfold jS at e;split at e
   ·rename_i hh;have:=head_ne hh;injection e with e;injection e with e1 e2;subst e1 e2;exact⟨xz hl,by simp,by dsimp only;omega⟩
   ·obtain⟨a,b,b2⟩:=Ax ks _ _ _ hl e;exact⟨a,mem_cons_of_mem _ b,b2⟩
theorem ik:EX k cC (λ _=>k+1) λ n=>n.size<=5000:=by
 intro l x r hl e
 cases l with
 | nil=>cases e
 | cons t l=>
   simp only[cC] at e;split at e
   ·injection e with e;injection e with e1 e2;subst e1 e2;refine⟨λ w hw=>hl w TaT,?_,by simp only[length_cons];omega⟩;have:=(hl t Tad).2;show t.s.toArray.size<=_;exact Zdt
   ·cases e
theorem sQ:EX k lZ (λ _=>k+1) λ n=>0<=n/\n<=9223372036854775807:=by
 intro l x r hl e
 cases l with
 | nil=>cases e
 | cons t l=>
   simp only[lZ] at e;split at e
   ·rename_i h;injection e with e;injection e with e1 e2;subst e1 e2;exact⟨λ w hw=>hl w TaT,(hl t Tad).1.2 h,by simp only[length_cons];omega⟩
   ·cases e
theorem SX {n:α->Nat}(h:∀k,EX k p (λ x=>n x+k) Q):∀(f:Nat) (acc:List α),(∀x∈acc,Q x)->EX ((acc.map n).sum+k) (nD p f acc) (λ l=>(l.map n).sum+k) λ l=>∀x∈l,Q x
 | 0,acc,ha=>bZ ha (Nat.le_refl _)
 | f+1,acc,ha=>by
   intro l y r hl e;simp only[nD] at e;split at e
   ·rename_i hh;have h1:=head_ne hh;obtain⟨a,b,b2⟩:=az (d:=λ l=>(l.map n).sum+k) (R:=λ l=>∀x∈l,Q x) (h ((acc.map n).sum+k)) (λ z hz=>Ct (SX h f (acc++ [z]) λ x hx=>by
     rcases List.mem_append.1 hx with hx | hx
     ·exact ha x hx
     ·simp at hx;subst hx;exact hz) Tae) _ _ _ (xz hl) e
    exact⟨a,b,by omega⟩
   ·injection e with e;injection e with e1 e2;subst e1;subst e2;exact⟨hl,ha,by dsimp only;omega⟩
theorem sR {n:α->Nat}(h:∀k,EX k p (λ x=>n x+k) Q):EX k (dN p) (λ l=>(l.map n).sum+k) λ l=>∀x∈l,Q x:=by
 refine az (h k) λ z hz=>?_
 intro l y r hl e;have:=SX (k:=k) h l.length [z] (λ x hx=>by simp at hx;subst hx;exact hz) l y r hl e;exact Zdt
end
def Fz (t:Tr):Prop:=t.fine/\t.thin
variable{o w:Int}{v:Val}{n:ByteArray}
theorem SY(h1:v.Ok)(h2:v.s.size<=1048576)(h3:n.size<=1048576)(h4: -9223372036854775808<=w/\w<=9223372036854775807):Fz (.mk o v n w []):=by
 refine⟨?_,?_⟩
 ·unfold Tr.fine Tr.sU;exact⟨⟨h1,h2,h3,h4⟩,trivial⟩
 ·unfold Tr.thin Tr.iP;exact⟨by simp,trivial⟩
theorem Ay:aV.Ok/\aV.s.size<=1048576:=⟨by simp[aV,Val.Ok],by simp[aV]⟩
variable{ts:List Tr}
theorem SZ(h4: -9223372036854775808<=w/\w<=9223372036854775807)(hl:ts.length<=2)(h:∀t∈ts,Fz t):Fz (.mk o aV ByteArray.empty w ts):=by
 have f1:∀l:List Tr,(∀t∈l,Fz t)->Tr.sU l:=λ l=>by
  induction l with
  | nil=>intro _;unfold Tr.sU;trivial
  | cons t l ih=>intro h;unfold Tr.sU;exact⟨(h t Tad).1,ih λ x hx=>h x Tbe⟩
 have f2:∀l:List Tr,(∀t∈l,Fz t)->Tr.iP l:=λ l=>by
  induction l with
  | nil=>intro _;unfold Tr.iP;trivial
  | cons t l ih=>intro h;unfold Tr.iP;exact⟨(h t Tad).2,ih λ x hx=>h x Tbe⟩
 refine⟨?_,?_⟩
 ·unfold Tr.fine;exact⟨⟨Ay.1,Ay.2,by simp,h4⟩,f1 _ h⟩
 ·unfold Tr.thin;exact⟨by omega,f2 _ h⟩
theorem T7(hl:ts.length<=2)(h:∀t∈ts,Fz t):Fz (lO o ts):=SZ Tab hl h
theorem T8:∀(k:List (List UInt8×Int)) (l:aK) (o:Int),eB k l=some o->l.tail.length+1=l.length
 | [],_,_,h=>by cases h
 |(s,o)::k,l,o2,h=>by
  simp only[eB] at h;split at h
  ·rename_i hh;exact head_ne hh
  ·exact T8 k l o2 h
def EE (p:Ps Tr):Prop:=∀k,EX k p (λ t=>t.nodes+k) Fz
theorem uW (o:Int)(l:List Tr):(lO o l).nodes=Tr.aG l+1:=by unfold lO Tr.nodes;rfl
theorem EP (o w:Int)(v:Val)(n:ByteArray)(l:List Tr):(Tr.mk o v n w l).nodes=Tr.aG l+1:=by unfold Tr.nodes;rfl
theorem ER (x y:Tr):Tr.aG [x,y]=x.nodes+y.nodes:=by simp[Tr.aG]
theorem sS (x:Tr):Tr.aG [x]=x.nodes:=by simp[Tr.aG]
variable{x y:Tr}
theorem T9(hx:Fz x)(hy:Fz y):Fz (lO o [x,y]):=T7 Tad λ t ht=>by
 simp only[mem_cons,not_mem_nil,or_false] at ht;rcases ht with rfl | rfl
 ·exact hx
 ·exact hy
theorem U0(hx:Fz x):Fz (lO o [x]):=T7 Tad λ t ht=>by simp only[mem_cons,not_mem_nil,or_false] at ht;subst ht;exact hx
variable{below:Ps Tr}
theorem Nv(hb:EE below)(lv:Nat):∀(f k:Nat) (x:Tr),Fz x->EX (x.nodes+k) (jE below lv f x) (λ t=>t.nodes+k) Fz
 | 0,k,x,hx=>bZ hx (Nat.le_refl _)
 | f+1,k,x,hx=>by
   intro l y r hl e;simp only[jE] at e;split at e
   ·injection e with e;injection e with e1 e2;subst e1 e2;exact⟨hl,hx,by dsimp only;omega⟩
   ·rename_i o ho;have h1:=T8 _ _ _ ho;obtain⟨a,b,b2⟩:=az (d:=λ t=>t.nodes+k) (R:=Fz) (hb (x.nodes+1+k)) (λ z hz=>Ct (Nv hb lv f k _ (T9 (o:=o) hx hz)) (by rw[uW,ER];omega)) _ _ _ (xz hl) e;exact⟨a,b,by omega⟩
theorem Cu(hb:EE below)(lv:Nat):EE (jZ below lv):=λ k=>
 az (hb k) λ x hx=>λ l y r hl e=>Nv hb lv l.length k x hx l y r hl e
theorem aii(hb:EE below):EE (qU below):=λ k=>
 az (hb k) λ x hx=>az (lp _) λ b _=>js (λ h=>az (lp _) λ n _=>az (cS _) λ _ _=>bZ (U0 hx) (by rw[uW,sS];subst h;simp;omega)) λ h=>by
  intro l y r hl e;simp only[wQ] at e;split at e
  ·injection e with e;injection e with e1 e2;subst e1 e2;exact⟨hl,hx,by dsimp only;omega⟩
  ·rename_i o ho;have h1:=T8 _ _ _ ho;obtain⟨a,b,b2⟩:=az (d:=λ t=>t.nodes+k) (R:=Fz) (hb (x.nodes+1+k)) (λ z hz=>bZ (T9 (o:=o) hx hz) (by rw[uW,ER];omega)) _ _ _ (xz hl) e;exact⟨a,b,by omega⟩
variable{op:Int}{same:Ps Tr}
theorem aeT(hs:EE same)(hb:EE below):EE (IQ s op same below):=λ k=>
 az (lp _) λ b _=>js (λ h=>az (hs _) λ x hx=>bZ (U0 hx) (by rw[uW,sS];subst h;simp;omega)) λ h=>Ct (hb k) Tad
variable{whole:Ps Tr}
theorem Ta(hw:EE whole)(op:Int)(k:Nat):EX (k+1) (nY whole op) (λ t=>t.nodes+k) Fz:=by
 unfold nY;refine az (c:=λ _=>k+1) (Q:=λ w=>0<=w/\w<=9223372036854775807) ?_ λ w hw0=>az (hw _) λ x hx=>az (c:=λ ys=>Tr.aG ys+(x.nodes+(k+1))) (Q:=λ ys=>(∀y∈ys,Fz y)/\ys.length<=1) ?_ λ ys hys=>az (cS _) λ _ _=>bZ (SZ ⟨by omega,by omega⟩ Taq λ t ht=>?_) ?_
 ·unfold rY;exact js (λ h=>az sQ λ n hn=>az (cS _) λ _ _=>bZ hn Taa) λ h=>bZ Taa (Nat.le_refl _)
 ·unfold ot;exact js (λ h=>az (cS _) λ _ _=>az (hw _) λ y hy=>bZ ⟨λ z hz=>by simp at hz;subst hz;exact hy,by simp⟩ (by rw[sS];omega)) λ h=>bZ ⟨by simp,by simp⟩ (by simp[Tr.aG])
 ·rcases List.mem_cons.1 ht with rfl | ht
  ·exact hx
  ·exact hys.1 t ht
 ·rw[EP];simp only[Tr.aG];omega
theorem aij(hw:EE whole)(op:Int)(k:Nat):EX (k+1) (ou whole op) (λ t=>t.nodes+k) Fz:=by
 unfold ou;refine js (λ h=>?_) λ _=>Ta hw op k
 unfold countP;exact az (lp _) λ b _=>js (λ _=>az (cS _) λ _ _=>bZ (T7 Tad λ t ht=>by simp at ht) (by rw[uW];simp only[Tr.aG];omega)) λ hb=>Ct (Ta hw 22 k) Tad
theorem U1(hw:EE whole):EE (kU whole):=λ k=>
 az ik λ n hn=>by
  intro l y r hl e;simp only at e;split at e
  ·rename_i hh;have h1:=head_ne hh;split at e
   ·cases e
   ·rename_i o ho;obtain⟨a,b,b2⟩:=aij hw o k _ _ _ (xz hl) e;exact⟨a,b,by omega⟩
  ·injection e with e;injection e with e1 e2;subst e1 e2;exact⟨hl,SY Ay.1 Ay.2 Taa Tab,by show(rV n).nodes+k+_<=_;unfold rV;rw[EP];simp only[Tr.aG];omega⟩
theorem WJ (v:Val):(mI v).nodes=1:=by unfold mI;rw[EP];rfl
theorem acS(hw:EE whole):EE (dZ whole):=λ k=>by
 intro l y r hl e;cases l with
 | nil=>cases e
 | cons t l=>
   have ht:=hl t Tad;have hl2:∀w∈l,WZ w:=λ w hw=>hl w TaT
   simp only[dZ] at e;have fin:∀v:Val,v.Ok->v.s.size<=1048576->(∀w∈l,WZ w)/\Fz (mI v)/\(mI v).nodes+k+l.length<=(t::l).length+k:=λ v h1 h2=>⟨hl2,SY h1 h2 Tad Tab,by rw[WJ];simp only[length_cons];omega⟩
   split at e
   ·rename_i h;have:=ht.1.2 h;injection e with e;injection e with e1 e2;subst e1 e2;exact fin _ ⟨by simp only;omega,by simp only;omega⟩ Tad
   split at e
   ·injection e with e;injection e with e1 e2;subst e1 e2;have:=ht.2;exact fin _ ⟨by simp,by simp⟩ (by show t.s.toArray.size<=_;simp;omega)
   split at e
   ·injection e with e;injection e with e1 e2;subst e1 e2;exact fin _ ⟨by simp,by simp⟩ Tad
   split at e
   ·injection e with e;injection e with e1 e2;subst e1 e2;exact fin _ ⟨by simp,by simp⟩ Tad
   split at e
   ·injection e with e;injection e with e1 e2;subst e1 e2;exact fin _ Ay.1 Ay.2
   split at e
   ·obtain⟨a,b,b2⟩:=az (k:=k) (d:=λ t=>t.nodes+k) (R:=Fz) (hw k) (λ x hx=>az (cS _) λ _ _=>bZ hx Taa) _ _ _ hl2 e;have b3:y.nodes+k+r.length<=l.length+k:=b2;exact⟨a,b,by simp only[length_cons];omega⟩
   ·exact U1 hw k _ _ _ hl e
theorem uX:∀f lv:Nat,EE (pE f lv)
 | 0,_=>λ _=>Nu
 | f+1,0=>Cu (uX f 1) 0
 | f+1,1=>Cu (uX f 2) 1
 | f+1,2=>aeT (uX f 2) (uX f 3)
 | f+1,3=>aii (uX f 4)
 | f+1,4=>Cu (uX f 5) 4
 | f+1,5=>Cu (uX f 6) 5
 | f+1,6=>aeT (uX f 6) (uX f 7)
 | f+1,lv+7=>acS (uX f 0)
theorem vP:EE eD:=λ k l x r hl e=>uX _ 0 k l x r hl e
theorem vQ (s:List UInt8)(k:Nat):EX k (fU s) (λ l=>Tr.aG l+k) λ l=>∀t∈l,Fz t:=
 az (lp _) λ b _=>js (λ _=>az (vP _) λ x hx=>bZ (λ t ht=>by simp at ht;subst ht;exact hx) (by rw[sS];omega)) λ _=>bZ (λ t ht=>by simp at ht) (by simp only[Tr.aG];omega)
theorem acT (k:Nat):EX k nE (λ x=>x.1.nodes+k) λ x=>Fz x.1/\x.2.size<=5000:=
 az (vP _) λ x hx=>az (lp _) λ b _=>js (λ _=>az ik λ n hn=>bZ ⟨hx,hn⟩ Ta7) λ _=>bZ ⟨hx,by simp⟩ Ta7
theorem U2 (k:Nat):EX k km (λ x=>x.1.nodes+k) λ x=>Fz x.1:=
 az (vP _) λ x hx=>az (lp _) λ b _=>bZ hx Ta7
theorem Ks:∀l:List (Tr×α),(l.map λ x=>x.1.nodes).sum=Tr.aG (l.map (·.1))
 | []=>rfl
 | x::l=>by simp only[map_cons,sum_cons,Tr.aG,Ks l]
theorem Tb:∀l:List (α×Tr),(l.map λ x=>x.2.nodes).sum=Tr.aG (l.map (·.2))
 | []=>rfl
 | x::l=>by simp only[map_cons,sum_cons,Tr.aG,Tb l]
theorem ET:∀l:List Tr,(l.map λ x=>x.nodes).sum=Tr.aG l
 | []=>rfl
 | x::l=>by simp only[map_cons,sum_cons,Tr.aG,ET l]
variable{k:Nat}{c d:α->Nat}{Q:α->Prop}
theorem Cv{p:Ps α}   (h:EX k p c Q)(hc:∀x,d x<=c x):EX k p d Q:=λ l x r hl e=>by obtain⟨a,b,b2⟩:=h _ _ _ hl e;exact⟨a,b,by have:=hc x;omega⟩
theorem U3 (k:Nat):EX k qG (λ l=>Tr.aG (l.map (·.1))+k) λ l=>∀x∈l,Fz x.1/\x.2.size<=5000:=
 az (lp _) λ b _=>js (λ _=>bZ (λ t ht=>by simp at ht) Tbm) λ _=>Cv (sR (n:=λ x=>x.1.nodes) acT) λ l=>by rw[Ks];omega
theorem U4 (k:Nat):EX k pc (λ l=>Tr.aG l+k) λ l=>∀x∈l,Fz x:=
 az (lp _) λ b _=>js (λ _=>az (cS _) λ _ _=>Cv (sR (n:=λ x=>x.nodes) (λ k=>vP k)) λ l=>by rw[ET];omega) λ _=>bZ (λ t ht=>by simp at ht) (by simp only[Tr.aG];omega)
theorem WK (k:Nat):EX k ma (λ l=>Tr.aG (l.map (·.1))+k) λ l=>∀x∈l,Fz x.1:=
 az (lp _) λ b _=>js (λ _=>az (cS _) λ _ _=>Cv (sR (n:=λ x=>x.1.nodes) U2) λ l=>by rw[Ks];omega) λ _=>bZ (λ t ht=>by simp at ht) Tbm
theorem U5 (k:Nat):EX k qH (λ l=>l.length+k) λ l=>∀n∈l,0<=n/\n<=9223372036854775807:=
 az (lp _) λ b _=>js (λ _=>az sQ λ n hn=>bZ (λ t ht=>by simp at ht;subst ht;exact hn) (by simp only[length_singleton];omega)) λ _=>bZ (λ t ht=>by simp at ht) (by simp only[length_nil];omega)
structure QuF (q:Qu):Prop where
 items:∀x∈q.items,Fz x.1/\x.2.size<=5000
 aP:q.aP.size<=5000
 aS:∀t∈q.aS,Fz t
 group:∀t∈q.group,Fz t
 having:∀t∈q.having,Fz t
 order:∀x∈q.order,Fz x.1
 aN:∀n∈q.aN,0<=n/\n<=9223372036854775807
theorem Nw (k:Nat):EX k dc (λ q=>Tr.aG q.exprs+q.aN.length+k) QuF:=
 az (cS _) λ _ _=>az (U3 _) λ i hi=>az (cS _) λ _ _=>az (lp _) λ _ _=>az ik λ f hf=>az (vQ _ _) λ w hw=>az (U4 _) λ g hg=>az (vQ _ _) λ h hh=>az (WK _) λ o ho=>az (U5 _) λ l hl=>bZ ⟨hi,hf,hw,hg,hh,ho,hl⟩ (by
  unfold Qu.exprs
  simp only[dy]
  omega)
structure StF (s:St):Prop where
 kind:0<=s.kind/\s.kind<=255
 what:0<=s.what/\s.what<=255
 names:s.name.size<=5000/\s.time.size<=5000/\s.space.size<=5000/\s.cM.size<=5000
 yo:(0<=s.every/\s.every<=9223372036854775807)/\(0<=s.parts/\s.parts<=9223372036854775807)/\(0<=s.a/\s.a<=9223372036854775807)/\(0<=s.b/\s.b<=9223372036854775807)
 aP:s.aP.Ok/\s.aP.s.size<=5000
 dx:s.dx.Ok/\s.dx.s.size<=5000
 bg:∀c∈s.bg,c.1.size<=5000/\0<=c.2/\c.2<=255
 rows:∀r∈s.rows,∀t∈r,Fz t
 bF:∀x∈s.bF,Fz x.2/\x.1.size<=5000
 aS:∀x∈s.aS,Fz x
 query:QuF s.query
def St.words (s:St):Nat:=Tr.aG s.exprs+s.bg.length+s.rows.length+s.query.aN.length
theorem qC:QuF {}:=⟨by simp,by simp,by simp,by simp,by simp,by simp,by simp⟩
theorem il:StF {}:=⟨by simp,by simp,by simp,by simp,by simp[aV,Val.Ok],by simp[aV,Val.Ok],by simp,by simp,by simp,by simp,qC⟩
abbrev ES (p:Ps St):Prop:=∀k,EX k p (λ s=>s.words+k) StF
theorem acU (k:Nat):EX k gL (λ _=>1+k) λ c=>c.1.size<=5000/\0<=c.2/\c.2<=255:=
 az ik λ n hn=>az (Ax _) λ t _=>bZ ⟨hn,by have:=type_of t;exact⟨by simp only;omega,by simp only;omega⟩⟩ Taa
theorem U6 (k:Nat):EX k tT (λ _=>k) λ x=>x.1.size<=5000/\0<=x.2/\x.2<=9223372036854775807:=
 az (lp _) λ b _=>js (λ _=>az ik λ n hn=>az (cS _) λ _ _=>az sQ λ m hm=>bZ ⟨hn,hm⟩ Taa) λ _=>bZ Tad Taa
theorem Tc:∀l:List α,(l.map λ _=>1).sum=l.length
 | []=>rfl
 | x::l=>by simp only[map_cons,sum_cons,length_cons,Tc l];omega
theorem U7:ES tU:=λ k=>by
 unfold tU;refine az ik λ n hn=>az (cS _) λ _ _=>az (sR (n:=λ _=>1) acU) λ cs hcs=>az (cS _) λ _ _=>az (cS _) λ _ _=>az ik λ t ht=>az (cS _) λ _ _=>az sQ λ e he=>az (U6 _) λ sp hsp=>bZ ⟨by simp,by simp,⟨hn,ht,hsp.1,by simp⟩,⟨he,hsp.2,by simp,by simp⟩,il.aP,il.dx,hcs,by simp,by simp,by simp,qC⟩ ?_
 rw[Tc];simp only[St.words,St.exprs,Qu.exprs,flatten_nil,map_nil,append_nil,Tr.aG,length_nil];omega
theorem acV:ES Gi:=λ k=>by
 unfold Gi;refine az ik λ n hn=>az (cS _) λ _ _=>az (Nw _) λ q hq=>bZ ⟨by simp,by simp,⟨hn,by simp,by simp,by simp⟩,by simp,il.aP,il.dx,by simp,by simp,by simp,by simp,hq⟩ ?_
 simp only[St.words,St.exprs,flatten_nil,map_nil,nil_append,length_nil];omega
theorem acW (s:List UInt8)(k:Nat):EX k (tV s) (λ _=>k) λ x=>(0<=x.1/\x.1<=9223372036854775807)/\(0<=x.2/\x.2<=9223372036854775807):=by
 unfold tV;exact js (λ h=>az (cS _) λ _ _=>az sQ λ a ha=>az (cS _) λ _ _=>az sQ λ b hb=>bZ ⟨ha,hb⟩ Taa) λ h=>az (cS _) λ _ _=>az sQ λ a ha=>bZ ⟨ha,by simp⟩ Taa
theorem aik:ES Fk:=λ k=>by
 unfold Fk;refine az ik λ n hn=>az (Ax _) λ s hs=>az ik λ o ho=>az (acW s _) λ ab hab=>az (cS _) λ _ _=>az sQ λ e he=>bZ ⟨by simp,?_,⟨hn,by simp,by simp,ho⟩,⟨he,by simp,hab.1,hab.2⟩,il.aP,il.dx,by simp,by simp,by simp,by simp,qC⟩ ?_
 ·simp only;split
  ·omega
  split <;> omega
 ·simp only[St.words,St.exprs,Qu.exprs,flatten_nil,map_nil,append_nil,Tr.aG,length_nil];omega
theorem WL:ES kK:=λ k=>Cv (c:=λ s=>s.words+(k+1)) (az (Ax _) λ _ _=>js (λ _=>U7 _) λ _=>js (λ _=>acV _) λ _=>aik _) λ s=>by omega
theorem acX:ES AL:=λ k=>by
 unfold AL;refine az (Ax _) λ s _=>az ik λ n hn=>bZ ⟨by simp,?_,⟨hn,by simp,by simp,by simp⟩,by simp,il.aP,il.dx,by simp,by simp,by simp,by simp,qC⟩ ?_
 ·simp only;split
  ·omega
  split <;> omega
 ·simp only[St.words,St.exprs,Qu.exprs,flatten_nil,map_nil,append_nil,Tr.aG,length_nil];omega
theorem ail (k:Nat):EX k rZ (λ l=>Tr.aG l+1+k) λ l=>∀t∈l,Fz t:=
 az (cS _) λ _ _=>az (sR (n:=λ x=>x.nodes) (λ k=>vP k)) λ l hl=>az (cS _) λ _ _=>bZ hl (by rw[ET];omega)
theorem Nx:∀l:List (List Tr),(l.map λ r=>Tr.aG r+1).sum=Tr.aG l.flatten+l.length
 | []=>rfl
 | r::l=>by simp only[map_cons,sum_cons,flatten_cons,dy,length_cons,Nx l];omega
theorem WN:ES pX:=λ k=>by
 unfold pX;refine az (cS _) λ _ _=>az ik λ n hn=>az (cS _) λ _ _=>az (sR (n:=λ r=>Tr.aG r+1) ail) λ rs Rk=>bZ ⟨by simp,by simp,⟨hn,by simp,by simp,by simp⟩,by simp,il.aP,il.dx,by simp,Rk,by simp,by simp,qC⟩ ?_
 rw[Nx];simp only[St.words,St.exprs,Qu.exprs,map_nil,append_nil,length_nil];omega
theorem aim (k:Nat):EX k vR (λ x=>x.2.nodes+k) λ x=>Fz x.2/\x.1.size<=5000:=
 az ik λ n hn=>az (cS _) λ _ _=>az (vP _) λ x hx=>bZ ⟨hx,hn⟩ Ta7
theorem WO:ES pY:=λ k=>by
 unfold pY;refine az ik λ n hn=>az (cS _) λ _ _=>az (sR (n:=λ x=>x.2.nodes) aim) λ ss hss=>az (vQ _ _) λ w hw=>bZ ⟨by simp,by simp,⟨hn,by simp,by simp,by simp⟩,by simp,il.aP,il.dx,by simp,by simp,hss,hw,qC⟩ ?_
 rw[Tb];simp only[St.words,St.exprs,Qu.exprs,flatten_nil,map_nil,append_nil,nil_append,dy,length_nil];omega
theorem WR:ES pZ:=λ k=>by
 unfold pZ;refine az (cS _) λ _ _=>az ik λ n hn=>az (vQ _ _) λ w hw=>bZ ⟨by simp,by simp,⟨hn,by simp,by simp,by simp⟩,by simp,il.aP,il.dx,by simp,by simp,by simp,hw,qC⟩ ?_
 simp only[St.words,St.exprs,Qu.exprs,flatten_nil,map_nil,append_nil,nil_append,length_nil];omega
theorem WS:ES qa:=λ k=>by
 unfold qa;refine az (Nw k) λ q hq=>bZ ⟨by simp,by simp,by simp,by simp,il.aP,il.dx,by simp,by simp,by simp,by simp,hq⟩ ?_
 simp only[St.words,St.exprs,flatten_nil,map_nil,nil_append,length_nil];omega
theorem U8 (k:Nat):EX k qV (λ _=>k) λ v=>v.Ok/\v.s.size<=5000:=by
 unfold qV;refine az (lp _) λ b _=>js (λ _=>bZ (by simp[aV,Val.Ok]) Taa) λ _=>az (lp _) λ b _=>az sQ λ n hn=>bZ ⟨?_,by simp⟩ Taa
 unfold Val.Ok;simp only;split <;> omega
theorem acY (j:Int)(k:Nat):EX k (kB j) (λ _=>k) λ v=>v.Ok/\v.s.size<=5000:=by
 unfold kB;exact js (λ h=>az (U8 _) λ v hv=>az (cS _) λ _ _=>bZ hv Taa) λ h=>bZ (by simp[aV,Val.Ok]) Taa
theorem acZ:ES AO:=λ k=>by
 unfold AO;refine az (Ax _) λ s _=>?_
 obtain⟨j,hj,hj2⟩:∃k:Int,(if s=bV then(9:Int)else if s=bQ then 10 else if s=df then 11 else 12)=k/\9<=k/\k<=12:=⟨_,rfl,by split;omega;split;omega;split <;> omega⟩;simp only[hj];refine az (cS _) λ _ _=>az ik λ n hn=>az (cS _) λ _ _=>az (acY j _) λ f hf=>az (U8 _) λ t ht=>az (cS _) λ _ _=>bZ ⟨⟨by simp only;omega,by simp only;omega⟩,by simp,⟨hn,by simp,by simp,by simp⟩,by simp,hf,ht,by simp,by simp,by simp,by simp,qC⟩ ?_
 simp only[St.words,St.exprs,Qu.exprs,flatten_nil,map_nil,append_nil,Tr.aG,length_nil];omega
theorem Kt (k:Nat):EX k bK (λ s=>s.words+k) StF:=by
 intro l x r hl e
 match l with
 | []=>cases e
 | t::q=>
   simp only[bK] at e;have hq:∀w∈q,WZ w:=λ w hw=>hl w TaT
   have more:(∀w∈r,WZ w)/\StF x/\x.words+k+r.length<=q.length+k->(∀w∈r,WZ w)/\StF x/\x.words+k+r.length<=(t::q).length+k:=λ h=>⟨h.1,h.2.1,by simp only[length_cons];have:=h.2.2;omega⟩
   split at e
   ·cases e
   split at e
   ·exact WS k _ _ _ hl e
   split at e
   ·exact more (WL k _ _ _ hq e)
   split at e
   ·exact more (acX k _ _ _ hq e)
   split at e
   ·exact more (WN k _ _ _ hq e)
   split at e
   ·exact more (WO k _ _ _ hq e)
   split at e
   ·exact more (WR k _ _ _ hq e)
   split at e
   ·exact more (acZ k _ _ _ hq e)
   ·cases e
theorem ada{l:List (List Tr)}:∀r∈l,r.length<=Tr.aG l.flatten+l.length:=by
 induction l with
 | nil=>intro r hr;cases hr
 | cons a l ih=>
   intro r hr;simp only[flatten_cons,dy,length_cons]
   have h0:∀t:List Tr,t.length<=Tr.aG t:=λ t=>by
    induction t with
    | nil=>simp
    | cons x t ih=>cases x;simp only[Tr.aG,Tr.nodes,length_cons];omega
   rcases List.mem_cons.1 hr with rfl | hr
   ·have:=h0 r;omega
   ·have:=ih r hr;omega
theorem Ij{d:St}(h:gw s=.ok d):d.mB 1048576:=by
 unfold gw at h;split at h
 ·cases h
 ·rename_i l hlx;split at h
  ·cases h
  ·rename_i t r hw;split at h
   ·cases h
   ·split at h
    ·cases h
    ·injection h with h;subst h;obtain⟨x,m,h1,h2⟩:=Bq (p:=bK) hw;obtain⟨_,hs,hc⟩:=Kt 0 _ _ _ (acR hlx) h1;have hx:x=t:=by obtain⟨_,m2,_,h3⟩:=Bq h2;obtain⟨_,m3,_,h4⟩:=Bq h3;rw[Je] at h4;injection h4 with h4;injection h4
     subst hx;have hl:=(yC hlx).2.1;have hc:x.words+0+m.length<=(l.map (·.w)).length+0:=hc;rw[length_map] at hc;unfold St.words at hc;have e1:Tr.aG x.query.exprs<=Tr.aG x.exprs:=by unfold St.exprs;rw[dy];omega
     have e2:Tr.aG x.rows.flatten<=Tr.aG x.exprs:=by unfold St.exprs;simp only[dy];omega
     obtain⟨n1,n2,n3,n4⟩:=hs.yo;obtain⟨s1,s2,s3,s4⟩:=hs.names;have f1:=hs.aP.2;have f2:=hs.dx.2;have f3:=hs.query.aP;refine⟨hs.kind,hs.what,⟨by omega,by omega,by omega,by omega⟩,by omega,by omega,by omega,by omega,⟨hs.aP.1,by omega⟩,⟨hs.dx.1,by omega⟩,λ c hc=>?_,λ q hq=>⟨λ t ht=>hs.rows q hq t ht,?_⟩,λ q hq=>?_,λ t ht=>hs.aS t ht,⟨by omega,λ q hq=>?_,λ q hq=>hs.query.order q hq,λ t ht=>hs.query.aS t ht,λ t ht=>hs.query.group t ht,λ t ht=>hs.query.having t ht,λ n hn=>?_,by omega⟩,by omega,by omega⟩
     ·have:=hs.bg c hc;exact⟨by omega,this.2⟩
     ·have:=ada q hq;omega
     ·have:=hs.bF q hq;exact⟨this.1.1,this.1.2,by omega⟩
     ·have:=hs.query.items q hq;exact⟨this.1.1,this.1.2,by omega⟩
     ·have:=hs.query.aN n hn;omega
end Go.Proofs.YtehhdlgjfdnafaaGreatDoor
