/- Parts of the proof. -/
import Derived.Deep.WholeRow
import Derived.Test.YtndgjggokjickaaGreatDoorXG7
namespace Go.Proofs.YtndgjggokjickaaGreatDoor
variable{p:Prop}
set_option maxHeartbeats 90000000
set_option maxRecDepth 100000
open Go.ChangeShapes Go.WideShapes Go.ChangeAt Go.RowKit List
set_option linter.unusedVariables false
set_option linter.unusedSimpArgs false
def PR (u v:Value)(r:Rest):Nat->Value
 | 0=>u | 1=>v | 2=>r.h | 3=>r.i | 4=>r.j | _=>r.o
def sT (w:rQ)(gp:Nat)(R:Nat->Value)(b:Nat):Prop:=b < w.heap.size/\b≠gp/\∀i < 6,(R i).ownBlock≠some b
structure PlF (w0:rQ) (gp g2:Nat) (qc:x_) (g4 g5 D:Nat) (R:Nat->Value) (w:rQ):Prop where
 low:w0.heap.size<=gp
 lt:gp < w.heap.size
 base:aj w0 w
 rows:∀i < 6,∀q,(R i).ownBlock=some q->w0.heap.size<=q/\q < w.heap.size/\q≠gp
 ap:∀i < 6,∀j < 6,i≠j->∀q,(R i).ownBlock=some q->(R j).ownBlock≠some q
 k2:sT w gp R g2
 k4:sT w gp R g4
 k5:sT w gp R g5
 kD:sT w gp R D
 new:w0.heap.size<=g4/\w0.heap.size<=g5/\g4≠g5/\g4≠D/\g5≠D
 dd:w.heap[D]?=some (.deferred (some []))
 z2:aB w g2 27 qc
 z4:aB w g4 72 #[.pointer none]
 z5:aB w g5 34 #[af 0]
structure De (w0:rQ) (gp:Nat) (R R':Nat->Value) (T:Nat->Prop) (w w':rQ):Prop where
 os:w'.os=w.os
 tape:w'.tape=w.tape
 output:w'.output=w.output
 size:w.heap.size<=w'.heap.size
 far:∀b,b < w.heap.size->b≠gp->(∀i < 6,T i->(R i).ownBlock≠some b)->w'.heap[b]?=w.heap[b]?
 same:∀i < 6,¬T i->R' i=R i
 mv:∀i < 6,T i->Mv w (R i) (R' i)
 one:∀i < 6,∀j < 6,T i->T j->i≠j->∀q,(R' i).ownBlock=some q->(R' j).ownBlock≠some q
 rows:∀i < 6,T i->∀q,(R' i).ownBlock=some q->w0.heap.size<=q/\q < w'.heap.size/\q≠gp
section
variable {w0 w w':rQ} {gp g2 g4 g5 D:Nat} {qc:x_} {R R':Nat->Value} {T:Nat->Prop}
theorem De.kp (s:De w0 gp R R' T w w') {b:Nat}(h:sT w gp R b):sT w' gp R' b:=
 ⟨Nat.lt_of_lt_of_le h.1 s.size,h.2.1,λ i hi=>by
   by_cases hT:T i
   ·exact(s.mv i hi hT).ne h.1 (h.2.2 i hi)
   ·rw[s.same i hi hT];exact h.2.2 i hi⟩
theorem De.keep (s:De w0 gp R R' T w w') {b:Nat}(h:sT w gp R b):w'.heap[b]?=w.heap[b]?:=s.far b h.1 h.2.1 λ i hi _=>h.2.2 i hi
theorem PlF.step (h:PlF w0 gp g2 qc g4 g5 D R w)(s:De w0 gp R R' T w w'):PlF w0 gp g2 qc g4 g5 D R' w':=by
 have hr:∀i < 6,∀q,(R' i).ownBlock=some q->w0.heap.size<=q/\q < w'.heap.size/\q≠gp:=λ i hi q hq=>by
  by_cases hT:T i
  ·exact s.rows i hi hT q hq
  ·rw[s.same i hi hT] at hq;have:=h.rows i hi q hq;exact⟨this.1,Nat.lt_of_lt_of_le this.2.1 s.size,this.2.2⟩
 refine⟨h.low,Nat.lt_of_lt_of_le h.lt s.size,?_,hr,?_,s.kp h.k2,s.kp h.k4,s.kp h.k5,s.kp h.kD,h.new,(s.keep h.kD).trans h.dd,(s.keep h.k2).trans h.z2,(s.keep h.k4).trans h.z4,(s.keep h.k5).trans h.z5⟩
 ·exact⟨s.os.trans h.base.os,s.tape.trans h.base.tape,s.output.trans h.base.output,Nat.le_trans h.base.size s.size,λ k hk=>(s.far k (Nat.lt_of_lt_of_le hk h.base.size) (by have:=h.low;omega) λ i hi _ e=>by have:=(h.rows i hi k e).1;omega).trans (h.base.block k hk)⟩
 ·intro i hi j hj nA q hq lx;by_cases hT:T i <;> by_cases hU:T j
  ·exact s.one i hi j hj hT hU nA q hq lx
  ·rw[s.same j hj hU] at lx;have hl:=(h.rows j hj q lx).2.1;rcases s.mv i hi hT with h1 | h1
   ·exact h.ap i hi j hj nA q (h1▸hq) lx
   ·have:=h1 q hq;omega
  ·rw[s.same i hi hT] at hq;have hl:=(h.rows i hi q hq).2.1;rcases s.mv j hj hU with h1 | h1
   ·exact h.ap i hi j hj nA q hq (h1▸lx)
   ·have:=h1 q lx;omega
  ·rw[s.same i hi hT] at hq;rw[s.same j hj hU] at lx;exact h.ap i hi j hj nA q hq lx
theorem De.own {α:Type} {f:α->wL} {e:TypeId} {size base:Nat} {l:List α}(s:De w0 gp R R' T w w')(h:PlF w0 gp g2 qc g4 g5 D R w) {i:Nat}(hi:i < 6)(hT:¬T i)(ho:aH f e size w base (R i) l):aH f e size w' base (R' i) l:=by
 rw[s.same i hi hT];refine ho.keep λ g hg=>s.far g (h.rows i hi g hg).2.1 (h.rows i hi g hg).2.2 λ j hj hU=>h.ap i hi j hj (λ e=>hT (e▸hU)) g hg
theorem De.trees (s:De w0 gp R R' T w w') {ts:uF} {ys:u_}(h:Tr.aM w (sT w gp R) ts ys):Tr.aM w' (sT w' gp R') ts ys:=Tr.aM.keep (λ b hb=>⟨λ o=>bI (s.keep hb) o,s.kp hb⟩) ts ys h
theorem De.later (hb:aj w w'):De w0 gp R R (λ _=>False) w w':=⟨hb.os,hb.tape,hb.output,hb.size,λ b h1 _ _=>hb.block b h1,λ _ _ _=>rfl,λ _ _ h=>h.elim,λ _ _ _ _ h=>h.elim,λ _ _ h=>h.elim⟩
end
structure cW (c:PC) (w0:rQ) (gp g2:Nat) (qc:x_) (g4 g5 D:Nat) (r:Rest) (w:rQ) (u v:Value) (ya:u_) (s:dp) (hd:List aV) (yi yh yo:u_) (ti th eM:uF):Prop where
 f:PlF w0 gp g2 qc g4 g5 D (PR u v r) w
 blk:aB w gp 81 (c.cells r u v)
 o0:aH bD 46 7 w w0.heap.size u ya
 o1:aH aR 113 2 w w0.heap.size v s.aF
 o2:aH aR 113 2 w w0.heap.size r.h hd
 o3:aH bD 46 7 w w0.heap.size r.i yi
 o4:aH bD 46 7 w w0.heap.size r.j yh
 o5:aH bD 46 7 w w0.heap.size r.o yo
 aD:Tr.aM w0 (Old w0) s.aD ya
 t3:Tr.aM w (sT w gp (PR u v r)) ti yi
 t4:Tr.aM w (sT w gp (PR u v r)) th yh
 t5:Tr.aM w (sT w gp (PR u v r)) eM yo
section
variable {c:PC} {w0 w w':rQ} {gp g2 g4 g5 D:Nat} {qc:x_} {r:Rest} {u v u' v':Value} {ya pY:u_} {s s':dp} {hd:List aV} {yi yh yo:u_} {ti th eM:uF}
theorem cW.ps (h:cW c w0 gp g2 qc g4 g5 D r w u v ya s hd yi yh yo ti th eM):eQ c w0 gp r w u v ya s:=⟨h.f.low,h.f.base,h.blk,h.o0,h.o1,h.aD⟩
theorem cW.later (h:cW c w0 gp g2 qc g4 g5 D r w u v ya s hd yi yh yo ti th eM)(hb:aj w w'):cW c w0 gp g2 qc g4 g5 D r w' u v ya s hd yi yh yo ti th eM:=
 have p:=De.later (w0:=w0) (gp:=gp) (R:=PR u v r) hb
 ⟨h.f.step p,h.blk.later hb,h.o0.later hb,h.o1.later hb,h.o2.later hb,h.o3.later hb,h.o4.later hb,h.o5.later hb,h.aD,p.trees h.t3,p.trees h.t4,p.trees h.t5⟩
theorem cW.kp2 (h:cW c w0 gp g2 qc g4 g5 D r w u v ya s hd yi yh yo ti th eM) {b:Nat}(hb:sT w gp (PR u v r) b):Kp w gp [u,v] b:=
 eC.2 ⟨hb.1,hb.2.1,hb.2.2 0 TD,hb.2.2 1 TD⟩
theorem cW.stp (h:cW c w0 gp g2 qc g4 g5 D r w u v ya s hd yi yh yo ti th eM)(hs:ik gp w u v w' u' v')(hp:eQ c w0 gp r w' u' v' pY s'):De w0 gp (PR u v r) (PR u' v' r) (λ i=>i < 2) w w':=by
 have hblk:=hp.blk;have hn:∀q,u'.ownBlock=some q->v'.ownBlock≠some q:=λ q h1 h2=>by obtain⟨_,_,_,e1⟩:=hp.kY.lt h1;obtain⟨_,_,_,e2⟩:=hp.dL.lt h2;rw[e1] at e2;injection e2 with e2;injection e2 with _ e2 _;exact absurd e2 V0
 refine⟨hs.os,hs.tape,hs.output,hs.size,λ b h1 h2 h3=>hs.block b (eC.2 ⟨h1,h2,h3 0 TD TD,h3 1 TD TD⟩),?_,?_,?_,?_⟩
 ·intro i hi hT
  match i with
  | 0=>omega
  | 1=>omega
  | 2 | 3 | 4=>rfl
  | n+5=>rfl
 ·intro i hi hT
  match i with
  | 0=>exact hs.mu
  | 1=>exact hs.mv
  | n+2=>omega
 ·intro i hi j hj hT hU nA q h1 h2
  match i,j with
  | 0,1=>exact hn q h1 h2
  | 1,0=>exact hn q h2 h1
  | 0,0=>exact nA rfl
  | 1,1=>exact nA rfl
  | n+2,_=>omega
  | 0,n+2=>omega
  | 1,n+2=>omega
 ·intro i hi hT q hq
  match i with
  | 0=>exact⟨(hp.kY.lt hq).2.1,(hp.kY.lt hq).1,λ e=>hp.kY.other hblk V0 (by rw[show u'.ownBlock=some q from hq,e])⟩
  | 1=>exact⟨(hp.dL.lt hq).2.1,(hp.dL.lt hq).1,λ e=>hp.dL.other hblk V0 (by rw[show v'.ownBlock=some q from hq,e])⟩
  | n+2=>omega
theorem cW.call (h:cW c w0 gp g2 qc g4 g5 D r w u v ya s hd yi yh yo ti th eM)(hs:ik gp w u v w' u' v')(hp:eQ c w0 gp r w' u' v' pY s'):cW c w0 gp g2 qc g4 g5 D r w' u' v' pY s' hd yi yh yo ti th eM:=by have p:=h.stp hs hp;exact⟨h.f.step p,hp.blk,hp.kY,hp.dL,p.own h.f (i:=2) TD TD h.o2,p.own h.f (i:=3) TD TD h.o3,p.own h.f (i:=4) TD TD h.o4,p.own h.f (i:=5) TD TD h.o5,hp.aD,p.trees h.t3,p.trees h.t4,p.trees h.t5⟩
theorem cW.tree (h:cW c w0 gp g2 qc g4 g5 D r w u v ya s hd yi yh yo ti th eM)(hs:ik gp w u v w' u' v')(hp:eQ c w0 gp r w' u' v' pY s') {t:Tr} {y:Ex}(ht:t.at_ w' (λ b=>(b < w0.heap.size\/w.heap.size<=b)/\Kp w' gp [u',v'] b) y):t.at_ w' (sT w' gp (PR u' v' r)) y:=by have p:=(h.call hs hp).f;refine Tr.at_.keep (λ b hb=>⟨λ _=>rfl,hb.2.1,hb.2.2.1,λ i hi e=>?_⟩) t y ht;exact Zb2
theorem cW.apz (h:cW c w0 gp g2 qc g4 g5 D r w u v ya s hd yi yh yo ti th eM) {t:Tr} {y:Ex} {a:Value}(hl:LaB gp 14 w0.heap.size w (c.cells r u v) r.j yh y a true true w')(ht:t.at_ w (sT w gp (PR u v r)) y):
  cW c w0 gp g2 qc g4 g5 D { r with j:=a } w' u v ya s hd yi (yh++ [y]) yo ti (th++ [t]) eM:=by
 have ho:aH bD 46 7 w' w0.heap.size a (yh++ [y]):=hl.own;obtain⟨q0,c0,e0,hq0⟩:=hl.row
 have p:De w0 gp (PR u v r) (PR u v { r with j:=a }) (λ i=>i=4) w w':=by
  refine⟨hl.os,hl.tape,hl.output,hl.size,λ b h1 h2 h3=>hl.far b h1 h2 (h3 4 TD rfl),?_,?_,Zfg,ZdL⟩
  ·intro i hi hT
   match i with
   | 0 | 1 | 2 | 3=>rfl
   | 4=>exact absurd rfl hT
   | 5=>rfl
   | n+6=>omega
  ·intro i hi hT;subst hT;exact hl.mv
 have hT:=p.trees (ts:=[t]) (ys:=[y]) (Tr.eG ht);refine⟨h.f.step p,?_,p.own h.f (i:=0) TD TD h.o0,p.own h.f (i:=1) TD TD h.o1,p.own h.f (i:=2) TD TD h.o2,p.own h.f (i:=3) TD TD h.o3,ho,p.own h.f (i:=5) TD TD h.o5,h.aD,p.trees h.t3,Tr.all_append (p.trees h.t4) hT,p.trees h.t5⟩;exact hl.blk
theorem cW.apA (h:cW c w0 gp g2 qc g4 g5 D r w u v ya s hd yi yh yo ti th eM) {t:Tr} {y:Ex} {a:Value}(hl:LaB gp 15 w0.heap.size w (c.cells r u v) r.o yo y a true true w')(ht:t.at_ w (sT w gp (PR u v r)) y):
  cW c w0 gp g2 qc g4 g5 D { r with o:=a } w' u v ya s hd yi yh (yo++ [y]) ti th (eM++ [t]):=by
 have ho:aH bD 46 7 w' w0.heap.size a (yo++ [y]):=hl.own;obtain⟨q0,c0,e0,hq0⟩:=hl.row
 have p:De w0 gp (PR u v r) (PR u v { r with o:=a }) (λ i=>i=5) w w':=by
  refine⟨hl.os,hl.tape,hl.output,hl.size,λ b h1 h2 h3=>hl.far b h1 h2 (h3 5 TD rfl),?_,?_,Zfg,ZdL⟩
  ·intro i hi hT
   match i with
   | 0 | 1 | 2 | 3=>rfl
   | 4=>rfl
   | 5=>exact absurd rfl hT
   | n+6=>omega
  ·intro i hi hT;subst hT;exact hl.mv
 have hT:=p.trees (ts:=[t]) (ys:=[y]) (Tr.eG ht);refine⟨h.f.step p,?_,p.own h.f (i:=0) TD TD h.o0,p.own h.f (i:=1) TD TD h.o1,p.own h.f (i:=2) TD TD h.o2,p.own h.f (i:=3) TD TD h.o3,p.own h.f (i:=4) TD TD h.o4,ho,h.aD,p.trees h.t3,p.trees h.t4,Tr.all_append (p.trees h.t5) hT⟩;exact hl.blk
end
def frN (n:Nat)(f:Nat->Value):x_:=((List.range n).map f).toArray
variable{n:Nat}
theorem Jw(T:x_)(h:T.size=n):∃f:Nat->Value,T=frN n f:=by refine⟨λ i=>T.getD i undef,Array.ext (by simp[frN,h]) λ i h1 h2=>?_⟩;simp[frN,Array.getD,h1]
variable{i:Nat}
theorem bC(f:Nat->Value)(h:i < n):(frN n f).getD i undef=f i:=by simp[frN,Array.getD,h]
def eZ:Code->Nat->Code
 | .seq _ b,n+1=>eZ b n
 | c,_=>c
noncomputable def bK:Code:=Tryz.f28.body.getD .skip
def bT (f:Nat->Value):x_:= #[f 0,f 1,f 2,f 3,f 4,f 5,f 6,f 7,f 8,f 9,f 10,f 11,f 12,f 13,f 14,f 15,f 16,f 17,f 18,f 19,f 20,f 21,f 22,f 23,f 24,f 25,f 26,f 27,f 28,f 29,f 30,f 31,f 32,f 33,f 34,f 35,f 36,f 37,f 38,f 39,f 40,f 41,f 42,f 43,f 44,f 45,f 46,f 47,f 48,f 49,f 50,f 51,f 52,f 53,f 54,f 55,f 56,f 57,f 58,f 59,f 60,f 61,f 62,f 63,f 64,f 65,f 66,f 67,f 68,f 69,f 70,f 71,f 72,f 73,f 74,f 75,f 76,f 77,f 78,f 79,f 80,f 81,f 82,f 83,f 84,f 85,f 86,f 87,f 88,f 89,f 90,f 91,f 92,f 93,f 94,f 95,f 96,f 97,f 98,f 99,f 100,f 101,f 102,f 103,f 104,f 105,f 106,f 107,f 108,f 109,f 110,f 111,f 112,f 113,f 114,f 115,f 116,f 117,f 118,f 119,f 120,f 121,f 122,f 123,f 124,f 125,f 126,f 127,f 128,f 129,f 130,f 131,f 132,f 133,f 134,f 135,f 136,f 137,f 138,f 139,f 140,f 141,f 142,f 143,f 144,f 145,f 146,f 147,f 148,f 149,f 150,f 151,f 152,f 153,f 154,f 155,f 156,f 157,f 158,f 159,f 160,f 161,f 162,f 163,f 164,f 165,f 166,f 167,f 168,f 169,f 170,f 171,f 172,f 173,f 174,f 175,f 176,f 177,f 178,f 179,f 180,f 181,f 182,f 183,f 184,f 185,f 186,f 187,f 188,f 189,f 190,f 191,f 192,f 193,f 194,f 195,f 196,f 197,f 198,f 199,f 200,f 201,f 202,f 203,f 204,f 205,f 206,f 207,f 208,f 209,f 210,f 211,f 212,f 213,f 214,f 215,f 216,f 217,f 218,f 219,f 220,f 221,f 222,f 223,f 224,f 225,f 226,f 227,f 228,f 229,f 230,f 231,f 232,f 233,f 234,f 235,f 236,f 237,f 238,f 239,f 240,f 241,f 242,f 243,f 244,f 245,f 246,f 247,f 248,f 249,f 250,f 251]
theorem ld (T:x_)(h:T.size=252):∃f:Nat->Value,T=bT f:=by
 refine⟨λ i=>T.getD i undef,?_⟩;apply Array.ext
 ·rw[h];rfl
 ·intro i h1 h2
  have e:∀(f:Nat->Value) (i:Nat) (hi:i <(bT f).size),(bT f)[i]=f i:=by
   intro f i hi;have h3:(bT f).toList=(List.range 252).map f:=rfl;have h4:(bT f)[i]=(bT f).toList[i]' TaC:=by simp
   exact ZfC
  rw[e];simp[Array.getD,h1]
noncomputable def iA:Code:=Tryz.f33.body.getD .skip
def frg (f:Nat->Value):x_:= #[f 0,f 1,f 2,f 3,f 4,f 5,f 6,f 7,f 8,f 9,f 10,f 11,f 12,f 13,f 14,f 15,f 16,f 17,f 18,f 19,f 20,f 21,f 22,f 23,f 24,f 25,f 26,f 27,f 28,f 29,f 30,f 31,f 32,f 33,f 34,f 35,f 36,f 37,f 38,f 39,f 40,f 41,f 42,f 43,f 44,f 45,f 46,f 47,f 48,f 49,f 50,f 51,f 52,f 53,f 54,f 55,f 56,f 57,f 58,f 59,f 60,f 61,f 62,f 63,f 64,f 65,f 66,f 67,f 68,f 69,f 70,f 71,f 72,f 73,f 74,f 75,f 76,f 77,f 78,f 79,f 80,f 81,f 82,f 83,f 84,f 85,f 86,f 87,f 88,f 89,f 90,f 91,f 92,f 93,f 94,f 95,f 96,f 97,f 98,f 99,f 100,f 101,f 102,f 103,f 104,f 105,f 106,f 107,f 108,f 109,f 110,f 111,f 112,f 113,f 114,f 115,f 116,f 117,f 118,f 119,f 120,f 121,f 122,f 123,f 124,f 125,f 126,f 127,f 128,f 129,f 130,f 131,f 132,f 133,f 134,f 135,f 136,f 137,f 138,f 139,f 140,f 141,f 142,f 143,f 144,f 145,f 146,f 147,f 148,f 149,f 150,f 151,f 152,f 153,f 154,f 155,f 156,f 157,f 158,f 159,f 160,f 161,f 162,f 163]
theorem Jy (T:x_)(h:T.size=164):∃f:Nat->Value,T=frg f:=by
 refine⟨λ i=>T.getD i undef,?_⟩;apply Array.ext
 ·rw[h];rfl
 ·intro i h1 h2
  have e:∀(f:Nat->Value) (i:Nat) (hi:i <(frg f).size),(frg f)[i]=f i:=by
   intro f i hi;have h3:(frg f).toList=(List.range 164).map f:=rfl;have h4:(frg f)[i]=(frg f).toList[i]' TaC:=by simp
   exact ZfC
  rw[e];simp[Array.getD,h1]
noncomputable def pZ (xs:List ia):Int:=bU (xs.map λ x=>bQ (x.ss.map dG))
noncomputable def EK (xs:List ia):y_:=xs.map λ x=>x.key++(x.ss.map dG).map (·.1)
variable{w w1 w2:rQ}{g:Nat}{o:Option Nat}{B:Nat}
theorem pK(h:w.grownBy w1 (some g))(hg:w1.grownBy w2 o)(hB:w.heap.size<=B)(ho:∀q,o=some q->B<=q):w.grownBy w2 (some g):=
 ⟨hg.os.trans h.os,hg.tape.trans h.tape,hg.output.trans h.output,Nat.le_trans h.size hg.size,λ k hk hn=>(hg.block k (Nat.lt_of_lt_of_le hk h.size) λ e=>by have:=ho k e.symm;omega).trans (h.block k hk hn)⟩
variable{xs:List ia}{k:Nat}
theorem Ww(h:k < xs.length):pZ (xs.take (k+1))=jw (pZ (xs.take k)) (bQ (xs[k].ss.map dG)):=by unfold pZ;rw[take_add_one,getElem?_eq_getElem h,map_append];exact qV _ _
variable{b e:Int}
theorem TG(h:jw b e=0):b=0/\e=0:=by unfold jw at h;split at h <;> omega
theorem zgd.KbF(h:p:=by
 clear HV;go_upto_region 34 with fail;have LE:=ah w3 (.cells (aJ v) 44);have Ly:=aB.new w3 44 (aJ v);have mI:=aa (HV6.ae.later LE);have JC:=aa (Oi.ae.later LE);have Cw:=aa (show wo.grownBy _ (some gb)from aY xl.ae (aO LE));have zv:=aa Ly;have hbase:=Cw.ae.size;have Ii:(x.key++((x.ss.take m).map dG).map (·.1)).length<=200000:=by have:=HKK.ae;simp only[length_append,length_map,length_take];omega
 have qA:=aa (show x.key++((x.ss.take (m+1)).map dG).map (·.1)=x.key++((x.ss.take m).map dG).map (·.1)++ [v] by rw[mW.ae,map_append,map_append,HVE.ae,append_assoc];rfl);generalize x.key++((x.ss.take m).map dG).map (·.1)=L at*;clear LE Ly;go_wp2_with (first
  |(at_builtin
    refine aS rfl (.tmp 151) (.tmp 153) 38 rfl _ 32 Tryz.underlying38 lU rfl TD v rfl TaZ rfl mI.ae w3.heap.size rfl zv.ae TD TD hbase ?_
    intro v4 w4 o4 g4
    have O4:=aa o4
    have B4:=aa (JC.ae.jr mI.ae V0 g4)
    have Ye:=aa (pK Cw.ae g4 (Nat.le_refl _) (λ q hq=>(mI.ae.lt hq).2.1))
    clear o4 g4))
 go_roundw
 case rel=>
  refine⟨m+1,EB,by go_num,?_,?_,B4.ae,Ye.ae⟩
  ·rw[qA.ae];exact O4.ae
  ·intro a ha;rw[mW.ae,map_append] at ha;rcases List.mem_append.1 ha with ha | ha
   ·exact Gk.ae a ha
   ·simp only[map_cons,map_nil,mem_singleton] at ha;rw[ha,<- OL.ae]
 case measure=>exact ZaU):p:=h
theorem zhq.Kb9(h:p:=by have HO5:=je.ae.later hL;have HM5:=LW.ae.later hL;have VY:w.grownBy W3 (some gb):=aY HO.ae (aO hL);go_wp2_with fail;exact HHA.ae _ _ u18 cl rfl rfl rfl HO5 HM5 HS.ae VY):p:=h
theorem adt (xs:List ia)(B:Nat)(LA:z_)(lc gb:Nat)(T:x_)(hT:T.size=164)(h9:T.getD 9 undef=aw gb)(h10:T.getD 10 undef=.slice LA xs.length lc)(d:List Deferred)(w:rQ)(Q:yD)
  (hgb:aB w gb 84 #[af 0]) (hL:Mu w w.heap.size LA (xs.map ia.g)) (hLg:∀a,LA=some a->a.block≠gb) (Ly:kG w B xs) (hn:xs.length<=1000000)
  (hk:∀x∈xs,x.key.length<=1000/\x.ss.length<=100000) (aZ:∀x∈xs,∀s∈x.ss,s.Ok/\∃v e,fM s v e)
  (h:∀a W ov cl,a.defers=d->a.tmps.getD 4 undef=ov->a.tmps.getD 5 undef=af (pZ xs)->aH cq 38 1 W w.heap.size ov cl->Mine W w.heap.size cl->(pZ xs=0->cl.map (·.l)=EK xs)->w.grownBy W (some gb)->Q .ret a W):
  (eZ iA 8).wp Tryz.prog Q { tmps:=T,defers:=d } w:=by
 obtain⟨f,rfl⟩:=Jy T hT;have h9:f 9=_:=h9;have h10:f 10=_:=h10;simp only[frg,h9,h10];clear h9 h10;clear h9 h10 hT;have HH:=aa h;have yU:=aa hgb;have HL:=aa hL;have N8:=aa hLg;have HG:=aa Ly;have Kx:=aa hk;have MY:=aa aZ;clear h hgb hL hLg Ly hk aZ;simp only[iA,eZ,Tryz.f33,Option.getD_some];go_wp2_with fail;go_loopw [18,125] (λ ov i wr=>∃(k:Nat) (cl:List aX),k<=xs.length/\i=af k/\aH cq 38 1 wr w.heap.size ov cl/\Mine wr w.heap.size cl/\cl.length=k/\aB wr gb 84 #[af (pZ (xs.take k))]/\(pZ (xs.take k)=0->cl.map (·.l)=EK (xs.take k))/\w.grownBy wr (some gb)) (λ _ i _=>xs.length - (intOf i).toNat);case atStart=>exact⟨0,[],Nat.zero_le _,rfl,aH.nil,(λ r hr=>by cases hr),rfl,yU.ae,(λ _=>rfl),World.grownBy.refl w _⟩
 case round=>
  obtain⟨k,cl,hkx,rfl,SZ,qK,hfn,hz,hS,hw⟩:=hrel;have je:=aa SZ;have LW:=aa qK;have HFN:=aa hfn;have HK:=aa hz;have HS:=aa hS;have HO:=aa hw;clear SZ qK hfn hz hS hw;by_cases hlt:k < xs.length
  ·obtain⟨lb,hA,ze,hc0⟩:=HL.ae.at_ (k:=k) (by rw[length_map];exact hlt);have XW:=N8.ae _ hA;have hc1:=(bI (HO.ae.block lb ze (λ e=>by injection e with e;exact XW e)) k).trans hc0;rw[getElem_map] at hc1;have hGw:=HG.ae.grown HO.ae yU.ae V0 V0 V0 V0;have hx:=hGw.at_ xs[k] (getElem_mem hlt);have gw:=Kx.ae xs[k] (getElem_mem hlt);have HOX:=aa (MY.ae xs[k] (getElem_mem hlt));have Qb:=aa (Ww hlt);have QU:=aa (show EK (xs.take (k+1))=EK (xs.take k)++ [xs[k].key++(xs[k].ss.map dG).map (·.1)] by unfold EK;rw[take_add_one,getElem?_eq_getElem hlt,map_append];rfl);generalize xs[k]=x at*;generalize pZ (xs.take k)=FK at*;have HX:=aa hx;have HKK:=aa gw;have pM:=hx.blk;obtain⟨SA,sc,Df,hsr⟩:=dT (f:=dn) (size:=1) (λ _=>rfl) hx.own;rw[Df] at pM;have z0:=pM.cell 0;have z1:=pM.cell 1;simp only[Uaa] at z0 z1;have HSR:=aa hsr;have HSV:=aa Df;rw[hA];clear hc0 ze XW hA hGw hx gw Df hsr pM;go_wp2_with fail;refine(Cx x.KA x.kc x.key wr HX.ae.key.rv HKK.ae.1).mono ?_;rintro e w1 ⟨rv,rfl,uW,b1⟩;have Bq:=aa uW;have Lw:=aa (show wr.grownBy w1 (some gb)from aO b1);have fY:=aa (HK.ae.later b1);have y1:=(b1.cell (p:=⟨x.g,1,none⟩) HX.ae.blk.lt).trans z1;clear uW b1 z0 z1 hc1;go_wp2_with fail;clear y1;generalize wr=wo at*;go_loopw [21,139] (λ rv j wq=>∃m:Nat,m<=x.ss.length/\j=af m/\aH aU 44 3 wq wo.heap.size rv (x.key++((x.ss.take m).map dG).map (·.1))/\(∀a∈(x.ss.take m).map dG,a.2=0)/\aB wq gb 84 #[af FK]/\wo.grownBy wq (some gb)) (λ _ j _=>x.ss.length - (intOf j).toNat)
   case atStart=>exact⟨0,Nat.zero_le _,rfl,by simpa using Bq.ae,(λ a ha=>by simp at ha),fY.ae,Lw.ae⟩
   case round=>
    clear Bq Lw fY;obtain⟨m,hm,rfl,kL,hg4,nj,HZ⟩:=hrel;have HI:=aa kL;have Gk:=aa hg4;have Ej:=aa nj;have tx:=aa HZ;clear kL hg4 nj HZ;have Ts:=HX.ae.qz.len;have hm9:m<=100000:=by have:=HKK.ae.2;omega
    have hm8:x.ss.length<=100000:=HKK.ae.2;by_cases EB:m < x.ss.length
    ·obtain⟨g2,vI,hg2,hc2⟩:∃g2,SA=some ⟨g2,0,none⟩/\g2 < wo.heap.size/\wo.cell? ⟨g2,m,none⟩=some (.pointer (some ⟨x.qs[m]' TaW,0,none⟩)):=by
      rcases HSR.ae with h0 |⟨g2,e1,e2,e3⟩
      ·have:x.qs.length=0:=by rw[h0];rfl
       omega
      ·refine⟨g2,e1,e2,?_⟩;have:=e3 m (x.qs[m]' TaW) 0 _ (getElem?_eq_getElem _) TD rfl;exact ZeR
     have hx2:=((kG.mk (λ y hy=>by rw[mem_singleton] at hy;rw[hy];exact HX.ae) (pairwise_singleton _ _):kG wo B [x]).grown tx.ae HK.ae V0 V0 V0 V0).at_ x (mem_singleton_self x)
     have N9:g2≠gb:=by
      have LT:x.sv.ownBlock=some g2:=by rw[HSV.ae,fU,vI];rfl
      obtain⟨_,_,cur,yy⟩:=HX.ae.own.lt LT;exact kX (show aB wo g2 145 cur from yy) HK.ae V0
     have hc3:=(bI (tx.ae.block g2 hg2 (λ e=>by injection e with e;exact N9 e)) m).trans hc2;have hst:=hx2.qz.at_ m (x.qs[m]' TaW) x.ss[m] (getElem?_eq_getElem _) (getElem?_eq_getElem _);obtain⟨O0,hsa⟩:=HOX.ae x.ss[m] (getElem_mem EB);have apC:=vP hsa;have mW:=aa (show x.ss.take (m+1)=x.ss.take m++ [x.ss[m]] by rw[take_add_one,getElem?_eq_getElem EB];rfl);have HFB:=aa (show(dG x.ss[m]).2≠0->bQ (x.ss.map dG)=(dG x.ss[m]).2 from λ hne=>by
      have e1:x.ss.map dG=(x.ss.take m).map dG++dG x.ss[m]::(x.ss.drop (m+1)).map dG:=by
       rw[<- map_cons,<- map_append,<- drop_eq_getElem_cons EB,take_append_drop]
      rw[e1]
      exact J9 Gk.ae hne)
     generalize x.ss[m]=st at*;generalize x.qs[m]' TaW=q at*;rw[vI] at*;have adu:=aa (Ph q st (dG st).1 (dG st).2 wr hst O0 apC);clear hg2 hc2 hx2 N9 hst O0 hsa apC vI;obtain⟨v,hv⟩:∃v,v=(dG st).1:=⟨_,rfl⟩;obtain⟨er,her⟩:∃er,er=(dG st).2:=⟨_,rfl⟩;rw[<- hv,<- her] at adu;rw[<- her] at HFB;have HVE:=aa hv;have OL:=aa her;clear hv her;unfold bP at adu;rw[Ts];go_wp2_with fail;clear hc3;refine adu.ae.mono ?_;rintro e w2 ⟨rfl,b2⟩;have QV:=aa (Ej.ae.later b2);have HV4:=aa (HI.ae.later b2);have KK:=aa (show wo.grownBy w2 (some gb)from aY tx.ae (aO b2));clear b2 Ej HI tx adu;go_upto_region 33 with fail;have bN:=ah w2 (.cells (aJ v) 44);have hG:=aB.new w2 44 (aJ v);have uY:=aa (QV.ae.later bN);have HV5:=aa (HV4.ae.later bN);have VY:=aa (show wo.grownBy _ (some gb)from aY KK.ae (aO bN));generalize hW:w2.alloc (.cells (aJ v) 44)=W at*;generalize w2.heap.size=gn at*;clear hW bN QV HV4 KK;go_wp2_with fail;refine(vT gb FK er _ uY.ae).mono ?_;rintro e w3 ⟨rfl,hb3,HZ⟩;have Oi:=aa hb3;have xl:=aa (show wo.grownBy w3 (some gb)from aY VY.ae HZ);have HV6:=aa (HV5.ae.grown HZ (HV5.ae.other uY.ae V0));have HV:=hG.grown HZ (λ e=>by injection e with e;exact kX hG uY.ae V0 e);clear hb3 HZ uY HV5 VY hG;by_cases he:er=0
     ·subst he;have Oi:=aa (show aB w3 gb 84 #[af FK] by have h6:=Oi.ae;rwa [BS] at h6);open zgd in exact Zei
     ·have t1:(er==0)=false:=by simp[he]
      have awp:=aa he;have mN:=aa (HFB.ae he);have HBc:=Oi;have HVc:=HV6;have HGc:=xl;generalize x.key++((x.ss.take m).map dG).map (·.1)=L at*;clear he HV;obtain⟨RA,rc,Gx,_⟩:=HVc.ae.reads;subst Gx;go_upto_region 36 with fail
      have LE:=ah w3 (.cells #[.slice RA L.length rc] 38);have Ly:=aB.new w3 38 #[.slice RA L.length rc];have Aj:=aa ((je.ae.grown HGc.ae (je.ae.other HK.ae V0)).later LE);have HM7:=aa (show Mine _ w.heap.size cl from Mine.later (λ r hr=>(LW.ae r hr).grown HGc.ae ((LW.ae r hr).other HK.ae V0)) LE);have mI:=aa (HVc.ae.later LE);have JC:=aa (HBc.ae.later LE);have Cw:=aa (show w.grownBy _ (some gb)from aY (aY HO.ae HGc.ae) (aO LE));have zv:=aa Ly;have hbase:=Cw.ae.size;have HWO:=aa HO.ae.size;have awt:=HFN.ae;clear LE Ly;go_wp2_with (first
       |(at_builtin
         refine aS rfl (.tmp 156) (.tmp 158) 29 rfl _ 24 Tryz.underlying29 qU rfl TD (⟨RA,L,rc⟩:aX) rfl TaA rfl Aj.ae w3.heap.size rfl zv.ae TD TD hbase ?_
         intro v4 w4 o4 g4
         have O4:=aa o4
         have B4:=aa (JC.ae.jr Aj.ae V0 g4)
         have V4:=aa (mI.ae.past Aj.ae V0 g4)
         have M4:=aa (HM7.ae.grown Aj.ae g4)
         have Ye:=aa (pK Cw.ae g4 (Nat.le_refl _) (λ q hq=>(Aj.ae.lt hq).2.1))
         clear o4 g4))
      go_roundw
      case rel=>
       refine⟨k+1,cl++ [⟨RA,L,rc⟩],hlt,by go_num,O4.ae,ZeK,by simp[HFN.ae],?_,?_,Ye.ae⟩
       ·rw[Qb.ae,mN.ae];exact B4.ae
       ·intro h0;rw[Qb.ae,mN.ae] at h0;exact absurd (TG h0).2 awp.ae
      case measure=>exact ZaU
    ·have hmm:m=x.ss.length:=by omega
     subst hmm;have HTT:=aa (show x.ss.take x.ss.length=x.ss from take_length);have mN:=aa (show bQ (x.ss.map dG)=0 from Jl λ a ha=>Gk.ae a (by rw[HTT.ae];exact ha));have HVc:=aa (show aH aU 44 3 wr wo.heap.size u21 (x.key++(x.ss.map dG).map (·.1)) by have h3:=HI.ae;rwa [HTT.ae] at h3);have HBc:=Ej;have HGc:=tx;generalize x.key++(x.ss.map dG).map (·.1)=L at*;rw[<- Ts];clear HI Ej tx EB hm;obtain⟨RA,rc,Gx,_⟩:=HVc.ae.reads;subst Gx;go_upto_region 36 with fail
     have LE:=ah wr (.cells #[.slice RA L.length rc] 38);have Ly:=aB.new wr 38 #[.slice RA L.length rc];have Aj:=aa ((je.ae.grown HGc.ae (je.ae.other HK.ae V0)).later LE);have HM7:=aa (show Mine _ w.heap.size cl from Mine.later (λ r hr=>(LW.ae r hr).grown HGc.ae ((LW.ae r hr).other HK.ae V0)) LE);have mI:=aa (HVc.ae.later LE);have JC:=aa (HBc.ae.later LE);have Cw:=aa (show w.grownBy _ (some gb)from aY (aY HO.ae HGc.ae) (aO LE));have zv:=aa Ly;have hbase:=Cw.ae.size;have HWO:=aa HO.ae.size;have awt:=HFN.ae;clear LE Ly;go_wp2_with (first
      |(at_builtin
        refine aS rfl (.tmp 156) (.tmp 158) 29 rfl _ 24 Tryz.underlying29 qU rfl TD (⟨RA,L,rc⟩:aX) rfl TaA rfl Aj.ae wr.heap.size rfl zv.ae TD TD hbase ?_
        intro v4 w4 o4 g4
        have O4:=aa o4
        have B4:=aa (JC.ae.jr Aj.ae V0 g4)
        have V4:=aa (mI.ae.past Aj.ae V0 g4)
        have M4:=aa (HM7.ae.grown Aj.ae g4)
        have Ye:=aa (pK Cw.ae g4 (Nat.le_refl _) (λ q hq=>(Aj.ae.lt hq).2.1))
        clear o4 g4))
     go_roundw
     case rel=>
      refine⟨k+1,cl++ [⟨RA,L,rc⟩],hlt,by go_num,O4.ae,ZeK,by simp[HFN.ae],?_,?_,Ye.ae⟩
      ·rw[Qb.ae,mN.ae,BS];exact B4.ae
      ·intro h0;rw[Qb.ae] at h0;rw[map_append,HS.ae (TG h0).1,QU.ae];rfl
     case measure=>exact ZaU
  ·have gw:k=xs.length:=by omega
   subst gw;have HTT:=aa (show xs.take xs.length=xs from take_length);have HK:=aa (show aB wr gb 84 #[af (pZ xs)] by have h1:=HK.ae;rwa [HTT.ae] at h1);have HS:=aa (show pZ xs=0->cl.map (·.l)=EK xs by have h1:=HS.ae;rwa [HTT.ae] at h1);have HHA:=aa (show∀a W ov cl,a.defers=d->a.tmps.getD 4 undef=ov->a.tmps.getD 5 undef=af (pZ xs)->aH cq 38 1 W w.heap.size ov cl->Mine W w.heap.size cl->(pZ xs=0->cl.map (·.l)=EK xs)->w.grownBy W (some gb)->Q .ret a W from HH.ae);generalize pZ xs=FK at*;go_upto_region 38 with fail;refine bz 5 (acw u18 gb FK) (BU _ _ _) WC WC WC ?_ ?_
   ·exact Zeu
   intro W3 hL;simp only[Uab];rintro a0 - a1 - a2 - a3 q3 FI Vn;replace q3:u18=a3:=Eq.symm q3;open zhq in exact Zf9
theorem Gy (m:Nat):(Builtin.zeroCells (Value.pointer none).cells m)=(List.replicate m (Value.pointer none)).toArray:=by
 apply Array.ext
 ·simp[Builtin.zeroCells,Value.cells]
 ·intro i h1 h2;simp[Builtin.zeroCells,Value.cells,Nat.mod_one]
variable{ops:Array Oper}{rest:List Oper}{ac:Act}{Q:yD}
theorem wM{o:Oper}   (hgd:o.guard=none)(s x:Operand)
  (ho:o.op=.call { callee:=.builtin .append,args:= #[s,x],argTypes:= #[134,3] }) (g k cap m:Nat) (hs:ac.eval s=aL g k cap) (hx:ac.eval x=af m)
  (olds:wL) (Wy:olds.length=k) (hc:∀(j:Nat) v,olds[j]?=some v->w.cell? ⟨g,j,none⟩=some v) (h0:0 < m) (hg:cap < k+m) (uo:k+m<=1000001)
  (h:∀w' C,aB w' w.heap.size 135 (olds++List.replicate (C - k) (Value.pointer none)).toArray->k+m<=C->C<=maxLen->aj w w'->wpList Tryz.prog ops Q rest (ac.put o.dst (aL w.heap.size (k+m) C)) w'):wpList Tryz.prog ops Q (o::rest) ac w:=by
 obtain⟨i0,kL,hz0,hz1,hz2⟩:=info_parts CC
 have hold:(Builtin.firstCells i0.size k (aL g k cap)).run Tryz.prog w.drew=.ok olds.toArray w.drew:=by
  refine run_firstCells_some w.drew i0.size k ⟨g,0,none⟩ k cap olds (by rw[hz1,Wy];omega) λ j v hj=>?_
  rw[Mp,Nat.zero_add];exact hc j v hj
 have hrun:=Lib.run_append_grow_zeros w 134 3 o.type 135 i0 _ .i64 .i64 Tryz.underlying134 Tryz.underlying3 kL hz0 (some ⟨g,0,none⟩) k cap olds hold m h0 (by rw[hz1];omega) hg TD (by rw[hz2];omega) (growslice_fits hg (by rw[hz2];omega));have vp:=grownCap_ge w (k+m) cap 135;have hle:=grownCap_le_maxLen w (k+m) cap 135 Tak;generalize grownCap w (k+m) cap 135=C at*;have he:olds.toArray++Builtin.zeroCells (Value.pointer none).cells m++Builtin.zeroCells (Value.pointer none).cells (C - (k+m))=(olds++List.replicate (C - k) (Value.pointer none)).toArray:=by rw[Gy,Gy];apply Array.ext';simp only[Array.toList_append,toList_toArray,append_assoc,replicate_append_replicate];rw[show m+(C - (k+m))=C - k by omega]
 rw[he] at hrun;refine wpList_plain hgd λ K hK=>?_
 unfold Oper.wp;simp[execOp,ho,resolve,invoke,builtin,hs,hx,hrun,Result.andThen];have hb:aj w (w.drew.alloc (.cells (olds++List.replicate (C - k) (Value.pointer none)).toArray 135)):=(show aj w w.drew from⟨rfl,rfl,rfl,Nat.le_refl _,λ _ _=>rfl⟩).alloc (Nat.le_refl _) _;exact hK _ _ (h _ C (aB.new w.drew _ _) vp hle hb)
def ajg (e g n C cap k:Nat):Nat->rQ->Value->Prop
 | 0,_,v=>v=aL e (n+1) C
 | 1,_,v=>v=af k
 | 2,_,v=>v=af 1
 | 3,_,v=>v=af (k+1)
 | 4,_,v=>v=.slice (some ⟨e,k+1,none⟩) (n+1 - (k+1)) (C - (k+1))
 | 5,_,v=>v=aL g n cap
 | 6,_,v=>v=af k
 | 7,_,v=>v=.slice (some ⟨g,k,none⟩) (n - k) (cap - k)
 | _,_,_=>False
theorem QW (e g n C cap k:Nat):∀i w w' v,ajg e g n C cap k i w v->ai w w'->ajg e g n C cap k i w' v:=by exact Zf3
theorem zgK.KbR(h:p:=by
 have G3:g≠e:=by have h1:=UL.ae.lt;have h2:=HE.ae;omega
 have AL:c2.size=C:=by have h1:=apH.ae;have h2:=qA.ae;rw[h1];simp only[size_toArray,toList_toArray,length_append,length_take,length_drop,length_replicate,length_singleton];omega
 have hw:((gs.drop k).map fo).length=n - k:=by rw[length_map,length_drop,<- HN.ae]
 have uX:=aa (HG2.ae.later hL);have Ai:w.grownBy W3 (some e):=aY (aY (aO uk.ae) awu.ae) (aO hL);have hS:∀(j:Nat) v,((gs.drop k).map fo)[j]?=some v->W3.cell? ((⟨g,k,none⟩:Addr).add j)=some v:=λ j v hj=>by rw[Mp,bI (Ai.block g UL.ae.lt (λ e2=>by injection e2 with e2;exact G3 e2))];refine Oe.ae (k+j) v ?_;rw[getElem?_map,getElem?_drop,<- getElem?_map] at hj;exact hj
 have HS:=aa hS;have HO:=aa hw;have mr:=aa AL;have A1:=aa Ai;have A2:=aa G3;clear hL hS hw AL Ai G3;refine jo rfl (.tmp 50) (.tmp 53) rfl e (k+1) c2 ⟨g,k,none⟩ ((gs.drop k).map fo) _ _ _ _ rfl rfl uX.ae (by rw[HO.ae,mr.ae];omega) (by rw[HO.ae];simp only[Nat.min_def];split <;> omega) HS.ae (AQ _) ?_;intro W4 u4 hg4 Wc;have Gk:=aa hg4;have aiM:=aa (aY A1.ae Wc);clear hg4 Wc;go_wp2_with fail;go_ret;have hen:=HE.ae;have qR:=HN.ae;have hcc:=Er.ae;have awv:=apH.ae;have TH:=qA.ae;have hw:=HO.ae;have hsz:=mr.ae;have LJ:w.grownBy W4 (Value.slice (some ⟨g,0,none⟩) n cap).ownBlock:=by have hg:=aiM.ae;rw[fU];refine⟨hg.os,hg.tape,hg.output,hg.size,λ q hq _=>hg.block q hq λ e2=>?_⟩;injection e2 with e2;omega
 refine⟨_,rfl,⟨?_,.inr ⟨e,C,_,?_,by rw[hen];exact HBG.ae,Gk.ae,?_,hcc,?_,?_⟩⟩,LJ⟩
 ·simp[rE,dn]
 ·congr 1;simp;omega
 ·simp;omega
 ·simp only[size_toArray,length_append,length_take,length_drop,Array.length_toList,hw,hsz];omega
 ·obtain⟨R,hR⟩:∃R,R=c2.toList.drop (k+1+((gs.drop k).map fo).length):=⟨_,rfl⟩;rw[<- hR];have e0:c2.toList.take (k+1)=(gs.take k).map fo++ [fo x]:=by rw[awv];simp only[toList_toArray];rw[take_left' TH,<- append_assoc];exact take_left' (by rw[length_append,TH];rfl)
  rw[rE,toList_toArray,e0,Nat.mul_one];have e3:(gs.take k).map fo++ [fo x]++((gs.drop k).map fo++R)=(gs.take k++x::gs.drop k).map fo++R:=by simp
  exact Zgn):p:=h
theorem MP (gs:List Nat)(x k:Nat)(g cap base vb:Nat)(cur:x_)(w:rQ)(hl:gs.length<=1000000)(hk:k < gs.length)(hbg:base<=w.heap.size)(hg:aB w g 135 cur)(hle:gs.length<=cap)(hroom:cap < gs.length+1)(hsz:cur.size=cap)(lT:cur.toList.take gs.length=gs.map fo)(hv:aB w vb 135 #[aw x]):
  ar 66 #[aL g gs.length cap,af k,aL vb 1 1] w (AU (aL g gs.length cap) base (gs.take k++x::gs.drop k) w):=by
 obtain⟨n,qR⟩:∃n,n=gs.length:=⟨_,rfl⟩;have HN:=aa qR;rw[<- qR] at hl hk hroom lT hle ⊢;have VZ:=λ u=>iR (some ⟨g,0,none⟩) n cap k TD u
 have aoG:=λ u=>CD (some ⟨g,0,none⟩) n cap k TD u
 have Qt:=VZ;rw[if_neg TD] at VZ Qt;simp only[Option.map_some,eB,Nat.mul_one,Nat.zero_add] at VZ Qt;have mixed:Tryz.prog.follows .mixedOrders=true:=by kernel_rfl
 have t1:((k:Int)==(n:Int))=false:=by simp;omega
 have t2:decide ((cap:Int)<(n:Int)+1)=true:=decide_eq_true TD;have zc:((n:Int)+1) - (k:Int)=((n+1 - k:Nat):Int):=by omega
 have hcell:∀(j:Nat) v,(gs.map fo)[j]?=some v->w.cell? ⟨g,j,none⟩=some v:=λ j v hj=>by
  rw[hg.cell,<- Array.getElem?_toList];have e:(cur.toList.take n)[j]?=some v:=by rw[lT];exact hj
  rw[getElem?_take] at e;split at e
  ·exact e
  ·cases e
 have Oe:=aa hcell;have UL:=aa hg;have HV:=aa hv;have HBG:=aa hbg;have qA:=aa (show((gs.take k).map fo).length=k by rw[length_map,length_take];omega);have HTC:=aa (show∀(j:Nat) v,((gs.take k).map fo)[j]?=some v->w.cell? ⟨g,j,none⟩=some v from λ j v hj=>hcell j v (by
  rw[map_take,getElem?_take] at hj
  split at hj
  ·exact hj
  ·cases hj))
 clear hg hv lT hsz qR hcell hbg;go_enter Tryz.func66,Tryz.ntmps66;go_wp2_with (first
  |(simp only[zc])
  |(at_builtin
    refine wM rfl (.tmp 34) (.tmp 39) rfl g k cap (n+1 - k) rfl rfl ((gs.take k).map fo) qA.ae HTC.ae TD TD TD ?_
    intro w1 C hb1 hC1 hC2 LJ
    have e1:k+(n+1 - k)=n+1:=by omega
    rw[e1] at*
    have eX:=aa hb1
    have Er:=aa hC2
    have uk:=aa LJ
    have EG:=λ u=>iR (some ⟨w.heap.size,0,none⟩) (n+1) C (k+1) TD u
    have ajh:=λ u=>iR (some ⟨w.heap.size,0,none⟩) (n+1) C k TD u
    rw[if_neg TD] at EG ajh
    simp only[Option.map_some,eB,Nat.mul_one,Nat.zero_add] at EG ajh
    push_cast at EG
    obtain⟨e,he⟩:∃e,e=w.heap.size:=⟨_,rfl⟩
    have HE:=aa he
    rw[<- he] at eX EG ajh ⊢
    have HX:=aa (show∀(j:Nat) v,[fo x][j]?=some v->w1.cell? ((⟨vb,0,none⟩:Addr).add j)=some v from λ j v hj=>by
     rw[Mp,Nat.zero_add,(HV.ae.later uk.ae).cell]
     simpa [fo] using hj)
    clear hb1 hC2 LJ he e1)
  |(refine jo rfl (.tmp 43) (.tmp 44) rfl e k _ ⟨vb,0,none⟩ [fo x] _ _ _ _ rfl rfl eX.ae (by have:=qA.ae;simp only[size_toArray,length_append,length_replicate,length_singleton];omega) TaP HX.ae (AQ [x]) ?_
    intro W2 u2 hg2 apG
    obtain⟨c2,hc2⟩:∃c2:x_,c2=((((gs.take k).map fo++List.replicate (C - k) (Value.pointer none)).toArray.toList.take k)++([fo x]++(((gs.take k).map fo++List.replicate (C - k) (Value.pointer none)).toArray.toList.drop (k+ [fo x].length)))).toArray:=⟨_,rfl⟩
    have HG2:=aa (show aB W2 e 135 c2 from hc2▸hg2)
    have apH:=aa hc2
    have awu:=aa apG
    clear hg2 apG hc2))
 refine bz 8 (ajg e g n C cap k) (QW _ _ _ _ _ _) WC WC WC ?_ ?_
 ·exact Zbi
 open zgK in exact ZeJ
theorem QX (gs:List Nat)(x k:Nat)(lv:Value)(base vb:Nat)(w:rQ)(hl:gs.length<=1000000)(hk:k<=gs.length)(hO:aH dn 135 1 w base lv gs)(hv:aB w vb 135 #[aw x])(hbase:base<=w.heap.size)(hne:lv.ownBlock≠some vb):
  ar 66 #[lv,af k,aL vb 1 1] w (AU lv base (gs.take k++x::gs.drop k) w):=by
 rcases Nat.lt_or_ge k gs.length with hlt | vp
 ·obtain⟨h1,h2 |⟨g,cap,cur,rfl,hbg,hg,hlc,hm,hsz,lT⟩⟩:=hO
  ·obtain⟨_,h2⟩:=h2;omega
  ·rw[rE,Nat.mul_one] at lT;rw[Nat.mul_one] at hsz;rcases Nat.lt_or_ge cap (gs.length+1)with hc | hc
   ·exact MP gs x k g cap base vb cur w hl hlt hbase hg hlc hc hsz lT hv
   ·exact Mz gs x k g cap base vb cur w hl hlt hbg hg hc hm hsz lT hv (λ e=>hne (by rw[e];rfl))
 ·have gw:k=gs.length:=by omega
  subst gw;rw[take_length,drop_length];exact Qr gs x lv base vb w hl hO hv hbase
def Kl (cols:List aV)(row:v_)(l:uF):v_:=(Tr.eP cols row l).map (·.1)
def weL (cols:List aV)(row:v_)(l:uF):Int:=bQ (Tr.eP cols row l)
variable{β:Type}{c:β->Int}
theorem fP{l:List β}:bU (l.map c)=0↔∀b∈l,c b=0:=
 ⟨λ h b hb=>Qx h _ (mem_map_of_mem hb),λ h=>zy λ e he=>by obtain⟨b,hb,rfl⟩:=List.mem_map.1 he;exact h b hb⟩
variable{α:Type}
def exE:tE α->Int
 | .error e=>e
 | .ok _=>0
def uq:tE α->Option α
 | .ok x=>some x
 | .error _=>none
theorem Dg(l:List (tE α)):zW l=if bU (l.map exE)≠0 then .error (bU (l.map exE))else .ok (l.filterMap uq):=rfl
theorem TI(c:β->Int)(v:β->α)(l:List β):zW (l.map λ b=>if c b≠0 then(.error (c b):tE α)else .ok (v b))=if bU (l.map c)≠0 then .error (bU (l.map c))else .ok (l.map v):=by
 have e1:(l.map λ b=>if c b≠0 then(.error (c b):tE α)else .ok (v b)).map exE=l.map c:=by
  rw[map_map];refine map_congr_left λ b _=>?_
  by_cases h:c b=0
  ·simp[h,exE]
  ·simp[h,exE]
 rw[Dg,e1];by_cases h:bU (l.map c)=0
 ·rw[if_neg TaN,if_neg TaN];congr 1;have h2:=fP.1 h;clear h e1
  induction l with
  | nil=>rfl
  | cons b l ih=>have hb:=h2 b (mem_cons_self ..);rw[map_cons,map_cons,filterMap_cons,if_neg (by simp[hb])];show v b::_=_;rw[ih λ x hx=>h2 x (mem_cons_of_mem _ hx)]
 ·rw[if_pos h,if_pos h]
variable{q:Qy}{cols:List aV}
theorem pL{p:ix}(h:dV q cols=.ok p):p.aI=q.aI/\(q.items=[]->q.aI=false)/\∃gc hd s1 s2,pd cols q.bF=.ok ()/\gM cols q.aF 0=.ok gc/\cC q.aI q.aF cols q.items ⟨[],gc⟩=.ok (p.items,hd,s1)/\dm q.aI q.aF cols q.fK s1=.ok (p.having,s2)/\dX q.aI q.aF cols q.ord s2=.ok (p.order,p.st)/\p.head=if q.items=[] then cols else hd:=by
 unfold dV at h;split at h
 ·cases h
 split at h
 ·cases h
 split at h
 ·cases h
 rename_i hw;split at h
 ·cases h
 rename_i gc hgc;split at h
 ·cases h
 rename_i hni;split at h
 ·cases h
 rename_i is hd s1 hi;split at h
 ·cases h
 rename_i hs s2 hh;split at h
 ·cases h
 rename_i os s3 ho;injection h with h;subst h;refine⟨rfl,λ he=>?_,gc,hd,s1,s2,hw,hgc,hi,hh,ho,rfl⟩
 cases hg:q.aI with
 | false=>rfl
 | true=>exact absurd ⟨he,hg⟩ hni
theorem yE{g:Bool} {aF:uF} :∀ {l:List (Tr×t_)} {s:dp} {ys:uF} {hd:List aV} {s':dp},cC g aF cols l s=.ok (ys,hd,s')->ys.length=l.length
 | [],s,ys,hd,s',h=>by unfold cC at h;injection h with h;injection h with h1 _;rw[<- h1];rfl
 |(t,nm)::l,s,ys,hd,s',h=>by
  unfold cC at h;split at h
  ·cases h
  split at h
  ·cases h
  rename_i hi;injection h with h;injection h with h1 _;rw[<- h1,length_cons,yE hi,length_cons]
def eR (cols:List aV)(l:uF)(rows:y_):y_:=rows.filter λ r=>(eK cols l r).2==0 &&(eK cols l r).1
def nL (cols:List aV)(ng:Nat)(E:uF)(aD:uF)(r:v_):v_×List (Val×Val):=((Kl cols r E).take ng,gh aD ((Kl cols r E).drop ng))
noncomputable def rowOf (ops:List Int) (ps:List (v_×List (Val×Val))) (k:v_):v_:=k++(cD ops ps k).map (·.1)
structure Goes (q:Qy) (p:ix) (cols:List aV) (rows:y_) (la:y_):Prop where
 fit:∀r∈rows,iE cols r=true
 bF:∀r∈rows,(eK cols q.bF r).2=0
 row:∀r∈eR cols q.bF rows,weL cols r (q.aF++p.st.aD.flatMap Tr.args)=0
 aF:∀k∈bZ q.aF.length ((eR cols q.bF rows).map λ r=>(Kl cols r (q.aF++p.st.aD.flatMap Tr.args)).take q.aF.length),bQ (cD (p.st.aD.map Tr.op) ((eR cols q.bF rows).map (nL cols q.aF.length (q.aF++p.st.aD.flatMap Tr.args) p.st.aD)) k)=0
 line:∀k∈bZ q.aF.length ((eR cols q.bF rows).map λ r=>(Kl cols r (q.aF++p.st.aD.flatMap Tr.args)).take q.aF.length),weL p.st.aF (rowOf (p.st.aD.map Tr.op) ((eR cols q.bF rows).map (nL cols q.aF.length (q.aF++p.st.aD.flatMap Tr.args) p.st.aD)) k) (p.items++p.order)=0
 ans:la=(mf [] ((bZ q.aF.length ((eR cols q.bF rows).map λ r=>(Kl cols r (q.aF++p.st.aD.flatMap Tr.args)).take q.aF.length)).map λ k=>vS p (rowOf (p.st.aD.map Tr.op) ((eR cols q.bF rows).map (nL cols q.aF.length (q.aF++p.st.aD.flatMap Tr.args) p.st.aD)) k) (Kl p.st.aF (rowOf (p.st.aD.map Tr.op) ((eR cols q.bF rows).map (nL cols q.aF.length (q.aF++p.st.aD.flatMap Tr.args) p.st.aD)) k) (p.items++p.order)))).map fg.row
def zB (p:ix)(over:List aV)(r:v_):tE fg:=match br over r (p.items++p.order)with
 | .error e=> .error e
 | .ok l=> .ok (vS p r l)
theorem Gz (p:ix)(cols:List aV)(rows:y_):xM p cols rows=zW (rows.map (zB p (ie p cols))):=rfl
variable{la:y_}{hd:List aV}
theorem MQ{p:ix} (hp:dV q cols=.ok p)(hg:p.aI=true)(hh:p.having=[])(ho:q.ord=[])(hl:q.lim=[]) {rows:y_} :
  jx q cols rows=.ok (hd,la)↔hd=p.head/\Goes q p cols rows la:=by
 unfold jx;rw[hp,hl,ho];dsimp only;by_cases h1:rows.any (λ r=> !iE cols r)=true
 ·rw[if_pos h1];refine⟨λ h=> Tac,λ⟨_,h⟩=>?_⟩;obtain⟨r,hr,hf⟩:=List.any_eq_true.1 h1;have:=h.fit r hr;rw[this] at hf;cases hf
 rw[if_neg h1];have fit:∀r∈rows,iE cols r=true:=λ r hr=>by rw[Bool.not_eq_true,any_eq_false] at h1;have:=h1 r hr;simpa using this
 unfold vR;have AK:(cT cols q.bF rows).1=eR cols q.bF rows:=rfl;rw[AK];by_cases h2:(cT cols q.bF rows).2=0;rotate_left
 ·rw[if_pos h2];refine⟨λ h=> Tac,λ⟨_,h⟩=>absurd (fP.2 h.bF) h2⟩
 rw[if_neg (by simp[h2]),if_neg (by simp[hg])];have bF:∀r∈rows,(eK cols q.bF r).2=0:=fP.1 h2;have ea:zW ((eR cols q.bF rows).map λ r=>br cols r (q.aF++p.st.aD.flatMap Tr.args))=_:=TI (λ r=>weL cols r (q.aF++p.st.aD.flatMap Tr.args)) (λ r=>Kl cols r (q.aF++p.st.aD.flatMap Tr.args)) (eR cols q.bF rows);rw[ea];by_cases h3:bU ((eR cols q.bF rows).map λ r=>weL cols r (q.aF++p.st.aD.flatMap Tr.args))=0;rotate_left
 ·rw[if_pos h3];exact⟨λ h=> Tac,λ⟨_,h⟩=>absurd (fP.2 h.row) h3⟩
 rw[if_neg (by simp[h3])];dsimp only;unfold jk;rw[map_map];have ep:((λ r=>(r.take q.aF.length,gh p.st.aD (r.drop q.aF.length)))∘ λ r=>Kl cols r (q.aF++p.st.aD.flatMap Tr.args))=nL cols q.aF.length (q.aF++p.st.aD.flatMap Tr.args) p.st.aD:=rfl;rw[ep];dsimp only;have ek:(if q.aF.length=0 then [[]] else iF (((eR cols q.bF rows).map (nL cols q.aF.length (q.aF++p.st.aD.flatMap Tr.args) p.st.aD)).map (·.1)))=bZ q.aF.length ((eR cols q.bF rows).map λ r=>(Kl cols r (q.aF++p.st.aD.flatMap Tr.args)).take q.aF.length):=by rw[map_map];rfl
 rw[ek];have H:=λ(h:Goes q p cols rows la)=>(⟨h.aF,h.line,h.ans⟩:_/\_/\_)
 have H2:=λ a b c=>(⟨fit,bF,fP.1 h3,a,b,c⟩:Goes q p cols rows la)
 generalize (eR cols q.bF rows).map (nL cols q.aF.length (q.aF++p.st.aD.flatMap Tr.args) p.st.aD)=ps at*;generalize bZ q.aF.length ((eR cols q.bF rows).map λ r=>(Kl cols r (q.aF++p.st.aD.flatMap Tr.args)).take q.aF.length)=ks at*;by_cases h4:bU (ks.map λ k=>bQ (cD (p.st.aD.map Tr.op) ps k))=0;rotate_left
 ·rw[if_pos h4];exact⟨λ h=> Tac,λ⟨_,h⟩=>absurd (fP.2 (H h).1) h4⟩
 rw[if_neg (by simp[h4])];dsimp only;rw[hh,J7];rw[if_neg (show¬((ks.map λ k=>k++(cD (p.st.aD.map Tr.op) ps k).map (·.1),(0:Int)).2≠0)from λ h=>h rfl)];dsimp only;rw[Gz];have eo:ie p cols=p.st.aF:=by unfold ie;rw[if_pos hg]
 rw[eo,map_map]
 have el:ks.map (zB p p.st.aF ∘ λ k=>k++(cD (p.st.aD.map Tr.op) ps k).map (·.1))=ks.map λ k=>if weL p.st.aF (rowOf (p.st.aD.map Tr.op) ps k) (p.items++p.order)≠0 then(.error (weL p.st.aF (rowOf (p.st.aD.map Tr.op) ps k) (p.items++p.order)):tE fg)else .ok (vS p (rowOf (p.st.aD.map Tr.op) ps k) (Kl p.st.aF (rowOf (p.st.aD.map Tr.op) ps k) (p.items++p.order))):=by
  refine map_congr_left λ k _=>?_
  show zB p p.st.aF (rowOf (p.st.aD.map Tr.op) ps k)=_;unfold zB br weL Kl;by_cases h:bQ (Tr.eP p.st.aF (rowOf (p.st.aD.map Tr.op) ps k) (p.items++p.order))=0
  ·rw[if_neg TaN,if_neg TaN]
  ·rw[if_pos h,if_pos h]
 rw[el,TI (λ k=>weL p.st.aF (rowOf (p.st.aD.map Tr.op) ps k) (p.items++p.order)) (λ k=>vS p (rowOf (p.st.aD.map Tr.op) ps k) (Kl p.st.aF (rowOf (p.st.aD.map Tr.op) ps k) (p.items++p.order))) ks];by_cases h5:bU (ks.map λ k=>weL p.st.aF (rowOf (p.st.aD.map Tr.op) ps k) (p.items++p.order))=0;rotate_left
 ·rw[if_pos h5];exact⟨λ h=> Tac,λ⟨_,h⟩=>absurd (fP.2 (H h).2.1) h5⟩
 rw[if_neg (by simp[h5])];dsimp only;constructor
 ·intro h;injection h with h;injection h with e1 e2;exact⟨e1.symm,H2 (fP.1 h4) (fP.1 h5) e2.symm⟩
 ·rintro⟨e1,h⟩;rw[e1,(H h).2.2];rfl
def gQ (ng:Nat)(aD:uF)(ls:y_):List (v_×List (Val×Val)):=ls.map λ l=>(l.take ng,gh aD (l.drop ng))
structure ow (ng:Nat) (aD:uF) (xs:List ia) (ks ls:y_):Prop where
 keys:xs.map ia.key=bZ ng (ks.map λ l=>l.take ng)
 qz:∀x∈xs,x.ss=dW (aD.map Tr.op) (gQ ng aD ls) x.key
variable{ng:Nat}{ks ls:y_}{x:ia}
theorem ow.get{aD:uF}  (h:ow ng aD xs ks ls)  (hx:xs[i]?=some x):(bZ ng (ks.map λ l=>l.take ng))[i]?=some x.key:=by rw[<- h.keys,getElem?_map,hx];rfl
variable{j:Nat}{y:ia}
theorem ow.less{aD:uF}  (h:ow ng aD xs ks ls)  (hx:xs[i]?=some x)(hy:xs[j]?=some y)(nA:i < j):bR x.key y.key < 0:=by have hp:=MB ng (ks.map λ l=>l.take ng);have e1:=h.get hx;have e2:=h.get hy;rw[pairwise_iff_getElem] at hp;obtain⟨i1,i2⟩:=List.getElem?_eq_some_iff.1 e1;obtain⟨j1,j2⟩:=List.getElem?_eq_some_iff.1 e2;have:=hp i j i1 j1 nA;rwa [i2,j2] at this
variable{l:v_}
theorem ow.there{aD:uF}     (h:ow ng aD xs ls ls)(hx:xs[j]?=some x)(hk:x.key=l.take ng):ow ng aD xs (ls++ [l]) ls:=by
 refine⟨?_,h.qz⟩;rw[h.keys,map_append];unfold bZ;by_cases h0:ng=0
 ·rw[if_pos h0,if_pos h0]
 ·rw[if_neg h0,if_neg h0];show _=iF ((ls.map λ l=>l.take ng)++ [l.take ng]);rw[CK];have Dh:=h.keys;unfold bZ at Dh;rw[if_neg h0] at Dh;rw[<- Dh];refine(CJ (j:=j) (x:=x.key) (λ i y hi hy=>?_) (by rw[getElem?_map,hx];rfl) (by rw[hk];exact xE _)).symm;rw[getElem?_map] at hy
  cases hz:xs[i]? with
  | none=>rw[hz] at hy;cases hy
  | some z=>rw[hz] at hy;injection hy with hy;rw[<- hy,<- hk];exact h.less hz hx hi
theorem ow.new{aD:uF}     (h:ow ng aD xs ls ls)(hj:j<=xs.length)(gu:∀i y,i < j->xs[i]?=some y->bR y.key (l.take ng)< 0)(hhi:∀y,xs[j]?=some y->0 < bR y.key (l.take ng))(h0:ng≠0)(hk:x.key=l.take ng)(hs:x.ss=(aD.map Tr.op).map fA):ow ng aD (xs.take j++x::xs.drop j) (ls++ [l]) ls:=by
 have hne:∀y∈xs,bR y.key (l.take ng)≠0:=by
  intro y hy;obtain⟨i,hi,rfl⟩:=getElem_of_mem hy;have fI:xs[i]?=some xs[i]:=getElem?_eq_getElem hi;rcases Nat.lt_trichotomy i j with h1 | h1 | h1
  ·have:=gu i _ h1 fI;omega
  ·subst h1;have:=hhi _ fI;omega
  ·have hj2:j < xs.length:=by omega
   have a1:=hhi _ (getElem?_eq_getElem hj2);have a2:=h.less (getElem?_eq_getElem hj2) fI h1;intro e;have e2:=fD _ _ e;rw[e2] at a2;omega
 refine⟨?_,λ y hy=>?_⟩
 ·unfold bZ;rw[if_neg h0,map_append (l₁:=ls)];show _=iF ((ls.map λ l=>l.take ng)++ [l.take ng]);have Dh:=h.keys;unfold bZ at Dh;rw[if_neg h0] at Dh;rw[CK,<- Dh,MA (j:=j) (by rw[length_map];exact hj) ?_ ?_,map_append,map_cons,map_take,map_drop,hk]
  ·intro i y hi hy;rw[getElem?_map] at hy
   cases hz:xs[i]? with
   | none=>rw[hz] at hy;cases hy
   | some z=>rw[hz] at hy;injection hy with hy;rw[<- hy];exact gu i z hi hz
  ·intro y hy;rw[getElem?_map] at hy
   cases hz:xs[j]? with
   | none=>rw[hz] at hy;cases hy
   | some z=>rw[hz] at hy;injection hy with hy;rw[<- hy];exact hhi z hz
 ·rcases List.mem_append.1 hy with hy | hy
  ·exact h.qz y (mem_of_mem_take hy)
  rcases List.mem_cons.1 hy with rfl | hy
  ·rw[hs];refine(CM λ q hq=>?_).symm;unfold gQ at hq;obtain⟨m,hm,rfl⟩:=List.mem_map.1 hq;have:m.take ng∈xs.map ia.key:=by rw[h.keys];unfold bZ;rw[if_neg h0];exact((oa fC fD _).2 _).2 (mem_map_of_mem hm)
   obtain⟨y,hy,e⟩:=List.mem_map.1 this;rw[hk];show bR (m.take ng) (l.take ng)≠0;have e:y.key=m.take ng:=e;rw[<- e];exact hne y hy
  ·exact h.qz y (mem_of_mem_drop hy)
theorem ow.feed{aD:uF}     (h:ow ng aD xs (ls++ [l]) ls)(hx:xs[j]?=some x)(hk:x.key=l.take ng):ow ng aD (xs.set j { x with ss:=eH x.ss (gh aD (l.drop ng))}) (ls++ [l]) (ls++ [l]):=by
 have hj:j < xs.length:=by
  rcases Nat.lt_or_ge j xs.length with h | h
  ·exact h
  ·rw[getElem?_eq_none h] at hx;cases hx
 have hf:gQ ng aD (ls++ [l])=gQ ng aD ls++ [(l.take ng,gh aD (l.drop ng))]:=by unfold gQ;rw[map_append];rfl
 refine⟨?_,λ y hy=>?_⟩
 ·rw[<- h.keys,map_set];exact CN (by rw[getElem?_map,hx];rfl)
 ·obtain⟨i,hi,he⟩:=getElem_of_mem hy;have Kk:i < xs.length:=by simpa using hi
  rw[getElem_set] at he;by_cases nA:j=i
  ·rw[if_pos nA] at he;subst he;dsimp only;rw[hf,MC (by rw[hk];exact xE _) (by rw[CP,length_map]),<- h.qz x (mem_of_getElem? hx)];rfl
  ·rw[if_neg nA] at he;subst he;have hi3:xs[i]?=some xs[i]:=getElem?_eq_getElem Kk;rw[hf,Jk ?_]
   ·exact h.qz _ (getElem_mem Kk)
   ·rw[<- hk];intro e;rcases Nat.lt_or_gt_of_ne nA with h1 | h1
    ·have:=h.less hx hi3 h1;omega
    ·have:=h.less hi3 hx h1;have:=fC.jd xs[i].key x.key;omega
theorem rK{k:v_}(h:k∈bZ ng (ls.map λ l=>l.take ng)):k.length<=ng:=by
 unfold bZ at h;split at h
 ·simp at h;rw[h];simp
 ·have:=((oa fC fD _).2 _).1 h;obtain⟨l,_,rfl⟩:=List.mem_map.1 this;exact length_take_le _ _
theorem Jz (op:Int):∀l:List (Val×Val),0<=cnt op l/\cnt op l<=l.length
 | []=>by simp[cnt]
 | x::l=>by
   have h:=Jz op l;have h1:0<=one op x/\one op x<=1:=by unfold one;split <;>(try split)<;>(try split)<;> omega
   simp only[cnt,length_cons];omega
variable{op:Int}{s:St}
theorem O1(h0:21<=op)(h1:op<=28) {l:List (Val×Val)} (r:Pj op s l)(hl:l.length<=1000000):s.Ok:=by
 have:=Jz op l;have:=r.count;have:=r.all;have hs:=r.sum;refine⟨by rw[r.kind];exact h0,by rw[r.kind];exact h1,by omega,by omega,by omega,by omega,?_,?_⟩
 ·rw[hs];unfold M;omega
 ·rw[hs];unfold M;omega
theorem uI{ops:List Int}(kP:∀op∈ops,isAgg op=true) {ps:List (v_×List (Val×Val))} {k:v_}(hp:ps.length<=300):∀s∈dW ops ps k,(s.Ok/\s.all < 4611686018427387904)/\∃v e,fM s v e:=by intro s hs;obtain⟨op,l,ho,hl,rfl⟩:=Wk kP s hs;have oL:=kP op ho;unfold isAgg at oL;simp only[Bool.and_eq_true,decide_eq_true_eq] at oL;have r:=su oL.1 oL.2 l;have ok:=O1 oL.1 oL.2 r TD;have:=Jz op l;have:=r.count;have ha:=r.all;exact⟨⟨ok,by omega⟩,ahG _ ok TD⟩
def ny:tE (v_)->Int
 | .error e=>e
 | .ok _=>0
variable{ts:uF}
theorem GC{row:v_}  (h:br cols row ts=.error e):e≠0:=by
 unfold br at h;split at h
 ·rename_i hne;injection h with h;rw[<- h];exact hne
 ·cases h
theorem Di{row:v_}  (h:br cols row ts=.ok l):l.length=ts.length:=by
 unfold br at h;split at h
 ·cases h
 ·injection h with h;rw[<- h,length_map,Tr.oN]
def fH (cols:List aV)(ts:uF)(rs:List aX):y_:=rs.filterMap λ r=>match br cols r.l ts with | .ok l=>some l | .error _=>none
def ee (cols:List aV)(ts:uF)(rs:List aX):Int:=bU (rs.map λ r=>ny (br cols r.l ts))
variable{rs:List aX}
theorem Dj(h:k < rs.length):fH cols ts (rs.take (k+1))=fH cols ts (rs.take k)++(match br cols rs[k].l ts with | .ok l=> [l] | .error _=> [])/\ee cols ts (rs.take (k+1))=jw (ee cols ts (rs.take k)) (ny (br cols rs[k].l ts)):=by
 have e:rs.take (k+1)=rs.take k++ [rs[k]]:=by rw[take_add_one,getElem?_eq_getElem h];rfl
 unfold fH ee;rw[e,filterMap_append,map_append];refine⟨?_,qV _ _⟩;congr 1;rw[filterMap_cons,filterMap_nil];cases br cols rs[k].l ts <;> rfl
theorem uJ (cols:List aV)(ts:uF)(rs:List aX):(fH cols ts rs).length<=rs.length:=length_filterMap_le _ _
theorem Wz(h:l∈fH cols ts rs):∃r∈rs,br cols r.l ts=.ok l:=by
 unfold fH at h;obtain⟨r,hr,e⟩:=List.mem_filterMap.1 h;refine⟨r,hr,?_⟩
 cases hw:br cols r.l ts with
 | error e2=>rw[hw] at e;cases e
 | ok m=>rw[hw] at e;injection e with e;rw[e]
theorem Dk{row:v_}  (hr:∀v∈row,v.Ok)(ht:Tr.cH ts)(h:br cols row ts=.ok l):∀v∈l,v.Ok:=by
 unfold br at h;split at h
 ·cases h
 ·injection h with h;rw[<- h];intro v hv;obtain⟨z,hz,rfl⟩:=List.mem_map.1 hv;exact Tr.vB cols row hr ts ht z hz
variable{B':Nat}{qs:List Nat}{ss:List St}
theorem dJ.down(h:dJ w B qs ss)(hB:B'<=B):dJ w B' qs ss:=⟨h.len,h.at_,λ q hq=>⟨Nat.le_trans hB (h.low q hq).1,(h.low q hq).2⟩,h.apart⟩
variable{A:z_}
theorem cM.take(h:cM w A l)(n:Nat):cM w A (l.take n):=⟨h.rv.J6 n,h.ty⟩
variable{w':rQ}{v:Value}
theorem aH.turn{f:α->wL} {e:TypeId} {size base:Nat}   {l:List α}  (h:aH f e size w base v l)(ht:pB w w' qs)(hs:dJ w B qs ss)(he:e≠199):aH f e size w' base v l:=h.keep λ g hg=>by obtain⟨h1,_,cur,hc⟩:=h.lt hg;exact ht.block g h1 (hs.tP (show aB w g e cur from hc) he)
theorem agy(h:xs[j]?=some x):(xs.set j { x with ss:=ss }).map ia.g=xs.map ia.g:=by rw[map_set];exact CN (by rw[getElem?_map,h];rfl)
structure Dl (w:rQ) (gp:Nat) (aF aD:uF) (cols:List aV) (yg ya:u_) (GA:z_) (gc:Nat) (CA:z_) (cc:Nat) (AA:z_) (ac:Nat):Prop where
 lt:gp < w.heap.size
 c4:w.cell? ⟨gp,4,none⟩=some (.slice GA yg.length gc)
 c8:w.cell? ⟨gp,8,none⟩=some (.slice CA cols.length cc)
 c9:w.cell? ⟨gp,9,none⟩=some (.slice AA ya.length ac)
 rg:RE w w.heap.size GA yg
 tg:Tr.aM w (Old w) aF yg
 ra:RE w w.heap.size AA ya
 ta:Tr.aM w (Old w) aD ya
 rc:RC w w.heap.size CA cols
variable{gp:Nat}{yg ya:u_}{GA:z_}{gc:Nat}{CA:z_}{cc:Nat}{AA:z_}
theorem Dl.later{aF aD:uF}        {ac:Nat}(h:Dl w gp aF aD cols yg ya GA gc CA cc AA ac)(hb:aj w w'):Dl w' gp aF aD cols yg ya GA gc CA cc AA ac:=
 ⟨Nat.lt_of_lt_of_le h.lt hb.size,(hb.cell (p:=⟨gp,4,none⟩) h.lt).trans h.c4,(hb.cell (p:=⟨gp,8,none⟩) h.lt).trans h.c8,(hb.cell (p:=⟨gp,9,none⟩) h.lt).trans h.c9,h.rg.later hb,Tr.aM.later h.tg hb,h.ra.later hb,Tr.aM.later h.ta hb,h.rc.later hb⟩
variable{ys:u_}
theorem ady{base c:Nat}  (h:aH bD 46 7 w base (.slice A n c) ys):RE w w.heap.size A ys:=by obtain⟨A2,c2,e,_,h1⟩:=pH h (S:=Old w) (λ q hq=>(h.lt hq).1);injection e with e _ _;subst e;exact ZcM
theorem rL{base:Nat}  (h:aH bD 46 7 w base v ys):∃A c,v=.slice A ys.length c/\RE w w.heap.size A ys:=by obtain⟨A,c,e,_,h1⟩:=pH h (S:=Old w) (λ q hq=>(h.lt hq).1);refine⟨A,c,e,?_⟩;exact ZcM
def uK (w:rQ)(B0:Nat)(v:Value)(E:u_):Prop:=aH bD 46 7 w B0 v E
variable{B0:Nat}{E:u_}
theorem uK.later(h:uK w B0 v E)(hb:ai w w'):uK w' B0 v E:=aH.later h hb
def nM (res:tE (v_))(w:rQ)(B0:Nat)(v0 v1:Value):Prop:=match res with
 | .error er=>v0=ay/\v1=af er
 | .ok l=>v1=af 0/\aH aU 44 3 w B0 v0 l
variable{res:tE (v_)}{v0 v1:Value}
theorem nM.later(h:nM res w B0 v0 v1)(hb:ai w w'):nM res w' B0 v0 v1:=by
 cases res with
 | error er=>exact h
 | ok l=>exact⟨h.1,aH.later h.2 hb⟩
theorem nM.err(h:nM res w B0 v0 v1):v1=af (ny res):=by
 cases res with
 | error er=>exact h.2
 | ok l=>exact h.1
def ajj (gp:Nat)(GA:z_)(gn gc:Nat)(O6:z_)(en O7:Nat)(CA:z_)(cn cc:Nat)(RA:z_)(rn rc:Nat)(E:u_)(B0:Nat)(res:tE (v_)):Nat->rQ->Value->Prop
 | 0,_,v=>v=aw gp
 | 1,_,v=>v=aw gp
 | 2,_,v=>v=aw gp
 | 3,_,v=>v=bc gp 4
 | 4,_,v=>v=.slice GA gn gc
 | 5,_,v=>v=.slice O6 en O7
 | 6,w,v=>∃gB:Nat,v=aL gB 2 2/\aB w gB 23 #[.slice GA gn gc,.slice O6 en O7]
 | 7,w,v=>∃v7:Value,v=v7/\uK w B0 v7 E
 | 8,_,v=>v=aw gp
 | 9,_,v=>v=aw gp
 | 10,_,v=>v=bc gp 8
 | 11,_,v=>v=.slice CA cn cc
 | 12,_,v=>v=.slice RA rn rc
 | 13,w,v=>∃x0 x1:Value,v=.tuple #[x0,x1]/\nM res w B0 x0 x1
 | 14,w,v=>∃x0 x1:Value,v=.tuple #[x0,x1]/\nM res w B0 x0 x1
 | 15,w,v=>∃x0 x1:Value,v=x0/\nM res w B0 x0 x1
 | 16,_,v=>v=af (ny res)
 | 17,w,v=>∃x0 x1:Value,v=x0/\nM res w B0 x0 x1
 | _,_,_=>False
theorem QY (gp:Nat)(GA:z_)(gn gc:Nat)(O6:z_)(en O7:Nat)(CA:z_)(cn cc:Nat)(RA:z_)(rn rc:Nat)(E:u_)(B0:Nat)(res:tE (v_)):∀i w w' v,ajj gp GA gn gc O6 en O7 CA cn cc RA rn rc E B0 res i w v->ai w w'->ajj gp GA gn gc O6 en O7 CA cn cc RA rn rc E B0 res i w' v:=by
 intro i w w' v h hl
 match i with
 | 0 | 1 | 2 | 3 | 4 | 5 | 8 | 9 | 10 | 11 | 12 | 16=>exact h
 | 6=>exact ZfP
 | 7=>obtain⟨v7,h1,f0⟩:=h;exact⟨v7,h1,f0.later hl⟩
 | 13=>exact ZbV
 | 14=>exact ZbV
 | 15=>exact ZbV
 | 17=>exact ZbV
 | n+18=>exact h
def ajk (gp:Nat)(GA:z_)(gn gc:Nat)(XA:z_)(xn xc:Nat):Nat->rQ->Value->Prop
 | 0,_,v=>v=.slice XA xn xc
 | 1,_,v=>v=aw gp
 | 2,_,v=>v=aw gp
 | 3,_,v=>v=aw gp
 | 4,_,v=>v=bc gp 4
 | 5,_,v=>v=.slice GA gn gc
 | 6,_,v=>v=af gn
 | 7,_,v=>v=aw gp
 | 8,_,v=>v=aw gp
 | 9,_,v=>v=aw gp
 | 10,_,v=>v=bc gp 4
 | 11,_,v=>v=.slice GA gn gc
 | 12,_,v=>v=af gn
 | 13,_,v=>v=.slice XA gn gn
 | _,_,_=>False
theorem QZ (gp:Nat)(GA:z_)(gn gc:Nat)(XA:z_)(xn xc:Nat):∀i w w' v,ajk gp GA gn gc XA xn xc i w v->ai w w'->ajk gp GA gn gc XA xn xc i w' v:=by
 intro i w w' v h hl
 match i with
 | 0 | 1 | 2 | 3 | 4 | 5 | 6 | 7 | 8 | 9 | 10 | 11 | 12 | 13=>exact h
 | n+14=>exact h
def adz (gp lb ln lc j q:Nat)(XA:z_)(xn xc gn:Nat):Nat->rQ->Value->Prop
 | 0,_,v=>v=aw gp
 | 1,_,v=>v=aL lb ln lc
 | 2,_,v=>v=af j
 | 3,_,v=>v=bc lb j
 | 4,_,v=>v=aw q
 | 5,_,v=>v=.slice XA xn xc
 | 6,_,v=>v=.slice XA gn gn
 | 7,_,v=>v=af gn
 | 8,_,v=>v=.slice (fj XA xc gn) (xn - gn) (xc - gn)
 | _,_,_=>False
theorem Dm (gp lb ln lc j q:Nat)(XA:z_)(xn xc gn:Nat):∀i w w' v,adz gp lb ln lc j q XA xn xc gn i w v->ai w w'->adz gp lb ln lc j q XA xn xc gn i w' v:=by
 intro i w w' v h hl
 match i with
 | 0 | 1 | 2 | 3 | 4 | 5 | 6 | 7 | 8=>exact h
 | n+9=>exact h
theorem zhU.Kcl(h:p:=by
 refine bz 9 (adz gp lb xs.length lc j q XA xn xc gn) (Dm _ _ _ _ _ _ _ _ _ _) WC WC WC ?_ ?_
 ·exact Za2
 exact Zat):p:=h
theorem zhV.Kcl(h:p:=by
 refine bz 9 (adz gp lb xs1.length lc9 j q XA xn xc gn) (Dm _ _ _ _ _ _ _ _ _ _) WC WC WC ?_ ?_
 ·exact Za2
 exact Zat):p:=h
theorem zhe.Kb4(h:p:=by
 have Cw:=aa (MS.ae.later hL);have HGW:=aa (VY.ae.later hL);have HKW:=aa (uH.ae.keep hL.size λ b cur hqk=>hL.block b hqk.lt);clear hL uY Al P5 MS VY uH HEW;obtain⟨LA,lc,aZ,hlc,P6⟩:=wF Cw.ae;have apV:=aa aZ;have hxl:xs.length<=301:=by have h1:=congrArg List.length wK.ae.keys;rw[length_map] at h1;have h2:=yu gn (ls.map λ l=>l.take gn);rw[length_map] at h2;have h3:=HLS.ae;have h4:=Eh.ae;omega
 have HXL:=aa hxl;have tH:(l.take gn).length=gn:=by rw[length_take];have:=xX.ae;have:=oF.ae;omega
 have XS:=aa tH;have hng:gn<=1000:=by have:=je.ae;have:=A1.ae;omega
 have Yh:=aa hng
 have hsr:∀W,aj W6 W->ar 64 #[.slice LA (xs.map ia.g).length lc,.slice XA gn gn,.func (.func 65) #[] #[]] W (Cy (xs.map ia.g).length (λ i=>bR ((xs.map ia.key).getD i []) (l.take gn)) W):=λ W hW=>by
  refine Qo (xs.map ia.g) LA XA lc gn gn (λ i=>bR ((xs.map ia.key).getD i []) (l.take gn)) W (by rw[length_map];omega) (P6.later hW) (λ i hi W2 hW2=>?_) (λ i j nA hj hc=>?_)
  ·rw[length_map] at hi;have hX:=((HGW.ae.later hW).later hW2).at_ xs[i] (getElem_mem hi);have Kx:=hX.blk.cell 0;simp only[getElem?_toArray,getElem?_cons_zero] at Kx;have hk2:=(HKW.ae.keep hW.size λ b cur hqk=>hW.block b hqk.lt).keep hW2.size λ b cur hqk=>hW2.block b hqk.lt
   have nV:xs[i].key.length<=gn:=rK (by rw[<- wK.ae.keys];exact mem_map_of_mem (getElem_mem hi));have tL:=Qn xs[i].g xs[i].KA XA xs[i].key (l.take gn) xs[i].kc gn W2 hX.blk.lt Kx hX.key.rv (hk2.rv.J6 gn) TD TD;rw[tH] at tL;simp only[getElem_map,getD_eq_getElem?_getD,getElem?_map,getElem?_eq_getElem hi,Option.map_some,Option.getD_some];exact tL
  ·rw[length_map] at hj;have hi:i < xs.length:=by omega
   simp only[getD_eq_getElem?_getD,getElem?_map,getElem?_eq_getElem hi,getElem?_eq_getElem hj,Option.map_some,Option.getD_some] at hc ⊢;rcases Nat.lt_or_ge i j with h1 | h1
   ·have:=wK.ae.less (getElem?_eq_getElem hi) (getElem?_eq_getElem hj) h1;exact fC.afG this TD
   ·have e:i=j:=by omega
    subst e;exact hc
 have HSR:=aa (hsr _ (Below.refl _ _));have HLR:=aa P6;rw[length_map] at HSR hlc apV aZ;have tK:=aa hlc;subst aZ;clear hsr P6 tH hng hlc apV;go_wp2_with fail;refine HSR.ae.mono ?_;rintro e w7 ⟨j,hj,rfl,gu,hhi,b7⟩;have Ly:=aa hj;have uk:=aa (show∀i y,i < j->xs[i]?=some y->bR y.key (l.take gn)< 0 from λ i y hi hy=>by
  have:=gu i hi
  simpa only[getD_eq_getElem?_getD,getElem?_map,hy,Option.map_some,Option.getD_some] using this)
 have ajv:=aa (show∀i y,j<=i->xs[i]?=some y->0<=bR y.key (l.take gn)from λ i y hi hy=>by
  have rW:i < xs.length:=(List.getElem?_eq_some_iff.1 hy).1
  have:=hhi i hi rW
  simpa only[getD_eq_getElem?_getD,getElem?_map,hy,Option.map_some,Option.getD_some] using this)
 have Lw:=aa (Below.trans Mt.ae (b7.mono Mt.ae.size));have pG:=aa (MD.ae.later b7);have MT:=aa (Ei.ae.later b7);have MU:=aa (Cw.ae.later b7);have LT:=aa (HGW.ae.later b7);have MO:=aa (HKW.ae.keep b7.size λ b cur hqk=>b7.block b hqk.lt);have ajw:=aa (HLR.ae.later b7);clear b7 gu hhi hj Mt MD Ei Cw HGW HKW HLR HSR;by_cases hf:j < xs.length/\bR ((xs.map ia.key).getD j []) (l.take gn)=0
 ·obtain⟨hf1,hf2⟩:=hf;have tf:(decide (j < xs.length)&& decide (bR ((xs.map ia.key).getD j []) (l.take gn)=0))=true:=by simp only[decide_eq_true hf1,decide_eq_true hf2,Bool.and_self]
  have HF1:=aa hf1;have HKEY:=aa (show xs[j].key=l.take gn from fD _ _ (by
   have h2:=hf2
   simp only[getD_eq_getElem?_getD,getElem?_map,getElem?_eq_getElem hf1,Option.map_some,Option.getD_some] at h2
   exact h2))
  have HM:=aa (wK.ae.there (getElem?_eq_getElem hf1) HKEY.ae);have hxj:xs[j]?=some xs[j]:=getElem?_eq_getElem hf1;rw[tf];obtain⟨x,hX⟩:∃x,x=xs[j]:=⟨_,rfl⟩;rw[<- hX] at HKEY hxj;have Rg:=aa hxj;have Rh:=Lw;have P7:=pG;have JC:=MT;have mI:=MU;have Wp:=LT;have HK9:=MO;have P8:=ajw;clear hf1 hf2 tf hxj hX Lw pG MT MU LT MO ajw wK uk ajv;go_upto_region 20 with fail;have ve:j < xs.length:=(List.getElem?_eq_some_iff.1 Rg.ae).1;have HJL:=aa ve;obtain⟨lb,hA,ze,hcj⟩:=P8.ae.at_ (k:=j) (by rw[length_map];exact ve);obtain⟨ajx,hxe⟩:=List.getElem?_eq_some_iff.1 (show(xs.map ia.g)[j]?=some x.g by rw[getElem?_map,Rg.ae];rfl);open zhU in exact Zg7
 ·have tf:(decide (j < xs.length)&& decide (bR ((xs.map ia.key).getD j []) (l.take gn)=0))=false:=by
   rw[Bool.and_eq_false_iff,decide_eq_false_iff_not,decide_eq_false_iff_not];by_cases h1:j < xs.length
   ·exact .inr λ h2=>hf ⟨h1,h2⟩
   ·exact .inl h1
  have HNF:=aa (show∀y,xs[j]?=some y->0 < bR y.key (l.take gn)from λ y hy=>by
   have h1:=ajv.ae j y (Nat.le_refl _) hy
   have ve:=(List.getElem?_eq_some_iff.1 hy).1
   rcases Int.lt_or_eq_of_le h1 with h2 | h2
   ·exact h2
   ·exact absurd ⟨ve,by simp only[getD_eq_getElem?_getD,getElem?_map,hy,Option.map_some,Option.getD_some];exact h2.symm⟩ hf)
  have Yk:=aa (show gn≠0 from λ h0=>by
   have hk:=wK.ae.keys
   unfold bZ at hk
   rw[if_pos h0] at hk
   have fJ:xs.length=1:=by have:=congrArg List.length hk;simpa using this
   obtain⟨x,hX⟩:∃x,xs=[x]:=List.length_eq_one_iff.1 fJ
   have K7:x.key=[]:=by rw[hX] at hk;simpa using hk
   have ht:l.take gn=[]:=by rw[h0];rfl
   rcases Nat.eq_zero_or_pos j with h1 | h1
   ·have:=HNF.ae x (by rw[h1,hX];rfl)
    rw[K7,ht] at this
    simp[bR] at this
   ·have:=uk.ae 0 x h1 (by rw[hX];rfl)
    rw[K7,ht] at this
    simp[bR] at this)
  rw[tf];clear tf hf;have HE7:=aa (nI.ae.later Lw.ae);go_wp2_with fail;refine(Gi gp ya AA ac XA gn gn w7 (by have:=A2.ae;omega) HE7.ae.lt HE7.ae.c9 HE7.ae.ra (λ y hy=>by
   have h1:y.op∈aD.map Tr.op:=by rw[<- HK.ae];exact mem_map_of_mem hy
   obtain⟨t,ht,he⟩:=List.mem_map.1 h1
   rw[<- he]
   exact HS.ae t ht)).mono ?_
  rintro e w2 ⟨gg,sv,qs,rfl,ej,Oc,hgk,O0,TJ,b2⟩;have bN:=ah w2 (.cells #[aw gg] 135);have hNB:=aB.new w2 135 #[aw gg];have b9:=ai.then b2 bN
  have Q6:w0.heap.size<=w7.heap.size:=Lw.ae.size;have Wm:=aa (show ia.At w2 w0.heap.size ⟨gg,XA,gn,l.take gn,sv,qs,ya.map λ y=>fA y.op⟩from⟨by rw[XS.ae];exact hgk,Nat.le_trans Q6 ej,O0.down Q6,TJ.down Q6,(MO.ae.keep b2.size λ b cur hqk=>b2.block b hqk.lt).take gn⟩);have Ye:=aa ((LT.ae.later b2).insert (k:=j) Wm.ae (λ y hy q hq hm=>by
   have h1:=((LT.ae.at_ y hy).qz.low q hq).2
   have h2:=(TJ.low q hm).1
   omega))
  have adI:=aa (Ye.ae.later bN);have wN:=aa (MU.ae.later b9);have aqb:=aa (pG.ae.later b9);have EL:=aa (MT.ae.later b9);have HK8:=aa (MO.ae.keep b9.size λ b cur hqk=>b9.block b hqk.lt);have Gr:=aa (Below.trans Lw.ae (b9.mono Q6));have oD:=aa hNB;have hvb:(Value.slice LA xs.length lc).ownBlock≠some w2.heap.size:=λ e=>by have:=(MU.ae.lt e).1;have:=b2.size;omega
  have HVB:=aa hvb;have HMJ:=aa (show ow gn aD (xs.take j++⟨gg,XA,gn,l.take gn,sv,qs,ya.map λ y=>fA y.op⟩::xs.drop j) (ls++ [l]) ls from wK.ae.new (by exact Ly.ae) uk.ae HNF.ae Yk.ae rfl (by
   show ya.map (λ y=>fA y.op)=_
   rw[<- HK.ae,map_map]
   rfl))
  have ou:(xs.map ia.g).take j++gg::(xs.map ia.g).drop j=(xs.take j++(⟨gg,XA,gn,l.take gn,sv,qs,ya.map λ y=>fA y.op⟩:ia)::xs.drop j).map ia.g:=by simp
  have hjx:(xs.take j++(⟨gg,XA,gn,l.take gn,sv,qs,ya.map λ y=>fA y.op⟩:ia)::xs.drop j)[j]?=some ⟨gg,XA,gn,l.take gn,sv,qs,ya.map λ y=>fA y.op⟩:=by
   have ve:j<=xs.length:=by exact Ly.ae
   rw[getElem?_append_right TaU,length_take,Nat.min_eq_left ve,Nat.sub_self];rfl
  have adJ:(xs.take j++(⟨gg,XA,gn,l.take gn,sv,qs,ya.map λ y=>fA y.op⟩:ia)::xs.drop j).length<=302:=by
   have ve:j<=xs.length:=by exact Ly.ae
   have:=HXL.ae;simp only[length_append,length_take,length_cons,length_drop];omega
  obtain⟨x,hX⟩:∃x:ia,x=⟨gg,XA,gn,l.take gn,sv,qs,ya.map λ y=>fA y.op⟩:=⟨_,rfl⟩;have HKEY:=aa (show x.key=l.take gn by rw[hX]);rw[<- hX] at Ye adI HMJ ou hjx adJ Wm;obtain⟨xs1,aqd⟩:∃xs1:List ia,xs1=xs.take j++x::xs.drop j:=⟨_,rfl⟩;rw[<- aqd] at Ye adI HMJ ou hjx adJ;have Rg:=aa hjx;have HM:=HMJ;have HGS:=aa ou;have aDw:=aa adJ;have aqe:=QX (xs.map ia.g) gg j (.slice LA xs.length lc) w0.heap.size w2.heap.size _ (by rw[length_map];have:=HXL.ae;omega) (by rw[length_map];exact Ly.ae) wN.ae oD.ae Gr.ae.size HVB.ae;have ym:=aa aqe;clear aqe hX aqd ou hjx adJ hvb hNB bN b2 b9 Q6 O0 TJ hgk Oc ej Wm LT MU pG MT MO Lw Ye wK uk ajv HNF ajw HE7;go_wp2_with fail;refine ym.ae.mono ?_;rintro e w1 ⟨v1,rfl,hR,Xd⟩;rw[HGS.ae] at hR;have mI:=aa hR;have Wp:=aa (adI.ae.own wN.ae Xd V0 V0 V0 V0);have P7:=aa (aqb.ae.past wN.ae V0 Xd);have JC:=aa (EL.ae.jr wN.ae V0 Xd);have agE:=bj wN.ae Xd Gr.ae.size;have Rh:=aa (Below.trans Gr.ae agE);have HK9:=aa (HK8.ae.keep Xd.size λ b cur hqk=>Xd.block b hqk.lt λ e=>wN.ae.other hqk V0 e.symm);obtain⟨LA9,lc9,hv9,_,aqg⟩:=wF mI.ae;rw[length_map] at hv9;subst hv9;have P8:=aa aqg;clear hR Xd agE aqg wN adI aqb EL Gr HK8 ym oD HVB HGS;go_upto_region 20 with fail;have ve:j < xs1.length:=(List.getElem?_eq_some_iff.1 Rg.ae).1;have HJL:=aa ve;obtain⟨lb,hA,ze,hcj⟩:=P8.ae.at_ (k:=j) (by rw[length_map];exact ve);obtain⟨ajx,hxe⟩:=List.getElem?_eq_some_iff.1 (show(xs1.map ia.g)[j]?=some x.g by rw[getElem?_map,Rg.ae];rfl)
  open zhV in exact Zg7):p:=h
theorem zhA.Kcc(h:p:=by
 have hln:(aF++aD.flatMap Tr.args).length=gn+ye.length:=by have a1:=dZ nI.ae.tg;have a2:=dZ LW.ae;rw[length_append,a1,a2,je.ae]
 have hgx:gn<=l.length:=by rw[AW.ae,hln];omega
 have xX:=aa hgx;have HXC:=aa (show gn<=xc by omega);have Rf:=aa hxl;have HEW:=aa (nI.ae.later uY.ae);have uU:=aa (show(l.drop gn).length=ye.length by rw[length_drop,AW.ae,hln];omega);obtain⟨xn,Ae⟩:∃xn,xn=l.length:=⟨_,rfl⟩;rw[<- Ae] at xX ⊢;have oF:=aa Ae;clear K7 hln hgx hxl Ae KK;go_upto_region 16 with fail;refine bz 14 (ajk gp GA gn gc XA xn xc) (QZ _ _ _ _ _ _ _) WC WC WC ?_ ?_
 ·simp only[take_succ_cons,take_zero];refine⟨Zaa,Zaa,Zaa,Zaa,Zaa,Zgp,Zaa,Zaa,Zaa,Zaa,Zaa,Zgp,Zaa,?_,trivial⟩
  ·intro ρ w3 hc hL hr;have h0:_=_:=hr.1;have h1:_=_:=hr.2.1;have h2:_=_:=hr.2.2.1;have hs:=Gj XA xn xc gn gn (Nat.le_refl _) HXC.ae w3;exact ZgJ
 intro W6 hL;simp only[Uab];rintro a0 - a1 - a2 - a3 - a4 - a5 - a6 - a7 - a8 - a9 - FI - L9 - a12 - _ rfl;open zhe in exact ZfG):p:=h
theorem zcy.Kax(h:p:=by
 have iz:=aa Gu;have HQN:=aa Rb;have ajn:=aa lX;have HB:=aa hqk;have WE:=aa fK;have HP:=aa hP;have P0:=aa apM;have Km:=aa aZ;have VQ:=aa fI;have HI0:=aa hI0;have NZ:=aa (show yg.length+ye.length<=1000000 by omega);have MY:=aa (show(yg++ye).length<=1599289640356 by rw[length_append];omega);clear h AK SZ qK hfn hz hS hw AL Ai G3 Wy NT Gu Rb lX hqk fK hP apM aZ fI hI0;simp only[iA,eZ,Tryz.f33,Option.getD_some];refine wp_seq_k λ K hK=>?_
 have Ed:=aa hK;clear hK;go_wp2_with fail;go_loopw [10,54] (λ lv i wr=>∃(k:Nat) (xs:List ia),k<=zs.length/\i=af k/\aj w0 wr/\aH bD 46 7 wr w0.heap.size (.slice O6 ye.length O7) ye/\aB wr gb 84 #[af (ee cols (aF++aD.flatMap Tr.args) (zs.take k))]/\aH dn 135 1 wr w0.heap.size lv (xs.map ia.g)/\kG wr w0.heap.size xs/\ow gn aD xs (fH cols (aF++aD.flatMap Tr.args) (zs.take k)) (fH cols (aF++aD.flatMap Tr.args) (zs.take k))) (λ _ i _=>zs.length - (intOf i).toNat);case atStart=>exact⟨0,xs0,Nat.zero_le _,rfl,HB.ae,WE.ae,HP.ae,Km.ae,VQ.ae,HI0.ae⟩
 case round=>
  clear HB WE HP Km VQ HI0;obtain⟨k,xs,hkr,rfl,hB,hAV,hGB,Yj,hG,hI⟩:=hrel;have HB:=aa hB;have WE:=aa hAV;have HP:=aa hGB;have Km:=aa Yj;have HG:=aa hG;have wK:=aa hI;clear hB hAV hGB Yj hG hI;by_cases hlt:k < zs.length
  ·obtain⟨b,off,rfl,kM,hcell,uW⟩:=(iz.ae.below HB.ae).at_ hlt;have Bq:=aa (uW.more HB.ae.size);have QQ:=aa (ajn.ae zs[k] (getElem_mem hlt));have P3:=aa (Dj (cols:=cols) (ts:=aF++aD.flatMap Tr.args) hlt);have HLS:=aa (uJ cols (aF++aD.flatMap Tr.args) (zs.take k));have Eh:=aa (show(zs.take k).length<=300 by rw[length_take];have:=HQN.ae;omega);generalize zs[k]=r at*;generalize ee cols (aF++aD.flatMap Tr.args) (zs.take k)=FK at*;generalize fH cols (aF++aD.flatMap Tr.args) (zs.take k)=ls at*;obtain⟨res,hres⟩:∃res,res=br cols r.l (aF++aD.flatMap Tr.args):=⟨_,rfl⟩;rw[<- hres] at P3;have jR:=aa hres.symm;have oM:=aa (nI.ae.later HB.ae);have HTE:=aa (Tr.aM.later LW.ae HB.ae);have oF:=aa (ady WE.ae);obtain⟨E,hE⟩:∃E,E=yg++ye:=⟨_,rfl⟩;have pV:=aa hE;obtain⟨B0,hB0⟩:∃B0,B0=wr.heap.size:=⟨_,rfl⟩;have BN:=aa hB0;have hk9:k<=300:=by have:=HQN.ae;omega
   clear kM uW hres hE hB0;go_upto_region 14 with fail;clear hcell;refine bz 18 (ajj gp GA gn gc O6 ye.length O7 CA cols.length cc r.A r.l.length r.c E B0 res) (QY _ _ _ _ _ _ _ _ _ _ _ _ _ _ _ _) WC WC WC ?_ ?_
   ·simp only[take_succ_cons,take_zero];refine⟨Zaa,Zaa,Zaa,Zaa,?_,Zaa,?_,?_,Zaa,Zaa,Zaa,?_,Zaa,?_,?_,?_,?_,?_,trivial⟩
    ·intro ρ w3 hc hL hr;have h0:_=_:=hr.1;have c0:=(oM.ae.later hL).c4;exact ZbK
    ·intro ρ w3 hc hL hr;have h0:_=_:=hr.1;have h1:_=_:=hr.2.1;exact aq (v:=aL w3.heap.size 2 2) (w':=w3.alloc (.cells #[.slice GA gn gc,.slice O6 ye.length O7] 23)) Tax ⟨ah _ _,_,rfl,aB.new _ _ _⟩
    ·intro ρ w3 hc hL hr;obtain⟨gB0,h0,cN⟩:∃gB:Nat,ρ (.tmp 65)=aL gB 2 2/\aB w3 gB 23 #[.slice GA gn gc,.slice O6 ye.length O7]:=hr.1;have e1:=hc.func 35;refine bp (f:=35) (args:= #[aL gB0 2 2]) (w':=w3) Tay ?_;refine(uy (some ⟨gB0,0,none⟩) 2 [⟨GA,gc,yg⟩,⟨O6,O7,ye⟩] w3 Taa (by simpa [lF] using NZ.ae) ?_).mono ?_
     ·refine⟨gB0,0,rfl,cN.lt,λ i x hX=>?_⟩
      match i,hX with
      | 0,hX=>simp at hX;subst hX;refine⟨?_,(oM.ae.later hL).rg⟩;exact Zfq
      | 1,hX=>simp at hX;subst hX;refine⟨?_,oF.ae.later hL⟩;have cb:=cN.cell 1;simp only[Uaa] at cb;rw[Nat.zero_add,cb]
      | n+2,hX=>simp at hX
     ·exact ZdO
    ·intro ρ w3 hc hL hr;have h0:_=_:=hr.1;have c0:=(oM.ae.later hL).c8;exact Zdy
    ·intro ρ w3 hc hL hr;obtain⟨v70,h0,cN⟩:∃v7:Value,ρ (.tmp 66)=v7/\uK w3 B0 v7 E:=hr.1;have h1:_=_:=hr.2.1;have h2:_=_:=hr.2.2.1;obtain⟨EA,ec,he,Gx⟩:=rL (show aH bD 46 7 w3 B0 v70 E from cN);rw[pV.ae] at he Gx;subst he;have e1:=hc.func 34;refine bp (f:=34) (args:= #[.slice EA (yg++ye).length ec,.slice CA cols.length cc,.slice r.A r.l.length r.c]) (w':=w3) (by simp[go_sem,e1,h0,h1,h2];done) ?_;refine(Gm cols CA cc r.l r.A r.c (aF++aD.flatMap Tr.args) (yg++ye) EA ec w3 GZ.ae QQ.ae.1 QQ.ae.2 mr.ae (Tr.all_append (oM.ae.later hL).tg (Tr.aM.later HTE.ae hL)) MY.ae Gx (oM.ae.later hL).rc (Bq.ae.later hL)).mono ?_;exact ZcC
    ·intro ρ w3 hc hL hr;obtain⟨WG,WH,h0,cN⟩:∃x0 x1:Value,ρ (.tmp 72)=.tuple #[x0,x1]/\nM res w3 B0 x0 x1:=hr.1;exact ZfT
    ·intro ρ w3 hc hL hr;obtain⟨WG,WH,h0,cN⟩:∃x0 x1:Value,ρ (.tmp 58)=.tuple #[x0,x1]/\nM res w3 B0 x0 x1:=hr.1;exact ZcY
    ·intro ρ w3 hc hL hr;obtain⟨WG,WH,h0,cN⟩:∃x0 x1:Value,ρ (.tmp 58)=.tuple #[x0,x1]/\nM res w3 B0 x0 x1:=hr.1;exact Zf4
    ·intro ρ w3 hc hL hr;obtain⟨WG,WH,h0,cN⟩:∃x0 x1:Value,ρ (.tmp 73)=x0/\nM res w3 B0 x0 x1:=hr.1;exact ZcY
   intro W5 hL;simp only[Uab];rintro a0 - a1 - a2 - a3 - a4 - a5 - a6 - a7 - a8 - a9 - FI - L9 - a12 - a13 - a14 - a15 - _ rfl a16 ⟨aAf,aAg,rfl,agB⟩;simp only[bA,Act.put,Uac];have tz:=aa (Below.trans HB.ae (hL.mono HB.ae.size));have TA:=aa (WE.ae.later hL);have Ap:=aa (HP.ae.later hL);have Rc:=aa (Km.ae.later hL);have uX:=aa (HG.ae.later hL);have HWB:=aa agB;have HWL:=aa hL.size;have HWS:=aa HB.ae.size;clear HB WE HP Km HG hL agB Bq oF oM HTE;go_wp2_with fail;refine(vT gb FK (ny res) _ Ap.ae).mono ?_;rintro e w5 ⟨rfl,IC,Jj⟩;have Re:=aa IC;have uY:=aa (dS tz.ae Jj P0.ae);have Al:=aa (TA.ae.grown Jj (TA.ae.other Ap.ae V0));have MS:=aa (Rc.ae.grown Jj (Rc.ae.other Ap.ae V0));have VY:=aa (uX.ae.grown Jj Ap.ae V0 V0 V0 V0);have AO:=aa (show∀l,res=.ok l->aH aU 44 3 w5 B0 a16 l from λ l hl=>by
    have h1:=HWB.ae
    rw[hl] at h1
    exact h1.2.grown Jj (h1.2.other Ap.ae V0))
   clear IC Jj tz TA Ap Rc uX HWB
   cases res with
   | error er=>
     have hne:=GC jR.ae;have t1:(ny (.error er)==0)=false:=by show(er==0)=false;simp[hne]
     have HS1:=aa P3.ae.1;have TC:=aa P3.ae.2;clear hne AO;go_wp2_with fail;go_roundw
     case rel=>
      refine⟨k+1,xs,hlt,by go_num,uY.ae,Al.ae,?_,MS.ae,VY.ae,?_⟩
      ·rw[TC.ae];exact Re.ae
      ·rw[HS1.ae];simpa using wK.ae
     case measure=>exact ZaU
   | ok l=>have HS1:=aa (show fH cols (aF++aD.flatMap Tr.args) (zs.take (k+1))=ls++ [l] from P3.ae.1);have TC:=aa (show ee cols (aF++aD.flatMap Tr.args) (zs.take (k+1))=jw FK 0 from P3.ae.2);have AW:=aa (Di jR.ae);have J4:=aa (Dk QQ.ae.2 mr.ae jR.ae);open zhA in exact Zgc
  ·have gw:k=zs.length:=by omega
   subst gw;have HTT:=aa (show zs.take zs.length=zs from take_length);rw[HTT.ae] at HP wK;go_wp2_with fail;exact Ed.ae _ _ (HH.ae _ u10 xs _ rfl rfl rfl HB.ae HP.ae Km.ae HG.ae wK.ae)):p:=h
theorem O8 (w0:rQ)(gp gb gn:Nat)(aF aD:uF)(cols:List aV)(yg ya ye:u_)(GA:z_)(gc:Nat)(CA:z_)(cc:Nat)(AA:z_)(ac:Nat)(zs:List aX)(RA:z_)(rrc:Nat)(av lv:Value)(xs0:List ia)(T:x_)(hT:T.size=164)
  (h0:T.getD 0 undef=aw gp) (h1:T.getD 1 undef=.slice RA zs.length rrc) (h6:T.getD 6 undef=av) (h9:T.getD 9 undef=aw gb) (h10:T.getD 10 undef=lv) (d:List Deferred) (w:rQ) (Q:yD)
  (AK:Dl w0 gp aF aD cols yg ya GA gc CA cc AA ac) (SZ:yg.length=gn) (qK:Tr.aM w0 (Old w0) (aD.flatMap Tr.args) ye) (hfn:ya.map Ex.n=aD.map λ t=>t.args.length) (hz:ya.map Ex.op=aD.map Tr.op) (hS:∀t∈aD,isAgg t.op=true) (hw:∀t∈aD,t.args.length<=2) (AL:Tr.cH (aF++aD.flatMap Tr.args))
  (Ai:yg.length<=1000) (G3:ya.length<=100000) (Wy:ye.length<=100000) (NT:cols.length<=140737488355328)
  (Gu:RR w0 w0.heap.size RA zs) (Rb:zs.length<=300) (lX:∀r∈zs,r.l.length<=140737488355328/\∀v∈r.l,v.Ok)
  (hqk:aj w0 w) (fK:aH bD 46 7 w w0.heap.size av ye) (hP:aB w gb 84 #[af 0]) (apM:w0.heap.size<=gb) (aZ:aH dn 135 1 w w0.heap.size lv (xs0.map ia.g)) (fI:kG w w0.heap.size xs0) (hI0:ow gn aD xs0 [] [])
  (h:∀(T':x_) lv' xs W,T'.size=164->T'.getD 9 undef=aw gb->T'.getD 10 undef=lv'->aj w0 W->aB W gb 84 #[af (ee cols (aF++aD.flatMap Tr.args) zs)]->aH dn 135 1 W w0.heap.size lv' (xs.map ia.g)->kG W w0.heap.size xs->ow gn aD xs (fH cols (aF++aD.flatMap Tr.args) zs) (fH cols (aF++aD.flatMap Tr.args) zs)->(eZ iA 7).wp Tryz.prog Q { tmps:=T',defers:=d } W):
  (eZ iA 6).wp Tryz.prog Q { tmps:=T,defers:=d } w:=by
 obtain⟨O6,O7,aww,_⟩:=rL fK;subst aww;obtain⟨f,rfl⟩:=Jy T hT;have h0:f 0=_:=h0;have h1:f 1=_:=h1;have h6:f 6=_:=h6;have h9:f 9=_:=h9;have h10:f 10=_:=h10;simp only[frg,h0,h1,h6,h9,h10];clear h0 h1 h6 h9 h10;clear h0 h1 h6 h9 h10 hT;have hh:=λ(T':x_) lv' xs W a0 a1 a2 a3 a4 a5 a6 a7=>h T' lv' xs W a0 a1 a2 a3 a4 a5 a6 a7
 simp only[iA,eZ,Tryz.f33,Option.getD_some] at hh;have HH:=aa hh;clear hh;open zcy in exact Za7
def agF (v:Val):R.Val:=⟨v.k,v.n,v.s⟩
mutual
def Q7:Tr->R.Tr
 | .mk op v name width args=> .mk op (agF v) name width (rM args)
def rM:uF->List R.Tr
 | []=> []
 | t::ts=>Q7 t::rM ts
end
def MX (y:Ex):R.Ex:=⟨y.op,agF y.v,y.name,y.width,y.A,y.n,y.c⟩
theorem wO:∀ts:uF,(rM ts).length=ts.length
 | []=>by simp[rM]
 | t::ts=>by simp[rM,wO ts]
variable{S:Nat->Prop}
theorem aqh(h:YO w S A ys):R.RL R.bD 7 w S A (ys.map MX):=by
 rcases h with rfl |⟨b,off,Kx,h2,h3⟩
 ·exact .inl rfl
 ·refine .inr ⟨b,off,Kx,h2,λ i x j u h1 hu=>?_⟩;rw[getElem?_map] at h1
  cases hy:ys[i]? with
  | none=>rw[hy] at h1;cases h1
  | some y=>
    rw[hy] at h1;injection h1 with h1;subst h1;obtain⟨k0,k1,k2,k3,k4,k5,k6⟩:=h3 i y hy
    match j,hu with
    | 0,hu=>injection hu with hu;subst hu;exact k0
    | 1,hu=>injection hu with hu;subst hu;exact k1
    | 2,hu=>injection hu with hu;subst hu;exact k2
    | 3,hu=>injection hu with hu;subst hu;exact k3
    | 4,hu=>injection hu with hu;subst hu;exact k4
    | 5,hu=>injection hu with hu;subst hu;exact k5
    | 6,hu=>injection hu with hu;subst hu;exact k6
    | n+7,hu=>simp[R.bD] at hu
mutual
theorem TK {w:rQ} {S:Nat->Prop}:∀(t:Tr) (y:Ex),t.at_ w S y->(Q7 t).at_ w S (MX y)
 | .mk op v name width args,y,h=>by unfold Tr.at_ at h;obtain⟨h1,h2,h3,h4,h5,ys,h6,h7⟩:=h;unfold Q7 R.Tr.at_;exact⟨h1,by rw[<- h2];rfl,h3,h4,by rw[wO];exact h5,ys.map MX,aqh h6,GD args ys h7⟩
theorem GD {w:rQ} {S:Nat->Prop}:∀(ts:uF) (ys:u_),Tr.aM w S ts ys->R.Tr.aM w S (rM ts) (ys.map MX)
 | [],ys,h=>by unfold Tr.aM at h;subst h;unfold rM R.Tr.aM;rfl
 | t::ts,ys,h=>by unfold Tr.aM at h;obtain⟨y,ys',rfl,h1,h2⟩:=h;unfold rM R.Tr.aM;exact⟨MX y,ys'.map MX,rfl,TK t y h1,GD ts ys' h2⟩
end
mutual
theorem TL:∀t:R.Tr,Q7 (pX t)=t
 | .mk op v name width args=>by unfold pX Q7;rw[MZ args];rfl
theorem MZ:∀ts:List R.Tr,rM (ij ts)=ts
 | []=>by unfold ij rM;rfl
 | t::ts=>by unfold ij rM;rw[TL t,MZ ts]
end
theorem GF:∀ts:List R.Tr,ij ts=ts.map pX
 | []=>by unfold ij;rfl
 | t::ts=>by unfold ij;rw[GF ts];rfl
theorem WI (d:R.Qu):(fG d).all=({ kind:=8,query:=d }:R.St).exprs.map pX:=by unfold Qy.all fG R.St.exprs R.Qu.exprs;simp only[GF,map_map,map_append,append_assoc,flatten_nil,map_nil,nil_append];rfl
end Go.Proofs.YtndgjggokjickaaGreatDoor
namespace Go.Proofs.YtndgjggokjickaaGreatDoor.R
set_option maxHeartbeats 90000000
set_option maxRecDepth 100000
open Go.ChangeShapes Go.WideShapes Go.ChangeAt Go.RowKit List
set_option linter.unusedVariables false
set_option linter.unusedSimpArgs false
def Yl:Obj:=.cells #[ag 0,au,ay,au,af 0,au,af 0,ay,au,.bool false,ay,ay,ay,ay,ay,ag 0,au,af 0,af 0,ay,ay,ay,ag 0,af 0,au,ag 0,af 0,au] 64
variable{P:Program}{ops:Array Oper}{rest:List Oper}{o:Oper}{a:Act}{w:rQ}{Q:yD}{cs:x_}
theorem Aq(hg:o.guard=none)(t:TypeId)(parts:Array (Nat×Operand))(ho:o.op=.build t parts) 
  (hv:P.built t (parts.map λ(i,x)=>(i,a.eval x)).toList=some cs) (h:wpList P ops Q rest (a.put o.dst (.agg cs)) w):wpList P ops Q (o::rest) a w:=
 wpList_build hg t parts ho (by rw[hv];rfl) (by rw[hv];exact h)
theorem Q8 (qy:yj):Tryz.prog.built 64 [(0,ag 8),(7,quV qy)]=some (sL { kind:=8,query:=qy }).toArray:=by exact ZgH
def uL (l:dH)(d:Qu)(r:dH):Prop:=∀(ρ:dy) (w:rQ),ρ.at w (.good l) false->ar 134 #[ρ.ptr] w λ e w'=>∃y:yj,e=.returned (quV y)/\d.at_ w' (ju w.heap.size w') y/\eN ρ w w' (.good r) false
def tF (d:Qu):St:= { kind:=8,query:=d }
variable{t:Wd}{l r:dH}{d:Qu}
theorem Q9(hse:jg fF t=true)(H:uL (t::l) d r)(ρ:dy)(w:rQ)(h:ρ.at w (.good (t::l)) false):
  ar 86 #[ρ.ptr] w λ e w'=>∃y:yj,e=.returned (stV { kind:=8,query:=y })/\d.at_ w' (ju w.heap.size w') y/\eN ρ w w' (.good r) false:=by
 have ej:=h.FQ;obtain⟨tk,pl,bd,hpl,hlt,hsm,uo,cj,hg,Kf,uT,hp⟩:=h.wA;obtain⟨r',nd⟩:=hg (t::l) rfl;injection nd with lT htr;have hb:=ai.then (ah w Yl) (ah _ Yl);have h0:=h.later hb;have XQ:=(aB.new w 64 st0).alloc Yl;have HQ:=aa XQ;have HH:=aa h;have HR:=aa H;have awC:=aa (show(ck.good (t::l)).head (⟨#[115,101,108,101,99,116]⟩:t_).data.toList=true from hse);clear XQ h hg cj uo hse hpl H;rw[show Obj.cells st0 64=Yl from rfl] at HQ;unfold Yl at*;clear htr;go_enter Tryz.func86,Tryz.ntmps86;go_wp2_with fail;refine(lK ρ _ _ false h0 ⟨#[115,101,108,101,99,116]⟩).mono ?_;rintro e w1 ⟨rfl,b1⟩;rw[awC.ae];have hb1:=ai.then hb b1
 have Vy:=aa (HQ.ae.later b1);clear HQ h0 b1 hb lT hp;go_wp2_with fail;refine(HR.ae ρ _ (HH.ae.later hb1)).mono ?_;rintro e w3 ⟨qy,rfl,hqd,d3⟩;have HQ:=aa (d3.blk Vy.ae TD);have HD:=aa ((eN.dh HH.ae hb1).trans d3);have HS:=aa hqd;have hs9:w.heap.size+1<=w1.heap.size:=Vy.ae.lt;clear d3 hqd Vy HH;go_wp2_with (first
  |(refine Aq rfl 64 _ rfl (cs:=(sL { kind:=8,query:=qy }).toArray) ?hv ?_;rotate_left)
  |(refine wpList_store_row rfl 64 (.tmp 2) (.tmp 8) rfl w.heap.size (sL { kind:=8,query:=qy }).toArray rfl rfl 64 st0 HQ.ae TaF rfl (Qk _) ?_
    have HR:=aa (HQ.ae.row (sL { kind:=8,query:=qy }).toArray)
    have HF:=aa (HD.ae.row ej (Nat.le_refl _) (sL { kind:=8,query:=qy }).toArray)
    have TC:=aa (Qu.at_.keep (jm (show w.heap.size<=w.heap.size+1 by omega)) (Qu.at_.keep (Tu w3 (show w.heap.size < w.heap.size+1 by omega) (sL { kind:=8,query:=qy }).toArray) (Qu.at_.keep (jm hs9) HS.ae)))))
 case hv=>exact Q8 qy
 exact bodyPost_ret (v:=stV { kind:=8,query:=qy }) (results_cell_row Tryz.results86 _ _ w.heap.size 64 (sL { kind:=8,query:=qy }).toArray (0,0) _ rfl HR.ae Tryz.underlying64 rfl TaF) rfl ⟨qy,rfl,TC.ae,HF.ae⟩
def Na (d:Qu)(w:rQ)(e:Ending)(w':rQ):Prop:=∃y:yj,e=.returned (.tuple #[stV { kind:=8,query:=y },af 0,af 0])/\d.at_ w' (ju w.heap.size w') y/\aj w w'
variable{t0:Wd}{r0:dH}
theorem adK(s:t_)(w:rQ)(hs:s.size<=4294967280) {l:List qX}(hl:zY s.data.toList=.ok l)   (hw:l.map (·.w)=t0::r0)(hse:jg fF t0=true)(H:uL (t0::r0) d (t::r))(G3:t.k=0)(Ai:(tF d).exprs.length<=1000)(AL:∀x∈(tF d).exprs,x.thin/\x.depth<=32):ar 52 #[.string s] w (Na d w):=by
 obtain⟨_,hlen,hS⟩:=Tp hl;have hne:l≠ []:=by intro h;rw[h] at hw;cases hw
 have HSE:=aa (λ ρ w h=>Q9 hse H ρ w h);have HEN:=aa (VP hl);have HS:=aa hS;have HO:=aa hw;have mr:=aa AL;have A1:=aa Ai;have A2:=aa G3;clear hS hw AL Ai hse H G3;have XQ:=aB.new w 64 st0;rw[show Obj.cells st0 64=Yl from rfl] at XQ;have HQ:=aa XQ;clear XQ;unfold Yl at*;go_enter Tryz.func52,Tryz.ntmps52;go_wp2_with fail;refine(acR hl hs).mono ?_;rintro e w1 ⟨A,c,rfl,ht,b1⟩;obtain⟨gl,rfl,hgb,Kx,hc⟩:=ht.cells hne;have Vy:=aa (HQ.ae.later b1);have HB:=aa (ai.then (ah w _) b1);have hR:=dy.start (c:=c) Kx hc HEN.ae hlen HS.ae;rw[HO.ae] at hR;have HR:=aa hR;have Ke:w.heap.size < w1.heap.size:=Vy.ae.lt;clear ht hc b1 HQ hR hgb hne;go_wp2_with fail;refine(HSE.ae ⟨w1.heap.size,gl,c,l⟩ _ HR.ae).mono ?_;rintro e w2 ⟨qy,rfl,hat,dd⟩;obtain⟨y,hy⟩:∃y:G8,y= { kind:=8,query:=qy }:=⟨_,rfl⟩;rw[<- hy];have HY:=aa hy;clear hy;rw[show(w1.alloc _).heap.size=w1.heap.size+1 by simp] at hat;have bJ:w1.heap.size <(w1.alloc (.cells #[aL gl l.length c,af 0,af (-1),.bool false] 169)).heap.size:=by simp
 have lx:=dd.blk (Vy.ae.alloc _) Tbi;have hs2:w1.heap.size+1<=w2.heap.size:=by have:=dd.size;simpa using this
 have HD3:=aa ((dd.later (ah w2 Yl)).row bJ (by rw[show(w1.alloc _).heap.size=w1.heap.size+1 by simp];exact hs2) (sL y).toArray);have HY3:=aa ((aB.new w2 64 st0).row (sL y).toArray);have nc:=aa ((lx.alloc Yl).acZ (q:=w2.heap.size) TD (sL y).toArray);have aqi:=aa (Qu.at_.keep (Mr w2 Yl (sL y).toArray) hat);have fY:=aa (show aj w (w1.alloc (.cells #[aL gl l.length c,af 0,af (-1),.bool false] 169))from ai.then HB.ae (ah w1 _));clear dd hat lx Vy HR HB;rw[show(Obj.cells st0 64)=Yl from rfl] at HY3;unfold Yl at*;go_wp2_with (first
  |(refine wpList_store_row rfl 64 (.tmp 9) (.tmp 27) rfl w2.heap.size (sL y).toArray rfl rfl 64 st0 (aB.new w2 64 st0) TaF rfl (Qk _) ?_))
 generalize ((w2.alloc _).setRow _ _)=W3 at*;refine(cw ⟨w1.heap.size,gl,c,l⟩ _ _ _ HD3.ae.at_ ⟨#[59]⟩ (by show((t.k==1 || t.k==4)&& t.s==ahX)=false;rw[A2.ae];rfl)).mono ?_;rintro e w4 ⟨rfl,d4⟩;have HD:=aa (HD3.ae.trans d4);have I3:=aa (d4.blk nc.ae Tbi);have HY4:=aa (d4.blk HY3.ae (by show w2.heap.size≠w1.heap.size;omega));have ajB:=aa (Qu.at_.keep (lJ d4.grown (show w1.heap.size < w1.heap.size+1 by omega)) aqi.ae);clear d4 HD3 nc HY3 aqi;have QV:=aa (fY.ae.trans (dS HD.ae.grown fY.ae.size (by show w.heap.size<=w1.heap.size;omega)));obtain⟨tk,pl,bd,hpl,aqj,anx,uo,cj,hg,Kf,uT,hp⟩:=HD.ae.at_.wA;obtain⟨r',nd⟩:=hg _ rfl;injection nd with lT _;have G3:=A2.ae;rw[lT] at G3;obtain rfl:bd= -1:=uo;obtain⟨c0,c1,c2,k0,k1,k2,k3⟩:=hp;simp only at c0 c1 c2 k0 k1 k2 k3;have aqj:pl < l.length:=aqj;have aDA:(pl:Int)< l.length:=by omega
 clear hg cj hpl lT;rw[G3] at k0;have c3:=HD.ae.at_.facts.2.2.2.1;simp only at c3;clear HD hl G3;go_wp2_with (first
  |(refine wpList_load_row rfl 64 (.tmp 9) rfl w2.heap.size rfl 64 (sL y).toArray (0,0) _ HY4.ae Tryz.underlying64 rfl TaF ?_))
 clear c0 c1 c2 c3 k0 k1 k2 k3;have hq9:d.at_ w4 (Old w4) qy:=Qu.at_.keep (λ b hb=>⟨λ _=>rfl,hb.2⟩) ajB.ae;have hqa:=Ty hq9;have hst:(sL y).toArray=adf 8 (fG d) (Ql qy):=by rw[HY.ae];unfold adf fG Ql;rw[<- hq9.bT,<- hq9.only];rfl
 have key:=uz (k:=8) (fG d) (Ql qy) w4 hqa.1 (by
  have h:=A1.ae
  simp only[tF,St.exprs,Qu.exprs,length_append,length_map,flatten_nil,length_nil,map_nil] at h
  simp only[fG,lG,length_map]
  omega)
 rw[<- hst] at key;have HE:=aa (show(fG d).all=(tF d).exprs.map pX from WI d);clear hqa hst hq9;refine key.mono ?_;rintro e w5 ⟨v,ys,rfl,hown,hall,b5⟩;obtain⟨sA,sc,rfl,Gx⟩:=rL hown;have HQ5:=aa (I3.ae.later b5);have HY5:=aa (HY4.ae.later b5);have awD:=aa (Qu.at_.keep (ja b5) ajB.ae);have uY:=aa (ai.then QV.ae b5);have QQ:=aa Gx;have Cf:=aa (hall.later b5);obtain⟨sn,Qj⟩:∃sn,sn=ys.length:=⟨_,rfl⟩;have HNL:=aa (show sn=(tF d).exprs.length by rw[Qj,Go.Proofs.YtndgjggokjickaaGreatDoor.Tr.aM.length hall,HE.ae,length_map]);have EB:sn<=1000:=by rw[HNL.ae];exact A1.ae
 rw[<- Qj];clear b5 Gx hall hown Qj key I3 HY4 ajB QV;go_wp2_with fail;go_loopw [11] (λ u wr=>∃i:Nat,i<=sn/\u=af i/\aj w5 wr) (λ u _=>sn - (intOf u).toNat);case atStart=>exact⟨0,Nat.zero_le _,rfl,Below.refl _ _⟩
 case round=>
  obtain⟨i,hi,rfl,hB⟩:=hrel;have iz:=aa hB;have HQr:=aa (HQ5.ae.later hB);have HYr:=aa (HY5.ae.later hB);by_cases hlt:i < sn
  ·obtain⟨x,hx⟩:∃x,(tF d).exprs[i]?=some x:=⟨_,getElem?_eq_getElem (by have:=HNL.ae;omega)⟩;obtain⟨yx,hyx,aqk⟩:=Cf.ae.get (t:=pX x) (i:=i) (by rw[HE.ae,getElem?_map,hx];rfl);have aql:x.at_ w5 (Old w5) (MX yx):=by have h:=TK _ _ aqk;rwa [TL] at h
   have adL:=mr.ae x (mem_of_getElem? hx);have mr:=aa (Tr.anU (w:=w5) (S:=Old w5) (λ b hb=>hb) x (MX yx) aql adL.1 (by have:=adL.2;omega) wr hB);rcases QQ.ae with h0 |⟨b,off,hAe,hSb,hcell⟩
   ·subst h0;simp at hyx
   obtain⟨q0,q1,q2,q3,q4,q5,q6⟩:=(hcell i yx hyx).keep (λ o=>hB.cell (p:=⟨b,o,none⟩) hSb);have hdi:¬((x.depth:Int)> 32):=by have:=adL.2;omega
   clear hcell hx hyx aqk aql adL;subst hAe;go_wp2_with fail;clear q0 q1 q2 q3 q4 q5 q6;refine mr.ae.mono ?_;rintro e w6 ⟨rfl,b6⟩;go_wp2_with fail;go_roundw;case rel=>exact⟨i+1,by omega,by go_num,iz.ae.trans (b6.mono iz.ae.size)⟩
   case measure=>exact ZaU
  ·obtain rfl:i=sn:=by omega
   have awF:=aa (Qu.at_.keep (ja hB) awD.ae);have HBr:=aa (ai.then uY.ae hB);clear hB;go_wp2_with (first
    |(refine wpList_load_row rfl 64 (.tmp 9) rfl w2.heap.size rfl 64 (sL y).toArray (0,0) _ HYr.ae Tryz.underlying64 rfl TaF ?_)
    |(refine wpList_store_row rfl 64 (.tmp 2) (.tmp 82) rfl w.heap.size (sL y).toArray rfl rfl 64 st0 HQr.ae TaF rfl (Qk _) ?_
      have HR9:=aa (HQr.ae.row (sL y).toArray)
      have HS9:=aa (show Qu.at_ (wr.setRow w.heap.size (sL y).toArray) (ju w.heap.size (wr.setRow w.heap.size (sL y).toArray)) d qy from Qu.at_.keep (jm (show w.heap.size<=w1.heap.size+1 by omega)) (Qu.at_.keep (Tu wr (show w.heap.size < w1.heap.size+1 by omega) (sL y).toArray) awF.ae))
      have Rh:=aa (HBr.ae.trans (dS (Gg wr w.heap.size (sL y).toArray) HBr.ae.size (Nat.le_refl _)))))
   exact bodyPost_ret (v:=.tuple #[stV y,af 0,af 0]) (Je Tryz.results52 _ _ w.heap.size 64 (sL y).toArray (0,0) _ (af 0) (af 0) rfl HR9.ae Tryz.underlying64 rfl (by rw[show Array.size (sL y).toArray=28 from rfl];exact pz) rfl rfl) rfl ⟨qy,by rw[HY.ae],HS9.ae,Rh.ae⟩
def nB (t:Wd):Bool:=t.k==1 && !td t.s && !jg Pz t && !jg AG t && !jg ZV t && !jg eL t && !jg ZU t && !jg sB t
def uB (u:Wd):Bool:=kU 0 u==0 && kU 1 u==0 && kU 4 u==0 && kU 5 u==0 && !jg acx u
theorem zC(h:nB t=true):LS t/\t.k=1/\td t.s=false/\∀l,xZ (t::l):=by simp only[nB,Bool.and_eq_true,beq_iff_eq,Bool.not_eq_true'] at h;obtain⟨⟨⟨⟨⟨⟨⟨k,a⟩,b⟩,c⟩,d⟩,e⟩,f⟩,g⟩:=h;exact⟨⟨⟨by omega,by omega⟩,b,c,d,e⟩,k,a,λ l=>⟨f,g⟩⟩
variable{u:Wd}
theorem Dp(h:uB u=true):FW u:=by simp only[uB,Bool.and_eq_true,beq_iff_eq,Bool.not_eq_true'] at h;exact⟨h.1.1.1.1,h.1.1.1.2,h.1.1.2,h.1.2,h.2⟩
theorem GG(r:dH)(h:nB t=true)(ho:jg eL u=false)(hu:uB u=true)(h3:kU 3 u=0):cZ 0 (t::u::r) (ui ⟨t.s.toArray⟩) (u::r):=
 Mb (LU (zC h).1 (zC h).2.1 (zC h).2.2.1 ho) ((zC h).2.2.2 _) (Dp hu) h3
abbrev nW (s:w_):Wd:=⟨1,s,0⟩
abbrev gW (s:w_):Wd:=⟨4,s,0⟩
abbrev iW (n:Int):Wd:=⟨2,[],n⟩
abbrev eW:Wd:=⟨0,[],0⟩
abbrev tW:Wd:=nW [116,105,109,101]
abbrev vW:Wd:=nW [118]
def kT:Tr:=ui ⟨#[116,105,109,101]⟩
def kV:Tr:=ui ⟨#[118]⟩
def rN:Tr:=.mk 20 jQ ByteArray.empty 5 [kT]
abbrev R5 (r:dH):dH:=nW BW::gW eL::iW 5::gW dN::tW::gW eF::r
theorem R6(r:dH)(hu:uB u=true)(h3:kU 3 u=0):cZ 0 (R5 (u::r)) rN (u::r):=
 Mb (Ma 20 rfl (zC rfl).1 rfl rfl rfl rfl rfl rfl (GG _ rfl rfl rfl rfl) rfl) ⟨rfl,rfl⟩ (Dp hu) h3
def Ym:Qu:= { items:=[(rN,ByteArray.empty),(AE 23 [kV],ByteArray.empty)],bT:=⟨#[116]⟩,group:=[rN] }
def Yn:Qu:= { items:=[(kV,ByteArray.empty)],bT:=⟨#[116]⟩,bF:=[AE 14 [kT,tq ⟨2,1,ByteArray.empty⟩]],order:=[(kV,true)],dA:=[1] }
def R7:Qu:= { items:=[(kV,ByteArray.empty)],bT:=⟨#[116]⟩,group:=[kT] }
def Yo:Qu:= { items:=[(AE 21 [],ByteArray.empty)],bT:=⟨#[116]⟩,bF:=[tq ⟨1,0,ByteArray.empty⟩] }
def wd0:dH:=R5 (gW dN::nW ZX::gW eL::vW::gW eF::nW xO::nW [116]::nW AH::nW PA::R5 [eW])
def wd1:dH:=[vW,nW xO,nW [116],nW IE,tW,gW ahY,iW 1,nW IG,nW PA,vW,nW PB,nW IH,iW 1,eW]
def wd2:dH:=[vW,nW xO,nW [116],nW AH,nW PA,tW,eW]
def wd3:dH:=[nW II,gW eL,gW xP,gW eF,nW xO,nW [116],nW IE,nW AG,eW]
theorem awH:uL (nW fF::wd0) Ym [eW]:=
 AP rfl rfl (.cons (R6 _ rfl rfl) rfl rfl (.one (Mb (F5 23 ⟨rfl,rfl,rfl,rfl⟩ (zC rfl).1 rfl rfl rfl rfl (GG _ rfl rfl rfl rfl) rfl) ⟨rfl,rfl⟩ (Dp rfl) rfl) rfl rfl)) V0 rfl rfl rfl rfl (.none rfl) (.some rfl rfl rfl (R6 _ rfl rfl)) rfl (.none rfl) (.none rfl)
theorem awI:uL (nW fF::wd1) Yn [eW]:=
 AP rfl rfl (.one (GG _ rfl rfl rfl rfl) rfl rfl) V0 rfl rfl rfl rfl (.some rfl (anR 14 V0 V0 (Dp rfl) rfl (LU (zC rfl).1 rfl rfl rfl) ⟨rfl,rfl⟩ (F3 rfl) ⟨rfl,rfl⟩ (Dp rfl))) (.none rfl) rfl (.some rfl rfl rfl rfl (GG _ rfl rfl rfl rfl)) (.some rfl rfl)
theorem awJ:uL (nW fF::wd2) R7 [eW]:=
 AP rfl rfl (.one (GG _ rfl rfl rfl rfl) rfl rfl) V0 rfl rfl rfl rfl (.none rfl) (.some rfl rfl rfl (GG _ rfl rfl rfl rfl)) rfl (.none rfl) (.none rfl)
theorem awK:uL (nW fF::wd3) Yo [eW]:=
 AP rfl rfl (.one (Mb (VL 22 rfl (zC rfl).1 rfl rfl rfl rfl rfl rfl) ⟨rfl,rfl⟩ (Dp rfl) rfl) rfl rfl) V0 rfl rfl rfl rfl (.some rfl (Mb (PZ ⟨by decide,by decide⟩ rfl rfl) ⟨rfl,rfl⟩ (Dp rfl) rfl)) (.none rfl) rfl (.none rfl) (.none rfl)
variable{s:t_}{W:dH}
theorem AX(hl:(match zY s.data.toList with | .ok l=>l.map (·.w)| .error _=> [])=nW fF::W)(hs:s.size<=1000)(H:uL (nW fF::W) d [eW])(hnx:(tF d).exprs.length<=1000)(hdx:∀x∈(tF d).exprs,x.thin/\x.depth<=32)(w:rQ):ar 52 #[.string s] w (Na d w):=by
 cases e:zY s.data.toList with
 | error x=>rw[e] at hl;cases hl
 | ok l=>rw[e] at hl;exact adK s w TD e hl rfl H rfl hnx hdx
theorem aqm:∀x∈(tF Ym).exprs,x.thin/\x.depth<=32:=by simp[tF,Ym,St.exprs,Qu.exprs,rN,kT,kV,AE,tq,ui,Tr.thin,Tr.zu,Tr.depth,Tr.iP]
theorem aqn:∀x∈(tF Yn).exprs,x.thin/\x.depth<=32:=by simp[tF,Yn,St.exprs,Qu.exprs,rN,kT,kV,AE,tq,ui,Tr.thin,Tr.zu,Tr.depth,Tr.iP]
theorem aqo:∀x∈(tF R7).exprs,x.thin/\x.depth<=32:=by simp[tF,R7,St.exprs,Qu.exprs,rN,kT,kV,AE,tq,ui,Tr.thin,Tr.zu,Tr.depth,Tr.iP]
theorem aqp:∀x∈(tF Yo).exprs,x.thin/\x.depth<=32:=by simp[tF,Yo,St.exprs,Qu.exprs,rN,kT,kV,AE,tq,ui,Tr.thin,Tr.zu,Tr.depth,Tr.iP]
end Go.Proofs.YtndgjggokjickaaGreatDoor.R
namespace Go.Proofs.YtndgjggokjickaaGreatDoor
variable{p:Prop}
set_option maxHeartbeats 90000000
set_option maxRecDepth 100000
open Go.ChangeShapes Go.WideShapes Go.ChangeAt Go.RowKit List
set_option linter.unusedVariables false
set_option linter.unusedSimpArgs false
variable{w w':rQ}
theorem wP{p:Nat} (h:aj w w'):w.grownBy w' (some p):=⟨h.os,h.tape,h.output,h.size,λ k hk _=>h.block k hk⟩
variable{g:Nat}
theorem eD(h:w.grownBy w' (some g))(i:Nat)(v:Value):w.grownBy (w'.setCell ⟨g,i,none⟩ v) (some g):=
 ⟨h.os,h.tape,h.output,by simpa [World.setCell] using h.size,λ k hk hne=>(Below.heap_setCell w' ⟨g,i,none⟩ v k (λ e=>hne Tbd)).trans (h.block k hk hne)⟩
theorem Dq (m:R.G8):(R.sL m).toArray.size=28:=by simp[R.sL,R.Mc,R.G9]
theorem adM (m:R.G8):(R.sL m).toArray.all (·.oneCell')=true:=by simp[R.sL,R.Mc,R.nQ,R.G9,Value.oneCell']
theorem R8:(Tryz.prog.info? 64).map (·.size)=some 28:=by exact ZgH
def ajC:x_:=(R.sL {}).toArray
theorem R9 (m:R.yj):(R.Mc m).toArray.size=8:=by simp[R.Mc]
theorem S0:(Tryz.prog.info? 27).map (·.size)=some 8:=by exact ZgH
def adN:x_:=(R.Mc {}).toArray
def JD:t_:=⟨#[115,101,108,101,99,116,32]⟩
def S1 (d:R.Qu)(w:rQ)(e:Ending)(w':rQ):Prop:=∃y:R.yj,e=.returned (R.quV y)/\d.at_ w' (Old w') y/\aj w w'
theorem S2 (s:t_)(d:R.Qu)(hs:(JD++s).size<=1000)(hp:∀w,ar 52 #[.string (JD++s)] w (R.Na d w))(w:rQ):ar 25 #[.string s] w (S1 d w):=by
 have HP:=aa hp;have HX:=aB.new w 27 adN;have hB:=ah w (.cells adN 27);clear hp;go_enter Tryz.func25,Tryz.ntmps25;go_upto_region 1 with fail;change Code.wp _ _ _ _ (w.alloc (.cells adN 27));generalize w.alloc _=W1 at*;obtain⟨g,hg⟩:∃g,g=w.heap.size:=⟨_,rfl⟩;rw[<- hg] at HX ⊢;have hz:w.heap.size<=g:=by omega
 have hgW:=HX.lt;clear hg;have hz1:¬9223372036854775807 < 7+s.size:=by have h:=hs;rw[ByteArray.size_append] at h;have:JD.size=7:=rfl;omega
 go_wp2_with fail;refine(HP.ae W1).mono ?_;rintro e zq ⟨qy,rfl,hat,b1⟩;obtain⟨y,hy⟩:∃y:R.G8,y= { kind:=8,query:=qy }:=⟨_,rfl⟩;rw[<- hy];replace hat:d.at_ zq (R.ju W1.heap.size zq) y.query:=by rw[hy];exact hat
 clear hy;have c4:=aa hat;replace HX:=HX.later b1;replace hB:=ai.then hB b1
 clear hat HP;obtain⟨cs,hcs⟩:∃cs,cs=(R.sL y).toArray:=⟨_,rfl⟩;have F7:=aa (show(Tryz.prog.info? 64).map (·.size)=some cs.size by rw[hcs,Dq];exact R8);have LZ:=aa (show ajC.size=cs.size by rw[hcs,Dq];exact Dq _);have xY:=aa (show cs.all (·.oneCell')=true by rw[hcs];exact adM _);have Oe:=aa hcs;unfold R.stV;rw[<- hcs];clear hcs b1 hz1;have HX0:=ah zq (.cells cs 64);have H3:=aB.new zq 64 cs;have hg:=HX.lt;go_upto_region 2 with (first
  |(refine wpList_store_row rfl 64 (.tmp 3) (.tmp 10) rfl zq.heap.size cs rfl rfl 64 ajC (aB.new zq 64 ajC) F7.ae LZ.ae xY.ae ?_
    rw[World.setRow_alloc_new]))
 change Code.wp _ _ _ _ (zq.alloc (.cells cs 64));have awL:=aa (R.Qu.at_.keep (R.ja HX0) c4.ae);replace HX:=HX.later HX0;replace hB:=ai.then hB HX0;have l3:w.heap.size<=zq.heap.size:=by omega
 clear HX0 F7 LZ xY c4;generalize zq.alloc _=VM at*;generalize zq.heap.size=qx at*;have c0:VM.cell? ⟨qx,7,none⟩=some (R.nQ y.query.items):=(H3.cell 7).trans Taw;have c1:VM.cell? ⟨qx,8,none⟩=some (.string y.query.bT):=(H3.cell 8).trans Taw;have c2:VM.cell? ⟨qx,9,none⟩=some (.bool y.query.only):=(H3.cell 9).trans Taw;have c3:VM.cell? ⟨qx,10,none⟩=some (R.nQ y.query.bF):=(H3.cell 10).trans Taw;have Kx:VM.cell? ⟨qx,11,none⟩=some (R.nQ y.query.group):=(H3.cell 11).trans Taw;have c5:VM.cell? ⟨qx,12,none⟩=some (R.nQ y.query.having):=(H3.cell 12).trans Taw;have c6:VM.cell? ⟨qx,13,none⟩=some (R.nQ y.query.order):=(H3.cell 13).trans Taw;have c7:VM.cell? ⟨qx,14,none⟩=some (R.nQ y.query.dA):=(H3.cell 14).trans Taw;unfold R.nQ at c0 c3 Kx c5 c6 c7;have Gp:=HX.frozen;have z:∀j u,adN[j]?=some u->VM.cell? ⟨g,j,none⟩=some u:=λ j u h=>(HX.cell j).trans h
 have k0:=z 0 _ rfl;have k1:=z 1 _ rfl;have k2:=z 2 _ rfl;have k3:=z 3 _ rfl;have k4:=z 4 _ rfl;have k5:=z 5 _ rfl;have k6:=z 6 _ rfl;have z7:=z 7 _ rfl;have HR0:=((((((((HX.aT 0 (.slice y.query.items.A y.query.items.n y.query.items.c)).aT 1 (.string y.query.bT)).aT 2 (.bool y.query.only)).aT 3 (.slice y.query.bF.A y.query.bF.n y.query.bF.c)).aT 4 (.slice y.query.group.A y.query.group.n y.query.group.c)).aT 5 (.slice y.query.having.A y.query.having.n y.query.having.c)).aT 6 (.slice y.query.order.A y.query.order.n y.query.order.c)).aT 7 (.slice y.query.dA.A y.query.dA.n y.query.dA.c));have ym:=aa (eD (eD (eD (eD (eD (eD (eD (eD (wP (p:=g) (Below.refl VM.heap.size VM)) 0 (.slice y.query.items.A y.query.items.n y.query.items.c)) 1 (.string y.query.bT)) 2 (.bool y.query.only)) 3 (.slice y.query.bF.A y.query.bF.n y.query.bF.c)) 4 (.slice y.query.group.A y.query.group.n y.query.group.c)) 5 (.slice y.query.having.A y.query.having.n y.query.having.c)) 6 (.slice y.query.order.A y.query.order.n y.query.order.c)) 7 (.slice y.query.dA.A y.query.dA.n y.query.dA.c));have QV:=aa ((((((((hB.setCell (p:=⟨g,0,none⟩) hz (.slice y.query.items.A y.query.items.n y.query.items.c)).setCell (p:=⟨g,1,none⟩) hz (.string y.query.bT)).setCell (p:=⟨g,2,none⟩) hz (.bool y.query.only)).setCell (p:=⟨g,3,none⟩) hz (.slice y.query.bF.A y.query.bF.n y.query.bF.c)).setCell (p:=⟨g,4,none⟩) hz (.slice y.query.group.A y.query.group.n y.query.group.c)).setCell (p:=⟨g,5,none⟩) hz (.slice y.query.having.A y.query.having.n y.query.having.c)).setCell (p:=⟨g,6,none⟩) hz (.slice y.query.order.A y.query.order.n y.query.order.c)).setCell (p:=⟨g,7,none⟩) hz (.slice y.query.dA.A y.query.dA.n y.query.dA.c))
 have HR:=aa (show aB _ g 27 (R.Mc y.query).toArray from HR0);clear z HX hB HR0 H3;go_wp2_with fail;have HQ:=R.Qu.at_.keep (λ b hb=>((R.lJ ym.ae hgW) b hb).imp id λ h=>h.2) awL.ae;exact bodyPost_ret (v:=R.quV y.query) (results_cell_row Tryz.results25 _ _ g 27 (R.Mc y.query).toArray (0,0) _ rfl HR.ae Tryz.underlying27 rfl (by rw[R9];exact S0)) rfl ⟨y.query,rfl,HQ,QV.ae⟩
theorem sU (s:t_)(d:R.Qu)(hs:(JD++s).size<=1000)(hp:∀w,ar 52 #[.string (JD++s)] w (R.Na d w))(w:rQ):ar 25 #[.string s] w λ e w'=>∃L,e=.returned (oC (fG d) L)/\oX w' (fG d) L/\aj w w':=by refine(S2 s d hs hp w).mono ?_;rintro e w1 ⟨y,rfl,hat,b⟩;obtain⟨h1,h2⟩:=Ty hat;exact⟨Ql y,by rw[h2],h1,b⟩
def dx:List Int->Int
 | []=>0
 | n::l=>n+dx l
variable{m:List Int}
theorem GH{l:List Int}(h:l.Perm m):dx l=dx m:=by
 induction h with
 | nil=>rfl
 | cons x _ ih=>simp only[dx,ih]
 | swap x y l=>simp only[dx];omega
 | trans _ _ h1 h2=>exact h1.trans h2
variable{α:Type}
theorem Nb(f g:α->Int):∀l:List α,dx (l.map λ x=>f x+g x)=dx (l.map f)+dx (l.map g)
 | []=>rfl
 | x::l=>by simp only[map_cons,dx,Nb f g l];omega
theorem yF(f:α->Int):∀l:List α,(∀x∈l,f x=0)->dx (l.map f)=0
 | [],_=>rfl
 | x::l,h=>by simp only[map_cons,dx,h x (mem_cons_self ..),yF f l λ y hy=>h y (mem_cons_of_mem _ hy)];rfl
theorem Nc (k:v_)(v:Int):∀ks:y_,ks.Pairwise (λ a b=>bR a b < 0)->k∈ks->dx (ks.map λ x=>if bR k x=0 then v else 0)=v
 | [],_,h=>by cases h
 | x::ks,hp,h=>by
   rw[pairwise_cons] at hp;rw[map_cons];unfold dx;by_cases e:bR k x=0
   ·rw[if_pos e];have ex:=fD _ _ e;rw[yF _ ks λ y hy=>by
     have h1:=hp.1 y hy
     rw[<- ex] at h1
     rw[if_neg TD]]
    omega
   ·rw[if_neg e];rcases List.mem_cons.1 h with rfl | h
    ·exact absurd (by have:=fC.jd k k;omega) e
    ·rw[Nc k v ks hp.2 h];omega
variable{β:Type}
theorem GI(wt:v_×β->Int)(ks:y_)(hk:ks.Pairwise (λ a b=>bR a b < 0)):∀ps:List (v_×β),(∀x∈ps,x.1∈ks)->dx (ks.map λ k=>dx ((ps.filter λ x=>bR x.1 k==0).map wt))=dx (ps.map wt)
 | [],_=>yF _ ks λ _ _=>rfl
 | x::ps,h=>by
   have e:(λ k=>dx (((x::ps).filter λ x=>bR x.1 k==0).map wt))=λ k=>(if bR x.1 k=0 then wt x else 0)+dx ((ps.filter λ x=>bR x.1 k==0).map wt):=by
    funext k;by_cases h0:bR x.1 k=0
    ·rw[filter_cons_of_pos (by simp[h0]),if_pos h0];rfl
    ·rw[filter_cons_of_neg (by simp[h0]),if_neg h0];omega
   rw[e,Nb,Nc _ _ ks hk (h x (mem_cons_self ..)),GI wt ks hk ps λ y hy=>h y (mem_cons_of_mem _ hy)];rfl
theorem rO (op:Int):∀l:List (Val×Val),cnt op l=dx (l.map (one op))
 | []=>rfl
 | x::l=>by simp only[cnt,map_cons,dx,rO op l]
theorem Dr (op:Int):∀l:List (Val×Val),vH op l=dx (l.map (Eg op))
 | []=>rfl
 | x::l=>by simp only[vH,map_cons,dx,Dr op l]
theorem Ds:∀l:List α,(l.length:Int)=dx (l.map λ _=>1)
 | []=>rfl
 | x::l=>by simp only[map_cons,dx,<- Ds l,length_cons];omega
theorem one_pos (x:Val×Val):0<=one 23 x/\(one 23 x=0->Eg 23 x=0):=by unfold one Eg;by_cases h:x.1.k=2 <;> simp[h]
theorem JE:∀l:List (Val×Val),0<=cnt 23 l/\(cnt 23 l=0->vH 23 l=0)
 | []=>by simp[cnt,vH]
 | x::l=>by have h1:=one_pos x;have h2:=JE l;simp only[cnt,vH];exact⟨by omega,λ h=>by rw[h1.2 TD,h2.2 TD];rfl⟩
variable{l:List (Val×Val)}
theorem TM:dG (cy 21 l)=(num l.length,0):=by have hr:=su (op:=21) TD TD l;have h:=vP (s:=cy 21 l) ⟨num (cy 21 l).all,0,by unfold fM;rw[hr.kind];simp⟩;unfold fM at h;rw[hr.kind,if_pos rfl,hr.all] at h;exact Prod.ext h.1 h.2
theorem jU(h0:(dG (cy 23 l)).2=0):(dG (cy 23 l)).1.n % 18446744073709551616=vH 23 l % 18446744073709551616/\ -9223372036854775808<=(dG (cy 23 l)).1.n/\(dG (cy 23 l)).1.n<=9223372036854775807/\((dG (cy 23 l)).1.k==2)=decide (cnt 23 l≠0):=by
 have hr:=su (op:=23) TD TD l;have h:=vP (s:=cy 23 l) ⟨(cy 23 l).total.1,(cy 23 l).total.2,by unfold fM;rw[hr.kind];simp⟩;unfold fM at h;rw[hr.kind,if_neg TD,if_neg TD,if_pos rfl] at h;generalize dG (cy 23 l)=r at*;rw[h.1];rw[h.2] at h0;clear h;unfold St.total at*;rw[hr.count] at*;by_cases hc:cnt 23 l=0
 ·rw[if_pos hc];rw[(JE l).2 hc];simp[hc,aC]
 ·rw[if_neg hc] at h0 ⊢;by_cases hn:kr (cy 23 l).sum=true
  ·rw[if_pos hn];have hs:=hr.sum;refine⟨?_,?_,?_,by simp[hc,num]⟩
   ·show yO (lo (cy 23 l).sum)% 18446744073709551616=_;rw[hs];unfold yO lo M;rw[IntKind.wrap_i64];omega
   ·show -9223372036854775808<=yO (lo (cy 23 l).sum);exact Zhf
   ·show yO (lo (cy 23 l).sum)<=_;exact Zhf
  ·rw[if_neg hn] at h0;cases h0
variable{a b:t_}
theorem Nd(h:(a.toList==b.toList)=true):a=b:=by have h:=eq_of_beq h;rw[ByteArray.toList_eq,ByteArray.toList_eq] at h;cases a;cases b;exact congrArg _ (Array.toList_inj.1 h)
mutual
theorem Tr.JF:∀(t u:Tr),t.same u=true->t=u
 | .mk o1 v1 n1 w1 a1,.mk o2 v2 n2 w2 a2,h=>by unfold Tr.same at h;simp only[Bool.and_eq_true] at h;obtain⟨⟨ho,⟨⟨hk,hn,hs⟩,jb,hw⟩⟩,hl,ha⟩:=h;have e1:=eq_of_beq ho;have e2:=eq_of_beq hk;have e3:=eq_of_beq hn;have e4:=Nd hs;have e5:=Nd jb;have e6:=eq_of_beq hw;have e7:=Tr.Nf a1 a2 (eq_of_beq hl) ha;cases v1;cases v2;simp only at e2 e3 e4;subst e1 e2 e3 e4 e5 e6 e7;rfl
theorem Tr.Nf:∀(a b:uF),a.length=b.length->Tr.qQ a b=true->a=b
 | [],[],_,_=>rfl
 | [],u::us,h,_=>by simp at h
 | t::ts,[],h,_=>by simp at h
 | t::ts,u::us,h,hs=>by unfold Tr.qQ at hs;rw[Bool.and_eq_true] at hs;rw[Tr.JF t u hs.1,Tr.Nf ts us Tai hs.2]
end
mutual
theorem Tr.GJ:∀t:Tr,t.same t=true
 | .mk o v n w a=>by unfold Tr.same;simp[Tr.Dt a]
theorem Tr.Dt:∀a:uF,Tr.qQ a a=true
 | []=>by unfold Tr.qQ;rfl
 | t::ts=>by unfold Tr.qQ;rw[Tr.GJ t,Tr.Dt ts];rfl
end
def N5 (n:Nat):Prop:=n<=5
theorem ajD:∀i:Nat,i < 5->∀j:Nat,j < 5->((di i).toList==(di j).toList)=decide (i=j):=by simp only[ByteArray.toList_eq];decide+kernel
theorem GK:∀(cs:List aV) (i m:Nat),(∀j (h:j < cs.length),cs[j].name=di ((i+j:Nat):Int))->i<=m->m < i+cs.length->i+cs.length<=5->cY (di m) cs=m - i
 | [],i,m,_,h1,h2,_=>by simp at h2;omega
 | c::cs,i,m,h,h1,h2,h5=>by
   unfold cY;have e:=h 0 Taa;simp only[getElem_cons_zero,Nat.add_zero] at e;rw[length_cons] at h2 h5;rw[e,ajD i TD m TD];by_cases hm:i=m
   ·rw[if_pos (decide_eq_true hm)];omega
   ·rw[if_neg (by simp[hm]),GK cs (i+1) m (λ j hj=>by
     have:=h (j+1) Tab
     rw[getElem_cons_succ] at this
     rw[this]
     congr 2
     omega) TD TD TD]
    omega
theorem WJ (cols:List aV)(row:v_)(m:Nat):(ma m).eval cols row=xz cols row (di m):=by unfold ma Tr.eval Tr.eP lg bH;simp[bQ]
variable{cols:List aV}
theorem WK{row:v_} {m:Nat}(hn:∀j (h:j < cols.length),cols[j].name=di (j:Int))(h5:cols.length<=5)(hm:m < cols.length)(h0:((ma m).eval cols row).2=0):((ma m).eval cols row).1=row.getD m aC:=by
 rw[WJ] at h0 ⊢;unfold xz at*;rw[GK cols 0 m (λ j hj=>by rw[hn j hj,Nat.zero_add]) (Nat.zero_le _) TD TD] at*;simp only[Nat.sub_zero] at*;by_cases hr:m < cols.length/\m < row.length
 ·rw[if_pos hr] at h0 ⊢;by_cases hg:good (row.getD m aC)=true
  ·rw[if_pos hg]
  ·rw[if_neg hg] at h0;cases h0
 ·rw[if_neg hr] at h0;cases h0
theorem GL{row:v_}:∀ {l:uF},bQ (Tr.eP cols row l)=0->∀t∈l,(t.eval cols row).2=0
 | [],_,t,ht=>by cases ht
 | u::l,h,t,ht=>by
   unfold Tr.eP bQ at h;by_cases hz:(u.eval cols row).2=0
   ·rw[if_neg (by simp[hz])] at h;rcases List.mem_cons.1 ht with rfl | ht
    ·exact hz
    ·exact GL h t ht
   ·rw[if_pos hz] at h;exact absurd h hz
theorem GM (cols:List aV)(row:v_):∀l:uF,Tr.eP cols row l=l.map (Tr.eval cols row)
 | []=>by unfold Tr.eP;rfl
 | t::l=>by unfold Tr.eP;rw[GM cols row l];rfl
theorem TN (cols:List aV)(row:v_)(l:uF):Kl cols row l=l.map λ t=>(t.eval cols row).1:=by unfold Kl;rw[GM,map_map];rfl
def adO (s:St):Val×Int:=if s.op=21 then(num s.all,0)else s.total
variable{op:Int}
theorem ajE(h:op=21\/op=23)(l:List (Val×Val)):dG (cy op l)=adO (cy op l):=by
 rcases h with rfl | rfl
 ·have hr:=su (op:=21) TD TD l;have h:=vP (s:=cy 21 l) ⟨num (cy 21 l).all,0,by unfold fM;rw[hr.kind];simp⟩;unfold fM at h;rw[hr.kind] at h;simp only[if_pos] at h;unfold adO;rw[hr.kind,if_pos rfl];exact Prod.ext h.1 h.2
 ·have hr:=su (op:=23) TD TD l;have h:=vP (s:=cy 23 l) ⟨(cy 23 l).total.1,(cy 23 l).total.2,by unfold fM;rw[hr.kind];simp⟩;unfold fM at h;rw[hr.kind] at h;unfold adO;rw[hr.kind,if_neg V0];rw[if_neg V0,if_neg V0,if_pos rfl] at h;exact Prod.ext h.1 h.2
def wQ (ops:List Int)(l:List (v_×List (Val×Val)))(k:v_):List (Val×Int):=(List.range ops.length).map λ i=>adO (cy (ops.getD i 0) (eu i l k))
variable{ops:List Int}
theorem WM(h:∀op∈ops,op=21\/op=23)(l:List (v_×List (Val×Val)))(k:v_):cD ops l k=wQ ops l k:=by
 unfold cD wQ;refine map_congr_left λ i hi=>?_
 rw[mem_range] at hi;exact ajE (h _ (by rw[getD_eq_getElem?_getD,getElem?_eq_getElem hi];exact getElem_mem hi)) _
def JG (ng:Nat)(aD:uF)(l:y_):tE (y_):=
 let ps:=l.map λ r=>(r.take ng,gh aD (r.drop ng))
 let ks:=if ng=0 then [[]] else iF (ps.map (·.1))
 let e:=bU (ks.map λ k=>bQ (wQ (aD.map Tr.op) ps k))
 if e≠0 then .error e else .ok (ks.map λ k=>k++(wQ (aD.map Tr.op) ps k).map (·.1))
variable{ng:Nat}
theorem S5{aD:uF}(h:∀op∈aD.map Tr.op,op=21\/op=23)(l:y_):jk ng aD l=JG ng aD l:=by unfold jk JG;simp only[WM h]
def S6 (q:Qy)(p:ix)(cols:List aV)(rows:y_):tE (y_):=
 if (cT cols q.bF rows).2≠0 then .error (cT cols q.bF rows).2
 else if p.aI=false then .ok (cT cols q.bF rows).1
 else match zW ((cT cols q.bF rows).1.map λ r=>br cols r (q.aF++p.st.aD.flatMap Tr.args))with
 | .error e=> .error e
 | .ok l=>match JG q.aF.length p.st.aD l with
   | .error e=> .error e
   | .ok gs=>if (cT p.st.aF p.having gs).2≠0 then .error (cT p.st.aF p.having gs).2 else .ok (cT p.st.aF p.having gs).1
def ajF (p:ix)(cols:List aV)(rows:y_):tE (List fg):=
 zW (rows.map λ r=>match br (ie p cols) r (p.items++p.order)with | .error e=> .error e | .ok l=> .ok (vS p r l))
def aqq (q:Qy)(cols:List aV)(rows:y_):tE (List aV×y_):=
 match dV q cols with
 | .error e=> .error e
 | .ok p=>if rows.any (λ r=> !iE cols r)=true then .error 40
   else match S6 q p cols rows with
   | .error e=> .error e
   | .ok left=>match ajF p cols left with
     | .error e=> .error e
     | .ok ls=> .ok (p.head,((match q.lim with | []=>mf (q.ord.map λ o:Tr×Bool=>o.2) ls | n::_=>(mf (q.ord.map λ o:Tr×Bool=>o.2) ls).take n.toNat).map fg.row))
def sV (q:Qy)(cols:List aV):Bool:=match dV q cols with
 | .error _=>true
 | .ok p=>(p.st.aD.map Tr.op).all λ op=>op==21 || op==23
variable{q:Qy}
theorem TP(h:sV q cols=true)(rows:y_):jx q cols rows=aqq q cols rows:=by
 unfold jx aqq;unfold sV at h
 cases hp:dV q cols with
 | error e=>rfl
 | ok p=>
   rw[hp] at h;have kP:∀op∈p.st.aD.map Tr.op,op=21\/op=23:=λ op ho=>by have:=List.all_eq_true.1 h op ho;simpa using this
   have hl:vR q p cols rows=S6 q p cols rows:=by unfold vR S6;simp only[S5 kP];rfl
   show(if _ then _ else match vR q p cols rows with | .error e=>_ | .ok left=>match xM p cols left with | .error e=>_ | .ok ls=>_)=_;rw[hl];rfl
def mA:List aV:=[⟨⟨#[116,105,109,101]⟩,2⟩,⟨⟨#[118]⟩,2⟩]
def wR:y_:=[[num 1,num 5],[num 2,num 7],[num 6,num 1]]
def t0B:t_:=⟨#[98,117,99,107,101,116,40,53,44,32,116,105,109,101,41,44,32,115,117,109,40,118,41,32,102,114,111,109,32,116,32,103,114,111,117,112,32,98,121,32,98,117,99,107,101,116,40,53,44,32,116,105,109,101,41]⟩
theorem aqr (w:rQ):ar 52 #[.string (JD++t0B)] w (R.Na R.Ym w):=R.AX (W:=R.wd0) WC V0 R.awH V0 R.aqm w
theorem adP:sV (fG R.Ym) mA=true:=by exact ZgH
def Rj:List aV:=match dV (fG R.Ym) mA with | .ok p=>p.head | .error _=> []
theorem adQ:jx (fG R.Ym) mA wR=.ok (Rj,[[num 0,num 12],[num 5,num 1]]):=by rw[TP adP];exact ZgH
def t1B:t_:=⟨#[118,32,102,114,111,109,32,116,32,119,104,101,114,101,32,116,105,109,101,32,62,32,49,32,111,114,100,101,114,32,98,121,32,118,32,100,101,115,99,32,108,105,109,105,116,32,49]⟩
theorem aqs (w:rQ):ar 52 #[.string (JD++t1B)] w (R.Na R.Yn w):=R.AX (W:=R.wd1) WC V0 R.awI V0 R.aqn w
theorem adR:sV (fG R.Yn) mA=true:=by exact ZgH
def Rk:List aV:=match dV (fG R.Yn) mA with | .ok p=>p.head | .error _=> []
theorem adS:jx (fG R.Yn) mA wR=.ok (Rk,[[num 7]]):=by rw[TP adR];exact ZgH
def t2B:t_:=⟨#[118,32,102,114,111,109,32,116,32,103,114,111,117,112,32,98,121,32,116,105,109,101]⟩
theorem aqt (w:rQ):ar 52 #[.string (JD++t2B)] w (R.Na R.R7 w):=R.AX (W:=R.wd2) WC V0 R.awJ V0 R.aqo w
theorem adT:sV (fG R.R7) mA=true:=by exact ZgH
theorem adU:jx (fG R.R7) mA wR=.error 42:=by rw[TP adT];exact ZgH
def t3B:t_:=⟨#[99,111,117,110,116,40,42,41,32,102,114,111,109,32,116,32,119,104,101,114,101,32,102,97,108,115,101]⟩
theorem aqu (w:rQ):ar 52 #[.string (JD++t3B)] w (R.Na R.Yo w):=R.AX (W:=R.wd3) WC V0 R.awK V0 R.aqp w
theorem adV:sV (fG R.Yo) mA=true:=by exact ZgH
def Rl:List aV:=match dV (fG R.Yo) mA with | .ok p=>p.head | .error _=> []
theorem adW:jx (fG R.Yo) mA wR=.ok (Rl,[[num 0]]):=by rw[TP adV];exact ZgH
theorem zdD.KaK(h:p:=by clear HX hB HB;go_wp2_with fail;exact bodyPost_ret (v:=.agg #[ag 2,af n,au]) (results_cell_row Tryz.results27 _ _ g 44 _ (0,0) _ rfl HR.ae Tryz.underlying44 rfl rfl) rfl ⟨rfl,QV.ae⟩):p:=h
theorem zeW.Ka9(h:p:=by
 have hz:w.heap.size<=g:=by omega
 clear hg;have HB:=aa hB;have HR:=(((HX.aT 0 (ag 2)).aT 1 (af n)).aT 2 (au));have QV:=aa (((hB.setCell (p:=⟨g,0,none⟩) hz (ag 2)).setCell (p:=⟨g,1,none⟩) hz (af n)).setCell (p:=⟨g,2,none⟩) hz (au));have HR:=aa (show aB _ g 44 #[ag 2,af n,au] from HR);open zdD in exact ZbF):p:=h
theorem fV (n:Int)(w:rQ):ar 27 #[af n] w λ e w'=>e=.returned (.agg #[ag 2,af n,au])/\aj w w':=by have hB:=ah w (.cells #[ag 0,af 0,au] 44);have HX:=aB.new w 44 #[ag 0,af 0,au];go_enter Tryz.func27,Tryz.ntmps27;open zeW in exact ZcL
theorem Du{a b:Int}(h:aB w g 44 #[ag 2,af a,au,ag 2,af b,au]):RV w w.heap.size (some ⟨g,0,none⟩) [num a,num b]:=by
 refine .inr ⟨_,0,rfl,h.lt,λ i x hx=>?_⟩
 match i,hx with
 | 0,hx=>exact ZgY
 | 1,hx=>injection hx with hx;subst hx;exact⟨h.cell 3,h.cell 4,h.cell 5⟩
 | n+2,hx=>cases hx
theorem zh6.Kcq(h:p:=by
 clear b1;have K4:=aa (aB.new (w6.alloc (.cells #[ag 2,af 6,au,ag 2,af 1,au] 44)) 38 #[aL w2.heap.size 2 2,aL w4.heap.size 2 2,aL w6.heap.size 2 2]);generalize World.alloc (World.alloc w6 _) _=W at*;rw[World.size_alloc] at K4;refine bodyPost_ret (v:=.tuple #[aL w.heap.size 2 2,aL (w6.heap.size+1) 3 3]) (by simp[results,Tryz.results24,go_sem];done) rfl ?_;refine⟨some ⟨w.heap.size,0,none⟩,2,some ⟨w6.heap.size+1,0,none⟩,3,[⟨some ⟨w2.heap.size,0,none⟩,[num 1,num 5],2⟩,⟨some ⟨w4.heap.size,0,none⟩,[num 2,num 7],2⟩,⟨some ⟨w6.heap.size,0,none⟩,[num 6,num 1],2⟩],rfl,?_,?_,rfl,HB.ae⟩
 ·refine .inr ⟨_,0,rfl,HK.ae.lt,λ i x hx=>?_⟩
  match i,hx with
  | 0,hx=>injection hx with hx;subst hx;exact⟨HK.ae.cell 0,HK.ae.cell 1⟩
  | 1,hx=>injection hx with hx;subst hx;exact⟨HK.ae.cell 2,HK.ae.cell 3⟩
  | n+2,hx=>cases hx
 ·refine .inr ⟨_,0,rfl,K4.ae.lt,λ i x hx=>?_⟩
  match i,hx with
  | 0,hx=>injection hx with hx;subst hx;exact⟨K4.ae.cell 0,Du K1.ae⟩
  | 1,hx=>injection hx with hx;subst hx;exact⟨K4.ae.cell 1,Du K2.ae⟩
  | 2,hx=>injection hx with hx;subst hx;exact⟨K4.ae.cell 2,Du K3.ae⟩
  | n+3,hx=>cases hx):p:=h
theorem WN (w:rQ):ar 24 #[] w λ e w'=>∃CA cc RA rc rs,e=.returned (.tuple #[.slice CA mA.length cc,.slice RA rs.length rc])/\RC w' w'.heap.size CA mA/\RR w' w'.heap.size RA rs/\rs.map (·.l)=wR/\aj w w':=by
 go_enter Tryz.func24,Tryz.ntmps24;go_wp2_with fail;have HB:=aa (ah w (.cells #[.string ⟨#[116,105,109,101]⟩,ag 2,.string ⟨#[118]⟩,ag 2] 113));have HK:=aa (aB.new w 113 #[.string ⟨#[116,105,109,101]⟩,ag 2,.string ⟨#[118]⟩,ag 2]);refine(fV _ _).mono ?_;rintro e w1 ⟨rfl,b1⟩;replace HK:=aa (HK.ae.later b1);replace HB:=aa (ai.then HB.ae b1);clear b1;go_wp2_with fail;refine(fV _ _).mono ?_;rintro e w2 ⟨rfl,b1⟩;replace HK:=aa (HK.ae.later b1);replace HB:=aa (ai.then HB.ae b1);clear b1;go_wp2_with fail;have b1:=ah w2 (.cells #[ag 2,af 1,au,ag 2,af 5,au] 44);replace HK:=aa (HK.ae.later b1);replace HB:=aa (ai.then HB.ae b1);clear b1;have K1:=aa (aB.new w2 44 #[ag 2,af 1,au,ag 2,af 5,au]);refine(fV _ _).mono ?_;rintro e w3 ⟨rfl,b1⟩;replace HK:=aa (HK.ae.later b1);replace K1:=aa (K1.ae.later b1);replace HB:=aa (ai.then HB.ae b1);clear b1;go_wp2_with fail;refine(fV _ _).mono ?_;rintro e w4 ⟨rfl,b1⟩;replace HK:=aa (HK.ae.later b1);replace K1:=aa (K1.ae.later b1);replace HB:=aa (ai.then HB.ae b1);clear b1;go_wp2_with fail;have b1:=ah w4 (.cells #[ag 2,af 2,au,ag 2,af 7,au] 44);replace HK:=aa (HK.ae.later b1);replace K1:=aa (K1.ae.later b1);replace HB:=aa (ai.then HB.ae b1);clear b1;have K2:=aa (aB.new w4 44 #[ag 2,af 2,au,ag 2,af 7,au]);refine(fV _ _).mono ?_;rintro e w5 ⟨rfl,b1⟩;replace HK:=aa (HK.ae.later b1);replace K1:=aa (K1.ae.later b1);replace K2:=aa (K2.ae.later b1);replace HB:=aa (ai.then HB.ae b1);clear b1;go_wp2_with fail;refine(fV _ _).mono ?_;rintro e w6 ⟨rfl,b1⟩;replace HK:=aa (HK.ae.later b1)
 replace K1:=aa (K1.ae.later b1);replace K2:=aa (K2.ae.later b1);replace HB:=aa (ai.then HB.ae b1);clear b1;go_wp2_with fail;have b1:=ah w6 (.cells #[ag 2,af 6,au,ag 2,af 1,au] 44);replace HK:=aa (HK.ae.later b1);replace K1:=aa (K1.ae.later b1);replace K2:=aa (K2.ae.later b1);replace HB:=aa (ai.then HB.ae b1);clear b1;have K3:=aa (aB.new w6 44 #[ag 2,af 6,au,ag 2,af 1,au]);have b1:=ah (w6.alloc (.cells #[ag 2,af 6,au,ag 2,af 1,au] 44)) (.cells #[aL w2.heap.size 2 2,aL w4.heap.size 2 2,aL w6.heap.size 2 2] 38);open zh6 in exact Zhq
def x6V (vx:Val)(gv b off n cc k:Nat)(ct:Int)(gd nz ne:Bool):Nat->rQ->Value->Prop
 | 0,_,v=>v=.agg (aJ vx)
 | 1,_,v=>v=(cond gd (.bool true) (.bool false))
 | 2,_,v=>v=(cond gd (.bool false) (.bool true))
 | 3,_,v=>v=(cond gd (.bool false) (.bool true))
 | 4,_,v=>v=(cond gd (aw gv) (undef))
 | 5,_,v=>v=(cond gd (ag vx.k) (undef))
 | 6,_,v=>v=(cond gd ((cond nz (.bool true) (.bool false))) (undef))
 | 7,_,v=>v=(cond gd ((cond nz (.bool true) (.bool false))) (undef))
 | 8,_,v=>v=(cond gd ((cond nz (aw gv) (undef))) (undef))
 | 9,_,v=>v=(cond gd ((cond nz (ag vx.k) (undef))) (undef))
 | 10,_,v=>v=(cond gd ((cond nz (.slice (some ⟨b,off,none⟩) n cc) (undef))) (undef))
 | 11,_,v=>v=(cond gd ((cond nz (af k) (undef))) (undef))
 | 12,_,v=>v=(cond gd ((cond nz (bc b (off+k*2)) (undef))) (undef))
 | 13,_,v=>v=(cond gd ((cond nz (bc b (off+k*2+1)) (undef))) (undef))
 | 14,_,v=>v=(cond gd ((cond nz (ag ct) (undef))) (undef))
 | 15,_,v=>v=(cond gd ((cond nz ((cond ne (.bool true) (.bool false))) (undef))) (undef))
 | 16,_,v=>v=(cond gd ((cond nz ((cond ne (.bool true) (.bool false))) (.bool false))) (undef))
 | 17,_,v=>v=(cond gd ((cond nz ((cond ne (.bool true) (.bool false))) (.bool false))) (.bool true))
 | _,_,_=>False
theorem WO (vx:Val)(gv b off n cc k:Nat)(ct:Int)(gd nz ne:Bool):∀i w w' v,x6V vx gv b off n cc k ct gd nz ne i w v->ai w w'->x6V vx gv b off n cc k ct gd nz ne i w' v:=by
 intro i w w' v h hl
 match i with
 | 0 | 1 | 2 | 3 | 4 | 5 | 6 | 7 | 8 | 9 | 10 | 11 | 12 | 13 | 14 | 15 | 16 | 17=>exact h
 | n+18=>exact h
variable{c:aV}{v:Val}{cs:List aV}{vs:v_}
theorem ox:iE (c::cs) (v::vs)=(FJ c v && iE cs vs):=rfl
theorem Ng:∀ {cs:List aV} {vs:v_},cs.length≠vs.length->iE cs vs=false
 | [],[],h=>absurd rfl h
 | [],_::_,_=>rfl
 | _::_,[],_=>rfl
 | c::cs,v::vs,h=>by rw[ox,Ng (λ e=>h (by simp[e])),Bool.and_false]
theorem zgL.KbS(h:p:=by
 have h1:_=_:=hr.2.1;have KK:(k:Int)<(cols.length:Int):=by omega
 exact aq (w':=w3) (by simp[go_sem,h0,h1,KK,sZ,eB];done) ⟨ai.refl _,rfl⟩):p:=h
theorem zgM.KbS(h:p:=by have jy:=(hL.cell (p:=⟨Kx,aBG+k*2+1,none⟩) HBS.ae).trans HCT.ae;exact Zdx):p:=h
theorem zgN.KbS(h:p:=by have h1:_=_:=hr.2.1;have e1:=nO.ae.2 rfl;exact Zgo):p:=h
theorem zgO.KbS(h:p:=by have h1:_=_:=hr.2.1;have e1:=nO.ae.1 rfl;exact Zgo):p:=h
theorem S7 (cols:List aV)(CA:z_)(cc:Nat)(row:v_)(RA:z_)(rc:Nat)(w:rQ)(nj:cols.length<=140737488355328)(HZ:row.length<=140737488355328)(kL:RC w w.heap.size CA cols)(hg4:RV w w.heap.size RA row):
  ar 31 #[.slice CA cols.length cc,.slice RA row.length rc] w λ e w'=>e=.returned (.bool (iE cols row))/\aj w w':=by
 have HI:=aa kL;have Gk:=aa hg4;have Ej:=aa nj;have tx:=aa HZ;clear kL hg4 nj HZ;obtain⟨rt,hrt⟩:∃rt,rt=iE cols row:=⟨_,rfl⟩;rw[<- hrt];have Lz:=aa hrt;clear hrt;by_cases hl:cols.length=row.length
 case neg=>
  have hr:rt=false:=by rw[Lz.ae];exact Ng hl
  subst hr;have t1:((cols.length:Int) !=(row.length:Int))=true:=by simp;omega
  have t2:decide ((cols.length:Int)=(row.length:Int))=false:=by simp;omega
  have t3:decide (cols.length=row.length)=false:=by simp[hl]
  have hb:=Below.refl w.heap.size w;clear hl;go_enter Tryz.func31,Tryz.ntmps31;exact Zey
 have t1:((cols.length:Int) !=(row.length:Int))=false:=by simp[hl]
 have t2:decide ((cols.length:Int)=(row.length:Int))=true:=by simp[hl]
 have t3:decide (cols.length=row.length)=true:=by simp[hl]
 have AW:=aa hl;clear hl;go_enter Tryz.func31,Tryz.ntmps31;go_wp2_with fail;clear t1 t2 t3;go_loopw [14] (λ i wr=>∃k:Nat,k<=row.length/\i=af k/\rt=iE (cols.drop k) (row.drop k)/\aj w wr) (λ i _=>row.length - (intOf i).toNat);case atStart=>exact⟨0,Nat.zero_le _,rfl,Lz.ae,Below.refl _ _⟩
 case round=>
  clear Lz;obtain⟨k,hk,rfl,hp,hb⟩:=hrel;have HP:=aa hp;clear hp;have HZ:=tx.ae;by_cases hlt:k < row.length
  ·have sZ:k < cols.length:=by have:=AW.ae;omega
   obtain⟨b2,aDE,rfl,hb1,hx⟩:=(Gk.ae.below hb).at_ hlt;obtain⟨Kx,aBG,rfl,hb2,NV⟩:=(HI.ae.below hb).at_ sZ;have IU:=aa (show cols.drop k=cols[k]::cols.drop (k+1)from drop_eq_getElem_cons sZ);have Kj:=aa (show row.drop k=row[k]::row.drop (k+1)from drop_eq_getElem_cons hlt);generalize row[k]=v at*;generalize cols[k]=c at*;unfold dE at hx;unfold pR at NV;go_upto_region 6 with fail;have HG:=aB.new wr 44 (aJ v);have bV:=ah wr (.cells (aJ v) 44);have hct:=(bV.cell (p:=⟨Kx,aBG+k*2+1,none⟩) (Nat.lt_of_lt_of_le hb2 hb.size)).trans NV.2;have HCT:=aa hct;have hB:=ai.then hb bV;have Kd:Kx <(wr.alloc (.cells (aJ v) 44)).heap.size:=Nat.lt_of_lt_of_le (Nat.lt_of_lt_of_le hb2 hb.size) bV.size;have HBS:=aa Kd;generalize wr.alloc _=W2 at*;obtain⟨g8,XZ⟩:∃g8,g8=wr.heap.size:=⟨_,rfl⟩;rw[<- XZ] at HG ⊢;clear XZ hx NV hct bV Kd;obtain⟨gd,hgd⟩:∃gd,gd=good v:=⟨_,rfl⟩
   obtain⟨nz,hnz⟩:∃nz:Bool,(nz=true->v.k≠0)/\(nz=false->v.k=0):=by
    by_cases h:v.k=0
    ·exact⟨false,λ h=> Tac,λ _=>h⟩
    ·exact Zgl
   obtain⟨ne,hne⟩:∃ne:Bool,(ne=true->v.k≠c.t)/\(ne=false->v.k=c.t):=by
    by_cases h:v.k=c.t
    ·exact⟨false,λ h=> Tac,λ _=>h⟩
    ·exact Zgl
   have Om:=aa hgd;have Yk:=aa hnz;have nO:=aa hne;clear hgd hnz hne;refine bz 18 (x6V v g8 Kx aBG cols.length cc k c.t gd nz ne) (WO _ _ _ _ _ _ _ _ _ _ _) WC WC WC ?_ ?_
   ·simp only[take_succ_cons,take_zero];refine⟨?_,?_,Zhg,Zhg,?_,?_,?_,?_,ZaT,?_,ZaT,ZaT,?_,ZaT,?_,?_,?_,?_,trivial⟩
    ·intro ρ w3 hc hL hr;exact ZcN
    ·intro ρ w3 hc hL hr;cases gd
     ·exact Zdn
     ·exact Zdn
    ·intro ρ w3 hc hL hr;cases gd
     ·exact Zbl
     ·exact Zfe
    ·intro ρ w3 hc hL hr;cases gd
     ·exact Zbl
     ·skip;intro hg;have hg:ρ (.tmp 22)=.bool false:=hg;refine⟨λ _=>?_,λ hn=>absurd hg hn⟩;exact ZcN
    ·intro ρ w3 hc hL hr;cases gd
     ·exact ZfL
     ·skip;cases nz
      ·skip;cases ne
       ·exact Zc8
       ·exact Zc8
      ·skip;cases ne
       ·exact Zc9
       ·exact Zc9
    ·intro ρ w3 hc hL hr;cases gd
     ·skip;cases nz
      ·exact Zbl
      ·exact Zbl
     ·skip;cases nz
      ·exact Zfe
      ·exact Zfe
    ·intro ρ w3 hc hL hr;cases gd
     ·exact ZfS
     ·skip;cases nz
      ·exact ZcB
      ·skip;intro hg;have hg:ρ (.tmp 26)=.bool true:=hg;refine⟨λ _=>?_,λ hn=>absurd hg hn⟩;exact ZcN
    ·intro ρ w3 hc hL hr;cases gd
     ·exact ZfS
     ·skip;cases nz
      ·exact ZcB
      ·open zgL in exact ZeP
    ·intro ρ w3 hc hL hr;cases gd
     ·exact ZfS
     ·skip;cases nz
      ·exact ZcB
      ·open zgM in exact ZeP
    ·intro ρ w3 hc hL hr;cases gd
     ·skip;cases nz
      ·skip;cases ne
       ·exact Zbv
       ·exact Zbv
      ·skip;cases ne
       ·exact Zbv
       ·exact Zbv
     ·skip;cases nz
      ·skip;cases ne
       ·exact ZcB
       ·exact ZcB
      ·skip;cases ne
       ·open zgN in exact ZeP
       ·open zgO in exact ZeP
    ·intro ρ w3 hc hL hr;cases gd
     ·exact ZfL
     ·skip;cases nz
      ·skip;cases ne
       ·exact Zcq
       ·exact Zcq
      ·skip;cases ne
       ·exact Zcq
       ·exact Zcq
    ·intro ρ w3 hc hL hr;cases gd
     ·skip;cases nz
      ·exact Ze1
      ·exact Ze1
     ·skip;cases nz
      ·exact Ze1
      ·exact Ze1
   intro W3 hL;simp only[Uab];rintro a0 - a1 - a2 - a3 - a4 - a5 - a6 - a7 - a8 - a9 - FI - L9 - a12 - a13 - a14 - a15 - a16 - _ rfl;simp only[bA,Act.put,Uac];have hW:=ai.then hB hL;clear HG HCT HBS hB hL hb;cases gd
   ·skip;have hr:rt=false:=by rw[HP.ae,IU.ae,Kj.ae,ox];unfold FJ;rw[<- Om.ae];rfl
    exact ZgF
   ·cases nz
    ·skip;have hr:rt=iE (cols.drop (k+1)) (row.drop (k+1)):=by rw[HP.ae,IU.ae,Kj.ae,ox];unfold FJ;rw[<- Om.ae];rw[Yk.ae.2 rfl];rfl
     have HR:=aa hr;clear hr HP IU Kj Om Yk nO;exact Zcv
    ·cases ne
     ·skip;have hr:rt=iE (cols.drop (k+1)) (row.drop (k+1)):=by rw[HP.ae,IU.ae,Kj.ae,ox];unfold FJ;rw[<- Om.ae];rw[nO.ae.2 rfl];simp
      have HR:=aa hr;clear hr HP IU Kj Om Yk nO;exact Zcv
     ·skip
      have hr:rt=false:=by
       rw[HP.ae,IU.ae,Kj.ae,ox];unfold FJ;rw[<- Om.ae];have e1:(v.k==0)=false:=by have:=Yk.ae.1 rfl;simpa using this
       have e2:(v.k==c.t)=false:=by have:=nO.ae.1 rfl;simpa using this
       rw[e1,e2];rfl
      exact ZgF
  ·have gw:k=row.length:=by omega
   have hr:rt=true:=by rw[HP.ae,drop_eq_nil_of_le (by have:=AW.ae;omega),drop_eq_nil_of_le TD];rfl
   subst hr;exact Zey
end Go.Proofs.YtndgjggokjickaaGreatDoor
