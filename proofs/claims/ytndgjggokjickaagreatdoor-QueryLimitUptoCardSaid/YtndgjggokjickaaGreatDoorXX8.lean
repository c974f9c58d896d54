/- Parts of the proof. -/
import Derived.Deep.WholeRow
import Derived.Test.YtndgjggokjickaaGreatDoorXX7
namespace Go.Proofs.YtndgjggokjickaaGreatDoor
variable{p:Prop}
set_option maxHeartbeats 90000000
set_option maxRecDepth 100000
open Go.ChangeShapes Go.WideShapes Go.ChangeAt Go.RowKit List
set_option linter.unusedVariables false
set_option linter.unusedSimpArgs false
def PR (u v:Value)(r:Rest):Nat->Value
 | 0=>u | 1=>v | 2=>r.h | 3=>r.i | 4=>r.j | _=>r.o
def sW (w:World)(gp:Nat)(R:Nat->Value)(b:Nat):Prop:=b < w.heap.size/\b≠gp/\∀i < 6,(R i).ownBlock≠some b
structure PlF (w0:World) (gp g2:Nat) (qc:Array Value) (g4 g5 D:Nat) (R:Nat->Value) (w:World):Prop where
 low:w0.heap.size<=gp
 lt:gp < w.heap.size
 base:aj w0 w
 rows:∀i < 6,∀q,(R i).ownBlock=some q->w0.heap.size<=q/\q < w.heap.size/\q≠gp
 ap:∀i < 6,∀j < 6,i≠j->∀q,(R i).ownBlock=some q->(R j).ownBlock≠some q
 k2:sW w gp R g2
 k4:sW w gp R g4
 k5:sW w gp R g5
 kD:sW w gp R D
 new:w0.heap.size<=g4/\w0.heap.size<=g5/\g4≠g5/\g4≠D/\g5≠D
 dd:w.heap[D]?=some (.deferred (some []))
 z2:aB w g2 27 qc
 z4:aB w g4 72 #[.pointer none]
 z5:aB w g5 34 #[af 0]
structure CS (w0:World) (gp:Nat) (R R':Nat->Value) (T:Nat->Prop) (w w':World):Prop where
 os:w'.os=w.os
 tape:w'.tape=w.tape
 output:w'.output=w.output
 size:w.heap.size<=w'.heap.size
 far:∀b,b < w.heap.size->b≠gp->(∀i < 6,T i->(R i).ownBlock≠some b)->w'.heap[b]?=w.heap[b]?
 same:∀i < 6,¬T i->R' i=R i
 mv:∀i < 6,T i->Mv w (R i) (R' i)
 one:∀i < 6,∀j < 6,T i->T j->i≠j->∀q,(R' i).ownBlock=some q->(R' j).ownBlock≠some q
 rows:∀i < 6,T i->∀q,(R' i).ownBlock=some q->w0.heap.size<=q/\q < w'.heap.size/\q≠gp
section
variable {w0 w w':World} {gp g2 g4 g5 D:Nat} {qc:Array Value} {R R':Nat->Value} {T:Nat->Prop}
theorem CS.kp (s:CS w0 gp R R' T w w') {b:Nat}(h:sW w gp R b):sW w' gp R' b:=
 ⟨Nat.lt_of_lt_of_le h.1 s.size,h.2.1,λ i hi=>by
   by_cases hT:T i
   ·exact(s.mv i hi hT).ne h.1 (h.2.2 i hi)
   ·rw[s.same i hi hT];exact h.2.2 i hi⟩
theorem CS.keep (s:CS w0 gp R R' T w w') {b:Nat}(h:sW w gp R b):w'.heap[b]?=w.heap[b]?:=s.far b h.1 h.2.1 λ i hi _=>h.2.2 i hi
theorem PlF.step (h:PlF w0 gp g2 qc g4 g5 D R w)(s:CS w0 gp R R' T w w'):PlF w0 gp g2 qc g4 g5 D R' w':=by
 have hr:∀i < 6,∀q,(R' i).ownBlock=some q->w0.heap.size<=q/\q < w'.heap.size/\q≠gp:=λ i hi q hq=>by
  by_cases hT:T i
  ·exact s.rows i hi hT q hq
  ·rw[s.same i hi hT] at hq;have:=h.rows i hi q hq;exact⟨this.1,Nat.lt_of_lt_of_le this.2.1 s.size,this.2.2⟩
 refine⟨h.low,Nat.lt_of_lt_of_le h.lt s.size,?_,hr,?_,s.kp h.k2,s.kp h.k4,s.kp h.k5,s.kp h.kD,h.new,(s.keep h.kD).trans h.dd,(s.keep h.k2).trans h.z2,(s.keep h.k4).trans h.z4,(s.keep h.k5).trans h.z5⟩
 ·exact⟨s.os.trans h.base.os,s.tape.trans h.base.tape,s.output.trans h.base.output,Nat.le_trans h.base.size s.size,λ k hk=>(s.far k (Nat.lt_of_lt_of_le hk h.base.size) (by have:=h.low;omega) λ i hi _ e=>by have:=(h.rows i hi k e).1;omega).trans (h.base.block k hk)⟩
 ·intro i hi j hj nP q hq lu;by_cases hT:T i <;> by_cases hU:T j
  ·exact s.one i hi j hj hT hU nP q hq lu
  ·rw[s.same j hj hU] at lu;have hl:=(h.rows j hj q lu).2.1;rcases s.mv i hi hT with h1 | h1
   ·exact h.ap i hi j hj nP q (h1▸hq) lu
   ·have:=h1 q hq;omega
  ·rw[s.same i hi hT] at hq;have hl:=(h.rows i hi q hq).2.1;rcases s.mv j hj hU with h1 | h1
   ·exact h.ap i hi j hj nP q hq (h1▸lu)
   ·have:=h1 q lu;omega
  ·rw[s.same i hi hT] at hq;rw[s.same j hj hU] at lu;exact h.ap i hi j hj nP q hq lu
theorem CS.own {α:Type} {f:α->List Value} {e:TypeId} {size base:Nat} {l:List α}(s:CS w0 gp R R' T w w')(h:PlF w0 gp g2 qc g4 g5 D R w) {i:Nat}(hi:i < 6)(hT:¬T i)(ho:aI f e size w base (R i) l):aI f e size w' base (R' i) l:=by
 rw[s.same i hi hT];refine ho.keep λ g hg=>s.far g (h.rows i hi g hg).2.1 (h.rows i hi g hg).2.2 λ j hj hU=>h.ap i hi j hj (λ e=>hT (e▸hU)) g hg
theorem CS.trees (s:CS w0 gp R R' T w w') {ts:List Tr} {ys:List Ex}(h:Tr.aO w (sW w gp R) ts ys):Tr.aO w' (sW w' gp R') ts ys:=Tr.aO.keep (λ b hb=>⟨λ o=>bI (s.keep hb) o,s.kp hb⟩) ts ys h
theorem CS.later (hb:aj w w'):CS w0 gp R R (λ _=>False) w w':=⟨hb.os,hb.tape,hb.output,hb.size,λ b h1 _ _=>hb.block b h1,λ _ _ _=>rfl,λ _ _ h=>h.elim,λ _ _ _ _ h=>h.elim,λ _ _ h=>h.elim⟩
end
structure cO (c:PC) (w0:World) (gp g2:Nat) (qc:Array Value) (g4 g5 D:Nat) (r:Rest) (w:World) (u v:Value) (ya:List Ex) (s:dy) (hd:List aX) (yi yh yo:List Ex) (ti th eD:List Tr):Prop where
 f:PlF w0 gp g2 qc g4 g5 D (PR u v r) w
 blk:aB w gp 81 (c.cells r u v)
 o0:aI bH 46 7 w w0.heap.size u ya
 o1:aI aS 113 2 w w0.heap.size v s.aL
 o2:aI aS 113 2 w w0.heap.size r.h hd
 o3:aI bH 46 7 w w0.heap.size r.i yi
 o4:aI bH 46 7 w w0.heap.size r.j yh
 o5:aI bH 46 7 w w0.heap.size r.o yo
 aJ:Tr.aO w0 (Old w0) s.aJ ya
 t3:Tr.aO w (sW w gp (PR u v r)) ti yi
 t4:Tr.aO w (sW w gp (PR u v r)) th yh
 t5:Tr.aO w (sW w gp (PR u v r)) eD yo
section
variable {c:PC} {w0 w w':World} {gp g2 g4 g5 D:Nat} {qc:Array Value} {r:Rest} {u v u' v':Value} {ya ql:List Ex} {s s':dy} {hd:List aX} {yi yh yo:List Ex} {ti th eD:List Tr}
theorem cO.ps (h:cO c w0 gp g2 qc g4 g5 D r w u v ya s hd yi yh yo ti th eD):eG c w0 gp r w u v ya s:=⟨h.f.low,h.f.base,h.blk,h.o0,h.o1,h.aJ⟩
theorem cO.later (h:cO c w0 gp g2 qc g4 g5 D r w u v ya s hd yi yh yo ti th eD)(hb:aj w w'):cO c w0 gp g2 qc g4 g5 D r w' u v ya s hd yi yh yo ti th eD:=
 have p:=CS.later (w0:=w0) (gp:=gp) (R:=PR u v r) hb
 ⟨h.f.step p,h.blk.later hb,h.o0.later hb,h.o1.later hb,h.o2.later hb,h.o3.later hb,h.o4.later hb,h.o5.later hb,h.aJ,p.trees h.t3,p.trees h.t4,p.trees h.t5⟩
theorem cO.kp2 (h:cO c w0 gp g2 qc g4 g5 D r w u v ya s hd yi yh yo ti th eD) {b:Nat}(hb:sW w gp (PR u v r) b):Kp w gp [u,v] b:=
 ew.2 ⟨hb.1,hb.2.1,hb.2.2 0 WC,hb.2.2 1 WC⟩
theorem cO.stp (h:cO c w0 gp g2 qc g4 g5 D r w u v ya s hd yi yh yo ti th eD)(hs:gK gp w u v w' u' v')(hp:eG c w0 gp r w' u' v' ql s'):CS w0 gp (PR u v r) (PR u' v' r) (λ i=>i < 2) w w':=by
 have hblk:=hp.blk;have hn:∀q,u'.ownBlock=some q->v'.ownBlock≠some q:=λ q h1 h2=>by obtain⟨_,_,_,e1⟩:=hp.kU.lt h1;obtain⟨_,_,_,e2⟩:=hp.dI.lt h2;rw[e1] at e2;injection e2 with e2;injection e2 with _ e2 _;exact absurd e2 Tab
 refine⟨hs.os,hs.tape,hs.output,hs.size,λ b h1 h2 h3=>hs.block b (ew.2 ⟨h1,h2,h3 0 WC WC,h3 1 WC WC⟩),?_,?_,?_,?_⟩
 ·intro i hi hT
  match i with
  | 0=>omega
  | 1=>omega
  | 2 | 3 | 4=>rfl
  | n+5=>rfl
 ·intro i hi hT
  match i with
  | 0=>exact hs.mu
  | 1=>exact hs.mv
  | n+2=>omega
 ·intro i hi j hj hT hU nP q h1 h2
  match i,j with
  | 0,1=>exact hn q h1 h2
  | 1,0=>exact hn q h2 h1
  | 0,0=>exact nP rfl
  | 1,1=>exact nP rfl
  | n+2,_=>omega
  | 0,n+2=>omega
  | 1,n+2=>omega
 ·intro i hi hT q hq
  match i with
  | 0=>exact⟨(hp.kU.lt hq).2.1,(hp.kU.lt hq).1,λ e=>hp.kU.other hblk Tab (by rw[show u'.ownBlock=some q from hq,e])⟩
  | 1=>exact⟨(hp.dI.lt hq).2.1,(hp.dI.lt hq).1,λ e=>hp.dI.other hblk Tab (by rw[show v'.ownBlock=some q from hq,e])⟩
  | n+2=>omega
theorem cO.call (h:cO c w0 gp g2 qc g4 g5 D r w u v ya s hd yi yh yo ti th eD)(hs:gK gp w u v w' u' v')(hp:eG c w0 gp r w' u' v' ql s'):cO c w0 gp g2 qc g4 g5 D r w' u' v' ql s' hd yi yh yo ti th eD:=by have p:=h.stp hs hp;exact⟨h.f.step p,hp.blk,hp.kU,hp.dI,p.own h.f (i:=2) WC WC h.o2,p.own h.f (i:=3) WC WC h.o3,p.own h.f (i:=4) WC WC h.o4,p.own h.f (i:=5) WC WC h.o5,hp.aJ,p.trees h.t3,p.trees h.t4,p.trees h.t5⟩
theorem cO.tree (h:cO c w0 gp g2 qc g4 g5 D r w u v ya s hd yi yh yo ti th eD)(hs:gK gp w u v w' u' v')(hp:eG c w0 gp r w' u' v' ql s') {t:Tr} {y:Ex}(ht:t.at_ w' (λ b=>(b < w0.heap.size\/w.heap.size<=b)/\Kp w' gp [u',v'] b) y):t.at_ w' (sW w' gp (PR u' v' r)) y:=by have p:=(h.call hs hp).f;refine Tr.at_.keep (λ b hb=>⟨λ _=>rfl,hb.2.1,hb.2.2.1,λ i hi e=>?_⟩) t y ht;exact Zb9
theorem cO.aof (h:cO c w0 gp g2 qc g4 g5 D r w u v ya s hd yi yh yo ti th eD) {t:Tr} {y:Ex} {a:Value}(hl:LaB gp 14 w0.heap.size w (c.cells r u v) r.j yh y a true true w')(ht:t.at_ w (sW w gp (PR u v r)) y):
  cO c w0 gp g2 qc g4 g5 D { r with j:=a } w' u v ya s hd yi (yh++ [y]) yo ti (th++ [t]) eD:=by
 have ho:aI bH 46 7 w' w0.heap.size a (yh++ [y]):=hl.own;obtain⟨q0,c0,e0,hq0⟩:=hl.row
 have p:CS w0 gp (PR u v r) (PR u v { r with j:=a }) (λ i=>i=4) w w':=by
  refine⟨hl.os,hl.tape,hl.output,hl.size,λ b h1 h2 h3=>hl.far b h1 h2 (h3 4 WC rfl),?_,?_,Zft,ZdT⟩
  ·intro i hi hT
   match i with
   | 0 | 1 | 2 | 3=>rfl
   | 4=>exact absurd rfl hT
   | 5=>rfl
   | n+6=>omega
  ·intro i hi hT;subst hT;exact hl.mv
 have hT:=p.trees (ts:=[t]) (ys:=[y]) (Tr.fL ht);refine⟨h.f.step p,?_,p.own h.f (i:=0) WC WC h.o0,p.own h.f (i:=1) WC WC h.o1,p.own h.f (i:=2) WC WC h.o2,p.own h.f (i:=3) WC WC h.o3,ho,p.own h.f (i:=5) WC WC h.o5,h.aJ,p.trees h.t3,Tr.all_append (p.trees h.t4) hT,p.trees h.t5⟩;exact hl.blk
theorem cO.aog (h:cO c w0 gp g2 qc g4 g5 D r w u v ya s hd yi yh yo ti th eD) {t:Tr} {y:Ex} {a:Value}(hl:LaB gp 15 w0.heap.size w (c.cells r u v) r.o yo y a true true w')(ht:t.at_ w (sW w gp (PR u v r)) y):
  cO c w0 gp g2 qc g4 g5 D { r with o:=a } w' u v ya s hd yi yh (yo++ [y]) ti th (eD++ [t]):=by
 have ho:aI bH 46 7 w' w0.heap.size a (yo++ [y]):=hl.own;obtain⟨q0,c0,e0,hq0⟩:=hl.row
 have p:CS w0 gp (PR u v r) (PR u v { r with o:=a }) (λ i=>i=5) w w':=by
  refine⟨hl.os,hl.tape,hl.output,hl.size,λ b h1 h2 h3=>hl.far b h1 h2 (h3 5 WC rfl),?_,?_,Zft,ZdT⟩
  ·intro i hi hT
   match i with
   | 0 | 1 | 2 | 3=>rfl
   | 4=>rfl
   | 5=>exact absurd rfl hT
   | n+6=>omega
  ·intro i hi hT;subst hT;exact hl.mv
 have hT:=p.trees (ts:=[t]) (ys:=[y]) (Tr.fL ht);refine⟨h.f.step p,?_,p.own h.f (i:=0) WC WC h.o0,p.own h.f (i:=1) WC WC h.o1,p.own h.f (i:=2) WC WC h.o2,p.own h.f (i:=3) WC WC h.o3,p.own h.f (i:=4) WC WC h.o4,ho,h.aJ,p.trees h.t3,p.trees h.t4,Tr.all_append (p.trees h.t5) hT⟩;exact hl.blk
end
def fy:Code->Nat->Code
 | .seq _ b,n+1=>fy b n
 | c,_=>c
noncomputable def bK:Code:=Tryz.f28.body.getD .skip
def bT (f:Nat->Value):Array Value:= #[f 0,f 1,f 2,f 3,f 4,f 5,f 6,f 7,f 8,f 9,f 10,f 11,f 12,f 13,f 14,f 15,f 16,f 17,f 18,f 19,f 20,f 21,f 22,f 23,f 24,f 25,f 26,f 27,f 28,f 29,f 30,f 31,f 32,f 33,f 34,f 35,f 36,f 37,f 38,f 39,f 40,f 41,f 42,f 43,f 44,f 45,f 46,f 47,f 48,f 49,f 50,f 51,f 52,f 53,f 54,f 55,f 56,f 57,f 58,f 59,f 60,f 61,f 62,f 63,f 64,f 65,f 66,f 67,f 68,f 69,f 70,f 71,f 72,f 73,f 74,f 75,f 76,f 77,f 78,f 79,f 80,f 81,f 82,f 83,f 84,f 85,f 86,f 87,f 88,f 89,f 90,f 91,f 92,f 93,f 94,f 95,f 96,f 97,f 98,f 99,f 100,f 101,f 102,f 103,f 104,f 105,f 106,f 107,f 108,f 109,f 110,f 111,f 112,f 113,f 114,f 115,f 116,f 117,f 118,f 119,f 120,f 121,f 122,f 123,f 124,f 125,f 126,f 127,f 128,f 129,f 130,f 131,f 132,f 133,f 134,f 135,f 136,f 137,f 138,f 139,f 140,f 141,f 142,f 143,f 144,f 145,f 146,f 147,f 148,f 149,f 150,f 151,f 152,f 153,f 154,f 155,f 156,f 157,f 158,f 159,f 160,f 161,f 162,f 163,f 164,f 165,f 166,f 167,f 168,f 169,f 170,f 171,f 172,f 173,f 174,f 175,f 176,f 177,f 178,f 179,f 180,f 181,f 182,f 183,f 184,f 185,f 186,f 187,f 188,f 189,f 190,f 191,f 192,f 193,f 194,f 195,f 196,f 197,f 198,f 199,f 200,f 201,f 202,f 203,f 204,f 205,f 206,f 207,f 208,f 209,f 210,f 211,f 212,f 213,f 214,f 215,f 216,f 217,f 218,f 219,f 220,f 221,f 222,f 223,f 224,f 225,f 226,f 227,f 228,f 229,f 230,f 231,f 232,f 233,f 234,f 235,f 236,f 237,f 238,f 239,f 240,f 241,f 242,f 243,f 244,f 245,f 246,f 247,f 248,f 249,f 250,f 251]
theorem kX (T:Array Value)(h:T.size=252):∃f:Nat->Value,T=bT f:=by
 refine⟨λ i=>T.getD i undef,?_⟩;apply Array.ext
 ·rw[h];rfl
 ·intro i h1 h2
  have e:∀(f:Nat->Value) (i:Nat) (hi:i <(bT f).size),(bT f)[i]=f i:=by
   intro f i hi;have h3:(bT f).toList=(List.range 252).map f:=rfl;have h4:(bT f)[i]=(bT f).toList[i]' TaE:=by simp
   exact ZfR
  rw[e];simp[Array.getD,h1]
noncomputable def gU:Code:=Tryz.f33.body.getD .skip
def frg (f:Nat->Value):Array Value:= #[f 0,f 1,f 2,f 3,f 4,f 5,f 6,f 7,f 8,f 9,f 10,f 11,f 12,f 13,f 14,f 15,f 16,f 17,f 18,f 19,f 20,f 21,f 22,f 23,f 24,f 25,f 26,f 27,f 28,f 29,f 30,f 31,f 32,f 33,f 34,f 35,f 36,f 37,f 38,f 39,f 40,f 41,f 42,f 43,f 44,f 45,f 46,f 47,f 48,f 49,f 50,f 51,f 52,f 53,f 54,f 55,f 56,f 57,f 58,f 59,f 60,f 61,f 62,f 63,f 64,f 65,f 66,f 67,f 68,f 69,f 70,f 71,f 72,f 73,f 74,f 75,f 76,f 77,f 78,f 79,f 80,f 81,f 82,f 83,f 84,f 85,f 86,f 87,f 88,f 89,f 90,f 91,f 92,f 93,f 94,f 95,f 96,f 97,f 98,f 99,f 100,f 101,f 102,f 103,f 104,f 105,f 106,f 107,f 108,f 109,f 110,f 111,f 112,f 113,f 114,f 115,f 116,f 117,f 118,f 119,f 120,f 121,f 122,f 123,f 124,f 125,f 126,f 127,f 128,f 129,f 130,f 131,f 132,f 133,f 134,f 135,f 136,f 137,f 138,f 139,f 140,f 141,f 142,f 143,f 144,f 145,f 146,f 147,f 148,f 149,f 150,f 151,f 152,f 153,f 154,f 155,f 156,f 157,f 158,f 159,f 160,f 161,f 162,f 163]
theorem Jl (T:Array Value)(h:T.size=164):∃f:Nat->Value,T=frg f:=by
 refine⟨λ i=>T.getD i undef,?_⟩;apply Array.ext
 ·rw[h];rfl
 ·intro i h1 h2
  have e:∀(f:Nat->Value) (i:Nat) (hi:i <(frg f).size),(frg f)[i]=f i:=by
   intro f i hi;have h3:(frg f).toList=(List.range 164).map f:=rfl;have h4:(frg f)[i]=(frg f).toList[i]' TaE:=by simp
   exact ZfR
  rw[e];simp[Array.getD,h1]
noncomputable def qm (xs:List gG):Int:=dx (xs.map λ x=>cL (x.ss.map gD))
noncomputable def Ev (xs:List gG):List (List Val):=xs.map λ x=>x.key++(x.ss.map gD).map (·.1)
variable{w w1 w2:World}{g:Nat}{o:Option Nat}{B:Nat}
theorem pL(h:w.grownBy w1 (some g))(hg:w1.grownBy w2 o)(hB:w.heap.size<=B)(ho:∀q,o=some q->B<=q):w.grownBy w2 (some g):=
 ⟨hg.os.trans h.os,hg.tape.trans h.tape,hg.output.trans h.output,Nat.le_trans h.size hg.size,λ k hk hn=>(hg.block k (Nat.lt_of_lt_of_le hk h.size) λ e=>by have:=ho k e.symm;omega).trans (h.block k hk hn)⟩
variable{xs:List gG}{k:Nat}
theorem Vz(h:k < xs.length):qm (xs.take (k+1))=tx (qm (xs.take k)) (cL (xs[k].ss.map gD)):=by unfold qm;rw[take_add_one,getElem?_eq_getElem h,map_append];exact qZ _ _
variable{b e:Int}
theorem Tc(h:tx b e=0):b=0/\e=0:=by unfold tx at h;split at h <;> omega
theorem zgD.KbG(h:p:=by
 clear HV;go_upto_region 34 with fail;have Lw:=ah w3 (.cells (aD v) 44);have Ly:=aB.new w3 44 (aD v);have mG:=aa (HV6.ae.later Lw);have Jo:=aa (Nw.ae.later Lw);have Ck:=aa (show wo.grownBy _ (some gb)from aY xd.ae (aR Lw));have Gc:=aa Ly;have hbase:=Ck.ae.size;have Ht:(x.key++((x.ss.take m).map gD).map (·.1)).length<=200000:=by have:=HKK.ae;simp only[length_append,length_map,length_take];omega
 have qE:=aa (show x.key++((x.ss.take (m+1)).map gD).map (·.1)=x.key++((x.ss.take m).map gD).map (·.1)++ [v] by rw[oZ.ae,map_append,map_append,HVE.ae,append_assoc];rfl);generalize x.key++((x.ss.take m).map gD).map (·.1)=L at*;clear Lw Ly;go_wp2_with (first
  |(at_builtin
    refine aU rfl (.tmp 151) (.tmp 153) 38 rfl _ 32 Tryz.underlying38 lW rfl WC v rfl TaZ rfl mG.ae w3.heap.size rfl Gc.ae WC WC hbase ?_
    intro v4 w4 o4 g4
    have O4:=aa o4
    have B4:=aa (Jo.ae.ku mG.ae Tab g4)
    have Xt:=aa (pL Ck.ae g4 (Nat.le_refl _) (λ q hq=>(mG.ae.lt hq).2.1))
    clear o4 g4))
 go_roundw
 case rel=>
  refine⟨m+1,Ek,by go_num,?_,?_,B4.ae,Xt.ae⟩
  ·rw[qE.ae];exact O4.ae
  ·intro a ha;rw[oZ.ae,map_append] at ha;rcases List.mem_append.1 ha with ha | ha
   ·exact JO.ae a ha
   ·simp only[map_cons,map_nil,mem_singleton] at ha;rw[ha,<- NY.ae]
 case measure=>exact Za1):p:=h
theorem zhY.Kcc(h:p:=by have HO5:=IH.ae.later hL;have HM5:=Q1.ae.later hL;have Vk:w.grownBy W3 (some gb):=aY Q5.ae (aR hL);go_wp2_with fail;exact HHA.ae _ _ u18 cl rfl rfl rfl HO5 HM5 Q4.ae Vk):p:=h
theorem acD (xs:List gG)(B:Nat)(LA:Option Addr)(lc gb:Nat)(T:Array Value)(hT:T.size=164)(h9:T.getD 9 undef=aw gb)(h10:T.getD 10 undef=.slice LA xs.length lc)(d:List Deferred)(w:World)(Q:Exit->Act->World->Prop)
  (hgb:aB w gb 84 #[af 0]) (hL:LZ w w.heap.size LA (xs.map gG.g)) (hLg:∀a,LA=some a->a.block≠gb) (Ly:kx w B xs) (hn:xs.length<=1000000)
  (hk:∀x∈xs,x.key.length<=1000/\x.ss.length<=100000) (aZ:∀x∈xs,∀s∈x.ss,s.Ok/\∃v e,gH s v e)
  (h:∀a W ov cl,a.defers=d->a.tmps.getD 4 undef=ov->a.tmps.getD 5 undef=af (qm xs)->aI ck 38 1 W w.heap.size ov cl->Mine W w.heap.size cl->(qm xs=0->cl.map (·.l)=Ev xs)->w.grownBy W (some gb)->Q .ret a W):
  (fy gU 8).wp Tryz.prog Q { tmps:=T,defers:=d } w:=by
 obtain⟨f,rfl⟩:=Jl T hT;have h9:f 9=_:=h9;have h10:f 10=_:=h10;simp only[frg,h9,h10];clear h9 h10;clear h9 h10 hT;have HH:=aa h;have yN:=aa hgb;have HL:=aa hL;have I1:=aa hLg;have HG:=aa Ly;have HK:=aa hk;have gh:=aa aZ;clear h hgb hL hLg Ly hk aZ;simp only[gU,fy,Tryz.f33,Option.getD_some];go_wp2_with fail;go_loopw [18,125] (λ ov i wr=>∃(k:Nat) (cl:List aW),k<=xs.length/\i=af k/\aI ck 38 1 wr w.heap.size ov cl/\Mine wr w.heap.size cl/\cl.length=k/\aB wr gb 84 #[af (qm (xs.take k))]/\(qm (xs.take k)=0->cl.map (·.l)=Ev (xs.take k))/\w.grownBy wr (some gb)) (λ _ i _=>xs.length - (intOf i).toNat);case atStart=>exact⟨0,[],Nat.zero_le _,rfl,aI.nil,(λ r hr=>by cases hr),rfl,yN.ae,(λ _=>rfl),World.grownBy.refl w _⟩
 case round=>
  obtain⟨k,cl,hkx,rfl,ih,q1,q2,q3,q4,q5⟩:=hrel;have IH:=aa ih;have Q1:=aa q1;have HFN:=aa q2;have Q3:=aa q3;have Q4:=aa q4;have Q5:=aa q5;clear ih q1 q2 q3 q4 q5;by_cases hlt:k < xs.length
  ·obtain⟨lb,hA,xJ,hc0⟩:=HL.ae.at_ (k:=k) (by rw[length_map];exact hlt);have Xm:=I1.ae _ hA;have hc1:=(bI (Q5.ae.block lb xJ (λ e=>by injection e with e;exact Xm e)) k).trans hc0;rw[getElem_map] at hc1;have hGw:=HG.ae.grown Q5.ae yN.ae Tab Tab Tab Tab;have hx:=hGw.at_ xs[k] (getElem_mem hlt);have fH:=HK.ae xs[k] (getElem_mem hlt);have HOX:=aa (gh.ae xs[k] (getElem_mem hlt));have Pt:=aa (Vz hlt);have VD:=aa (show Ev (xs.take (k+1))=Ev (xs.take k)++ [xs[k].key++(xs[k].ss.map gD).map (·.1)] by unfold Ev;rw[take_add_one,getElem?_eq_getElem hlt,map_append];rfl);generalize xs[k]=x at*;generalize qm (xs.take k)=FC at*;have HX:=aa hx;have HKK:=aa fH;have dV:=hx.blk;obtain⟨SA,sc,CT,hsr⟩:=ej (f:=cY) (size:=1) (λ _=>rfl) hx.own;rw[CT] at dV;have z0:=dV.cell 0;have z1:=dV.cell 1;simp only[Uaa] at z0 z1;have HSR:=aa hsr;have HSV:=aa CT;rw[hA];clear hc0 xJ Xm hA hGw hx fH CT hsr dV;go_wp2_with fail;refine(Cl x.KA x.kc x.key wr HX.ae.key.rv HKK.ae.1).mono ?_;rintro e w1 ⟨rv,rfl,vd,b1⟩;have AZ:=aa vd;have KK:=aa (show wr.grownBy w1 (some gb)from aR b1);have fE:=aa (Q3.ae.later b1);have y1:=(b1.cell (p:=⟨x.g,1,none⟩) HX.ae.blk.lt).trans z1;clear vd b1 z0 z1 hc1;go_wp2_with fail;clear y1;generalize wr=wo at*;go_loopw [21,139] (λ rv j wq=>∃m:Nat,m<=x.ss.length/\j=af m/\aI aV 44 3 wq wo.heap.size rv (x.key++((x.ss.take m).map gD).map (·.1))/\(∀a∈(x.ss.take m).map gD,a.2=0)/\aB wq gb 84 #[af FC]/\wo.grownBy wq (some gb)) (λ _ j _=>x.ss.length - (intOf j).toNat)
   case atStart=>exact⟨0,Nat.zero_le _,rfl,by simpa using AZ.ae,(λ a ha=>by simp at ha),fE.ae,KK.ae⟩
   case round=>
    clear AZ KK fE;obtain⟨m,hm,rfl,kZ,hg4,oy,HZ⟩:=hrel;have HI:=aa kZ;have JO:=aa hg4;have Gi:=aa oy;have tD:=aa HZ;clear kZ hg4 oy HZ;have SL:=HX.ae.qD.len;have hm9:m<=100000:=by have:=HKK.ae.2;omega
    have hm8:x.ss.length<=100000:=HKK.ae.2;by_cases Ek:m < x.ss.length
    ·obtain⟨g2,tO,hg2,hc2⟩:∃g2,SA=some ⟨g2,0,none⟩/\g2 < wo.heap.size/\wo.cell? ⟨g2,m,none⟩=some (.pointer (some ⟨x.qs[m]' TaW,0,none⟩)):=by
      rcases HSR.ae with h0 |⟨g2,e1,e2,e3⟩
      ·have:x.qs.length=0:=by rw[h0];rfl
       omega
      ·refine⟨g2,e1,e2,?_⟩;have:=e3 m (x.qs[m]' TaW) 0 _ (getElem?_eq_getElem _) WC rfl;exact Ze5
     have hx2:=((kx.mk (λ y hy=>by rw[mem_singleton] at hy;rw[hy];exact HX.ae) (pairwise_singleton _ _):kx wo B [x]).grown tD.ae Q3.ae Tab Tab Tab Tab).at_ x (mem_singleton_self x)
     have aoh:g2≠gb:=by
      have qO:x.sv.ownBlock=some g2:=by rw[HSV.ae,fB,tO];rfl
      obtain⟨_,_,cur,xX⟩:=HX.ae.own.lt qO;exact kS (show aB wo g2 145 cur from xX) Q3.ae Tab
     have hc3:=(bI (tD.ae.block g2 hg2 (λ e=>by injection e with e;exact aoh e)) m).trans hc2;have hst:=hx2.qD.at_ m (x.qs[m]' TaW) x.ss[m] (getElem?_eq_getElem _) (getElem?_eq_getElem _);obtain⟨I3,hsa⟩:=HOX.ae x.ss[m] (getElem_mem Ek);have aoj:=Ik hsa;have oZ:=aa (show x.ss.take (m+1)=x.ss.take m++ [x.ss[m]] by rw[take_add_one,getElem?_eq_getElem Ek];rfl);have HFB:=aa (show(gD x.ss[m]).2≠0->cL (x.ss.map gD)=(gD x.ss[m]).2 from λ hne=>by
      have e1:x.ss.map gD=(x.ss.take m).map gD++gD x.ss[m]::(x.ss.drop (m+1)).map gD:=by
       rw[<- map_cons,<- map_append,<- drop_eq_getElem_cons Ek,take_append_drop]
      rw[e1]
      exact E7 JO.ae hne)
     generalize x.ss[m]=st at*;generalize x.qs[m]' TaW=q at*;rw[tO] at*;have acE:=aa (Oq q st (gD st).1 (gD st).2 wr hst I3 aoj);clear hg2 hc2 hx2 aoh hst I3 hsa aoj tO;obtain⟨v,hv⟩:∃v,v=(gD st).1:=⟨_,rfl⟩;obtain⟨er,her⟩:∃er,er=(gD st).2:=⟨_,rfl⟩;rw[<- hv,<- her] at acE;rw[<- her] at HFB;have HVE:=aa hv;have NY:=aa her;clear hv her;unfold bR at acE;rw[SL];go_wp2_with fail;clear hc3;refine acE.ae.mono ?_;rintro e w2 ⟨rfl,b2⟩;have I4:=aa (Gi.ae.later b2);have HV4:=aa (HI.ae.later b2);have Kx:=aa (show wo.grownBy w2 (some gb)from aY tD.ae (aR b2));clear b2 Gi HI tD acE;go_upto_region 33 with fail;have bN:=ah w2 (.cells (aD v) 44);have hG:=aB.new w2 44 (aD v);have rK:=aa (I4.ae.later bN);have HV5:=aa (HV4.ae.later bN);have Vk:=aa (show wo.grownBy _ (some gb)from aY Kx.ae (aR bN));generalize hW:w2.alloc (.cells (aD v) 44)=W at*;generalize w2.heap.size=gn at*;clear hW bN I4 HV4 Kx;go_wp2_with fail;refine(vS gb FC er _ rK.ae).mono ?_;rintro e w3 ⟨rfl,hb3,HZ⟩;have Nw:=aa hb3;have xd:=aa (show wo.grownBy w3 (some gb)from aY Vk.ae HZ);have HV6:=aa (HV5.ae.grown HZ (HV5.ae.other rK.ae Tab));have HV:=hG.grown HZ (λ e=>by injection e with e;exact kS hG rK.ae Tab e);clear hb3 HZ rK HV5 Vk hG;by_cases he:er=0
     ·subst he;have Nw:=aa (show aB w3 gb 84 #[af FC] by have h6:=Nw.ae;rwa [BD] at h6);open zgD in exact Zew
     ·have t1:(er==0)=false:=by simp[he]
      have auD:=aa he;have mL:=aa (HFB.ae he);have HBc:=Nw;have HVc:=HV6;have HGc:=xd;generalize x.key++((x.ss.take m).map gD).map (·.1)=L at*;clear he HV;obtain⟨RA,rc,Gs,_⟩:=HVc.ae.reads;subst Gs;go_upto_region 36 with fail
      have Lw:=ah w3 (.cells #[.slice RA L.length rc] 38);have Ly:=aB.new w3 38 #[.slice RA L.length rc];have zU:=aa ((IH.ae.grown HGc.ae (IH.ae.other Q3.ae Tab)).later Lw);have HM7:=aa (show Mine _ w.heap.size cl from Mine.later (λ r hr=>(Q1.ae r hr).grown HGc.ae ((Q1.ae r hr).other Q3.ae Tab)) Lw);have mG:=aa (HVc.ae.later Lw);have Jo:=aa (HBc.ae.later Lw);have Ck:=aa (show w.grownBy _ (some gb)from aY (aY Q5.ae HGc.ae) (aR Lw));have Gc:=aa Ly;have hbase:=Ck.ae.size;have HWO:=aa Q5.ae.size;have auH:=HFN.ae;clear Lw Ly;go_wp2_with (first
       |(at_builtin
         refine aU rfl (.tmp 156) (.tmp 158) 29 rfl _ 24 Tryz.underlying29 qY rfl WC (⟨RA,L,rc⟩:aW) rfl TaC rfl zU.ae w3.heap.size rfl Gc.ae WC WC hbase ?_
         intro v4 w4 o4 g4
         have O4:=aa o4
         have B4:=aa (Jo.ae.ku zU.ae Tab g4)
         have V4:=aa (mG.ae.past zU.ae Tab g4)
         have M4:=aa (HM7.ae.grown zU.ae g4)
         have Xt:=aa (pL Ck.ae g4 (Nat.le_refl _) (λ q hq=>(zU.ae.lt hq).2.1))
         clear o4 g4))
      go_roundw
      case rel=>
       refine⟨k+1,cl++ [⟨RA,L,rc⟩],hlt,by go_num,O4.ae,ZeY,by simp[HFN.ae],?_,?_,Xt.ae⟩
       ·rw[Pt.ae,mL.ae];exact B4.ae
       ·intro h0;rw[Pt.ae,mL.ae] at h0;exact absurd (Tc h0).2 auD.ae
      case measure=>exact Za1
    ·have Nl:m=x.ss.length:=by omega
     subst Nl;have HTT:=aa (show x.ss.take x.ss.length=x.ss from take_length);have mL:=aa (show cL (x.ss.map gD)=0 from Ja λ a ha=>JO.ae a (by rw[HTT.ae];exact ha));have HVc:=aa (show aI aV 44 3 wr wo.heap.size u21 (x.key++(x.ss.map gD).map (·.1)) by have h3:=HI.ae;rwa [HTT.ae] at h3);have HBc:=Gi;have HGc:=tD;generalize x.key++(x.ss.map gD).map (·.1)=L at*;rw[<- SL];clear HI Gi tD Ek hm;obtain⟨RA,rc,Gs,_⟩:=HVc.ae.reads;subst Gs;go_upto_region 36 with fail
     have Lw:=ah wr (.cells #[.slice RA L.length rc] 38);have Ly:=aB.new wr 38 #[.slice RA L.length rc];have zU:=aa ((IH.ae.grown HGc.ae (IH.ae.other Q3.ae Tab)).later Lw);have HM7:=aa (show Mine _ w.heap.size cl from Mine.later (λ r hr=>(Q1.ae r hr).grown HGc.ae ((Q1.ae r hr).other Q3.ae Tab)) Lw);have mG:=aa (HVc.ae.later Lw);have Jo:=aa (HBc.ae.later Lw);have Ck:=aa (show w.grownBy _ (some gb)from aY (aY Q5.ae HGc.ae) (aR Lw));have Gc:=aa Ly;have hbase:=Ck.ae.size;have HWO:=aa Q5.ae.size;have auH:=HFN.ae;clear Lw Ly;go_wp2_with (first
      |(at_builtin
        refine aU rfl (.tmp 156) (.tmp 158) 29 rfl _ 24 Tryz.underlying29 qY rfl WC (⟨RA,L,rc⟩:aW) rfl TaC rfl zU.ae wr.heap.size rfl Gc.ae WC WC hbase ?_
        intro v4 w4 o4 g4
        have O4:=aa o4
        have B4:=aa (Jo.ae.ku zU.ae Tab g4)
        have V4:=aa (mG.ae.past zU.ae Tab g4)
        have M4:=aa (HM7.ae.grown zU.ae g4)
        have Xt:=aa (pL Ck.ae g4 (Nat.le_refl _) (λ q hq=>(zU.ae.lt hq).2.1))
        clear o4 g4))
     go_roundw
     case rel=>
      refine⟨k+1,cl++ [⟨RA,L,rc⟩],hlt,by go_num,O4.ae,ZeY,by simp[HFN.ae],?_,?_,Xt.ae⟩
      ·rw[Pt.ae,mL.ae,BD];exact B4.ae
      ·intro h0;rw[Pt.ae] at h0;rw[map_append,Q4.ae (Tc h0).1,VD.ae];rfl
     case measure=>exact Za1
  ·have fH:k=xs.length:=by omega
   subst fH;have HTT:=aa (show xs.take xs.length=xs from take_length);have Q3:=aa (show aB wr gb 84 #[af (qm xs)] by have h1:=Q3.ae;rwa [HTT.ae] at h1);have Q4:=aa (show qm xs=0->cl.map (·.l)=Ev xs by have h1:=Q4.ae;rwa [HTT.ae] at h1);have HHA:=aa (show∀a W ov cl,a.defers=d->a.tmps.getD 4 undef=ov->a.tmps.getD 5 undef=af (qm xs)->aI ck 38 1 W w.heap.size ov cl->Mine W w.heap.size cl->(qm xs=0->cl.map (·.l)=Ev xs)->w.grownBy W (some gb)->Q .ret a W from HH.ae);generalize qm xs=FC at*;go_upto_region 38 with fail;refine bC 5 (abI u18 gb FC) (BF _ _ _) Taa Taa Taa ?_ ?_
   ·exact ZeJ
   intro W3 hL;simp only[Uab];rintro a0 - a1 - a2 - a3 q9 FA Us;replace q9:u18=a3:=Eq.symm q9;open zhY in exact Zgo
theorem Gt (m:Nat):(Builtin.zeroCells (Value.pointer none).cells m)=(List.replicate m (Value.pointer none)).toArray:=by
 apply Array.ext
 ·simp[Builtin.zeroCells,Value.cells]
 ·intro i h1 h2;simp[Builtin.zeroCells,Value.cells,Nat.mod_one]
variable{ops:Array Oper}{rest:List Oper}{ac:Act}{Q:Exit->Act->World->Prop}
theorem wK{o:Oper}   (hgd:o.guard=none)(s x:Operand)
  (ho:o.op=.call { callee:=.builtin .append,args:= #[s,x],argTypes:= #[134,3] }) (g k cap m:Nat) (hs:ac.eval s=aH g k cap) (hx:ac.eval x=af m)
  (olds:List Value) (VE:olds.length=k) (hc:∀(j:Nat) v,olds[j]?=some v->w.cell? ⟨g,j,none⟩=some v) (h0:0 < m) (hg:cap < k+m) (uq:k+m<=1000001)
  (h:∀w' C,aB w' w.heap.size 135 (olds++List.replicate (C - k) (Value.pointer none)).toArray->k+m<=C->C<=maxLen->aj w w'->wpList Tryz.prog ops Q rest (ac.put o.dst (aH w.heap.size (k+m) C)) w'):wpList Tryz.prog ops Q (o::rest) ac w:=by
 obtain⟨i0,kZ,hz0,hz1,hz2⟩:=info_parts Cp
 have hold:(Builtin.firstCells i0.size k (aH g k cap)).run Tryz.prog w.drew=.ok olds.toArray w.drew:=by
  refine run_firstCells_some w.drew i0.size k ⟨g,0,none⟩ k cap olds (by rw[hz1,VE];omega) λ j v hj=>?_
  rw[PD,Nat.zero_add];exact hc j v hj
 have hrun:=Lib.run_append_grow_zeros w 134 3 o.type 135 i0 _ .i64 .i64 Tryz.underlying134 Tryz.underlying3 kZ hz0 (some ⟨g,0,none⟩) k cap olds hold m h0 (by rw[hz1];omega) hg WC (by rw[hz2];omega) (growslice_fits hg (by rw[hz2];omega));have vt:=grownCap_ge w (k+m) cap 135;have hle:=grownCap_le_maxLen w (k+m) cap 135 Tan;generalize grownCap w (k+m) cap 135=C at*;have he:olds.toArray++Builtin.zeroCells (Value.pointer none).cells m++Builtin.zeroCells (Value.pointer none).cells (C - (k+m))=(olds++List.replicate (C - k) (Value.pointer none)).toArray:=by rw[Gt,Gt];apply Array.ext';simp only[Array.toList_append,toList_toArray,append_assoc,replicate_append_replicate];rw[show m+(C - (k+m))=C - k by omega]
 rw[he] at hrun;refine wpList_plain hgd λ K hK=>?_
 unfold Oper.wp;simp[execOp,ho,resolve,invoke,builtin,hs,hx,hrun,Result.andThen];have hb:aj w (w.drew.alloc (.cells (olds++List.replicate (C - k) (Value.pointer none)).toArray 135)):=(show aj w w.drew from⟨rfl,rfl,rfl,Nat.le_refl _,λ _ _=>rfl⟩).alloc (Nat.le_refl _) _;exact hK _ _ (h _ C (aB.new w.drew _ _) vt hle hb)
def ahY (e g n C cap k:Nat):Nat->World->Value->Prop
 | 0,_,v=>v=aH e (n+1) C
 | 1,_,v=>v=af k
 | 2,_,v=>v=af 1
 | 3,_,v=>v=af (k+1)
 | 4,_,v=>v=.slice (some ⟨e,k+1,none⟩) (n+1 - (k+1)) (C - (k+1))
 | 5,_,v=>v=aH g n cap
 | 6,_,v=>v=af k
 | 7,_,v=>v=.slice (some ⟨g,k,none⟩) (n - k) (cap - k)
 | _,_,_=>False
theorem Qn (e g n C cap k:Nat):∀i w w' v,ahY e g n C cap k i w v->ai w w'->ahY e g n C cap k i w' v:=by exact Zgi
theorem zhf.KbT(h:p:=by
 have B3:g≠e:=by have h1:=TW.ae.lt;have h2:=HE.ae;omega
 have Av:c2.size=C:=by have h1:=aop.ae;have h2:=qE.ae;rw[h1];simp only[size_toArray,toList_toArray,length_append,length_take,length_drop,length_replicate,length_singleton];omega
 have q5:((gs.drop k).map eT).length=n - k:=by rw[length_map,length_drop,<- HN.ae]
 have ve:=aa (HG2.ae.later hL);have Tp:w.grownBy W3 (some e):=aY (aY (aR um.ae) auI.ae) (aR hL);have q4:∀(j:Nat) v,((gs.drop k).map eT)[j]?=some v->W3.cell? ((⟨g,k,none⟩:Addr).add j)=some v:=λ j v hj=>by rw[PD,bI (Tp.block g TW.ae.lt (λ e2=>by injection e2 with e2;exact B3 e2))];refine Nt.ae (k+j) v ?_;rw[getElem?_map,getElem?_drop,<- getElem?_map] at hj;exact hj
 have Q4:=aa q4;have Q5:=aa q5;have oz:=aa Av;have E1:=aa Tp;have Ai:=aa B3;clear hL q4 q5 Av Tp B3;refine ja rfl (.tmp 50) (.tmp 53) rfl e (k+1) c2 ⟨g,k,none⟩ ((gs.drop k).map eT) _ _ _ _ rfl rfl ve.ae (by rw[Q5.ae,oz.ae];omega) (by rw[Q5.ae];simp only[Nat.min_def];split <;> omega) Q4.ae (Ay _) ?_;intro W4 u4 hg4 Vm;have JO:=aa hg4;have ahE:=aa (aY E1.ae Vm);clear hg4 Vm;go_wp2_with fail;go_ret;have hen:=HE.ae;have ug:=HN.ae;have hcc:=DZ.ae;have auJ:=aop.ae;have Td:=qE.ae;have q5:=Q5.ae;have hsz:=oz.ae;have Lj:w.grownBy W4 (Value.slice (some ⟨g,0,none⟩) n cap).ownBlock:=by have hg:=ahE.ae;rw[fB];refine⟨hg.os,hg.tape,hg.output,hg.size,λ q hq _=>hg.block q hq λ e2=>?_⟩;injection e2 with e2;omega
 refine⟨_,rfl,⟨?_,.inr ⟨e,C,_,?_,by rw[hen];exact HBG.ae,JO.ae,?_,hcc,?_,?_⟩⟩,Lj⟩
 ·simp[rH,cY]
 ·congr 1;simp;omega
 ·simp;omega
 ·simp only[size_toArray,length_append,length_take,length_drop,Array.length_toList,q5,hsz];omega
 ·obtain⟨R,hR⟩:∃R,R=c2.toList.drop (k+1+((gs.drop k).map eT).length):=⟨_,rfl⟩;rw[<- hR];have e0:c2.toList.take (k+1)=(gs.take k).map eT++ [eT x]:=by rw[auJ];simp only[toList_toArray];rw[take_left' Td,<- append_assoc];exact take_left' (by rw[length_append,Td];rfl)
  rw[rH,toList_toArray,e0,Nat.mul_one];have e3:(gs.take k).map eT++ [eT x]++((gs.drop k).map eT++R)=(gs.take k++x::gs.drop k).map eT++R:=by simp
  exact ZgD):p:=h
theorem Ms (gs:List Nat)(x k:Nat)(g cap base vb:Nat)(cur:Array Value)(w:World)(hl:gs.length<=1000000)(hk:k < gs.length)(hbg:base<=w.heap.size)(hg:aB w g 135 cur)(hle:gs.length<=cap)(hroom:cap < gs.length+1)(hsz:cur.size=cap)(lU:cur.toList.take gs.length=gs.map eT)(hv:aB w vb 135 #[aw x]):
  ar 66 #[aH g gs.length cap,af k,aH vb 1 1] w (Az (aH g gs.length cap) base (gs.take k++x::gs.drop k) w):=by
 obtain⟨n,ug⟩:∃n,n=gs.length:=⟨_,rfl⟩;have HN:=aa ug;rw[<- ug] at hl hk hroom lU hle ⊢;have Vl:=λ u=>iC (some ⟨g,0,none⟩) n cap k WC u
 have anp:=λ u=>Cq (some ⟨g,0,none⟩) n cap k WC u
 have PO:=Vl;rw[if_neg WC] at Vl PO;simp only[Option.map_some,et,Nat.mul_one,Nat.zero_add] at Vl PO;have mixed:Tryz.prog.follows .mixedOrders=true:=by kernel_rfl
 have t1:((k:Int)==(n:Int))=false:=by simp;omega
 have t2:decide ((cap:Int)<(n:Int)+1)=true:=decide_eq_true WC;have zc:((n:Int)+1) - (k:Int)=((n+1 - k:Nat):Int):=by omega
 have hcell:∀(j:Nat) v,(gs.map eT)[j]?=some v->w.cell? ⟨g,j,none⟩=some v:=λ j v hj=>by
  rw[hg.cell,<- Array.getElem?_toList];have e:(cur.toList.take n)[j]?=some v:=by rw[lU];exact hj
  rw[getElem?_take] at e;split at e
  ·exact e
  ·cases e
 have Nt:=aa hcell;have TW:=aa hg;have HV:=aa hv;have HBG:=aa hbg;have qE:=aa (show((gs.take k).map eT).length=k by rw[length_map,length_take];omega);have HTC:=aa (show∀(j:Nat) v,((gs.take k).map eT)[j]?=some v->w.cell? ⟨g,j,none⟩=some v from λ j v hj=>hcell j v (by
  rw[map_take,getElem?_take] at hj
  split at hj
  ·exact hj
  ·cases hj))
 clear hg hv lU hsz ug hcell hbg;go_enter Tryz.func66,Tryz.ntmps66;go_wp2_with (first
  |(simp only[zc])
  |(at_builtin
    refine wK rfl (.tmp 34) (.tmp 39) rfl g k cap (n+1 - k) rfl rfl ((gs.take k).map eT) qE.ae HTC.ae WC WC WC ?_
    intro w1 C hb1 hC1 hC2 Lj
    have e1:k+(n+1 - k)=n+1:=by omega
    rw[e1] at*
    have eL:=aa hb1
    have DZ:=aa hC2
    have um:=aa Lj
    have Er:=λ u=>iC (some ⟨w.heap.size,0,none⟩) (n+1) C (k+1) WC u
    have ahZ:=λ u=>iC (some ⟨w.heap.size,0,none⟩) (n+1) C k WC u
    rw[if_neg WC] at Er ahZ
    simp only[Option.map_some,et,Nat.mul_one,Nat.zero_add] at Er ahZ
    push_cast at Er
    obtain⟨e,he⟩:∃e,e=w.heap.size:=⟨_,rfl⟩
    have HE:=aa he
    rw[<- he] at eL Er ahZ ⊢
    have HX:=aa (show∀(j:Nat) v,[eT x][j]?=some v->w1.cell? ((⟨vb,0,none⟩:Addr).add j)=some v from λ j v hj=>by
     rw[PD,Nat.zero_add,(HV.ae.later um.ae).cell]
     simpa [eT] using hj)
    clear hb1 hC2 Lj he e1)
  |(refine ja rfl (.tmp 43) (.tmp 44) rfl e k _ ⟨vb,0,none⟩ [eT x] _ _ _ _ rfl rfl eL.ae (by have:=qE.ae;simp only[size_toArray,length_append,length_replicate,length_singleton];omega) TaQ HX.ae (Ay [x]) ?_
    intro W2 u2 hg2 aoo
    obtain⟨c2,hc2⟩:∃c2:Array Value,c2=((((gs.take k).map eT++List.replicate (C - k) (Value.pointer none)).toArray.toList.take k)++([eT x]++(((gs.take k).map eT++List.replicate (C - k) (Value.pointer none)).toArray.toList.drop (k+ [eT x].length)))).toArray:=⟨_,rfl⟩
    have HG2:=aa (show aB W2 e 135 c2 from hc2▸hg2)
    have aop:=aa hc2
    have auI:=aa aoo
    clear hg2 aoo hc2))
 refine bC 8 (ahY e g n C cap k) (Qn _ _ _ _ _ _) Taa Taa Taa ?_ ?_
 ·exact Zbo
 open zhf in exact ZeX
theorem Qo (gs:List Nat)(x k:Nat)(lv:Value)(base vb:Nat)(w:World)(hl:gs.length<=1000000)(hk:k<=gs.length)(hO:aI cY 135 1 w base lv gs)(hv:aB w vb 135 #[aw x])(hbase:base<=w.heap.size)(hne:lv.ownBlock≠some vb):
  ar 66 #[lv,af k,aH vb 1 1] w (Az lv base (gs.take k++x::gs.drop k) w):=by
 rcases Nat.lt_or_ge k gs.length with hlt | vt
 ·obtain⟨h1,h2 |⟨g,cap,cur,rfl,hbg,hg,hlc,hm,hsz,lU⟩⟩:=hO
  ·obtain⟨_,h2⟩:=h2;omega
  ·rw[rH,Nat.mul_one] at lU;rw[Nat.mul_one] at hsz;rcases Nat.lt_or_ge cap (gs.length+1)with hc | hc
   ·exact Ms gs x k g cap base vb cur w hl hlt hbase hg hlc hc hsz lU hv
   ·exact Md gs x k g cap base vb cur w hl hlt hbg hg hc hm hsz lU hv (λ e=>hne (by rw[e];rfl))
 ·have fH:k=gs.length:=by omega
  subst fH;rw[take_length,drop_length];exact PM gs x lv base vb w hl hO hv hbase
variable{α:Type}
def exE:Except Int α->Int
 | .error e=>e
 | .ok _=>0
def ur:Except Int α->Option α
 | .ok x=>some x
 | .error _=>none
theorem Mt(l:List (Except Int α)):Ee l=if dx (l.map exE)≠0 then .error (dx (l.map exE))else .ok (l.filterMap ur):=rfl
variable{q:Qy}{cols:List aX}
theorem uJ{p:ji}(h:dS q cols=.ok p):p.aK=q.aK/\(q.items=[]->q.aK=false)/\∃gc hd s1 s2,pj cols q.cD=.ok ()/\kO cols q.aL 0=.ok gc/\dm q.aK q.aL cols q.items ⟨[],gc⟩=.ok (p.items,hd,s1)/\dz q.aK q.aL cols q.eU s1=.ok (p.having,s2)/\eu q.aK q.aL cols q.ord s2=.ok (p.order,p.st)/\p.head=if q.items=[] then cols else hd:=by
 unfold dS at h;split at h
 ·cases h
 split at h
 ·cases h
 split at h
 ·cases h
 rename_i hw;split at h
 ·cases h
 rename_i gc hgc;split at h
 ·cases h
 rename_i hni;split at h
 ·cases h
 rename_i is hd s1 hi;split at h
 ·cases h
 rename_i hs s2 hh;split at h
 ·cases h
 rename_i os s3 ho;injection h with h;subst h;refine⟨rfl,λ he=>?_,gc,hd,s1,s2,hw,hgc,hi,hh,ho,rfl⟩
 cases hg:q.aK with
 | false=>rfl
 | true=>exact absurd ⟨he,hg⟩ hni
variable{aL:List Tr}
theorem ym{g:Bool}  :∀ {l:List (Tr×ByteArray)} {s:dy} {ys:List Tr} {hd:List aX} {s':dy},dm g aL cols l s=.ok (ys,hd,s')->ys.length=l.length
 | [],s,ys,hd,s',h=>by unfold dm at h;injection h with h;injection h with h1 _;rw[<- h1];rfl
 |(t,nm)::l,s,ys,hd,s',h=>by
  unfold dm at h;split at h
  ·cases h
  split at h
  ·cases h
  rename_i hi;injection h with h;injection h with h1 _;rw[<- h1,length_cons,ym hi,length_cons]
def Mu (p:ji)(over:List aX)(r:List Val):Except Int fk:=match bB over r (p.items++p.order)with
 | .error e=> .error e
 | .ok l=> .ok (RZ p r l)
theorem VF (p:ji)(cols:List aX)(rows:List (List Val)):uh p cols rows=Ee (rows.map (Mu p (iO p cols))):=rfl
def fV (ng:Nat)(aJ:List Tr)(ls:List (List Val)):List (List Val×List (Val×Val)):=ls.map λ l=>(l.take ng,gS aJ (l.drop ng))
structure od (ng:Nat) (aJ:List Tr) (xs:List gG) (ks ls:List (List Val)):Prop where
 keys:xs.map gG.key=fp ng (ks.map λ l=>l.take ng)
 qD:∀x∈xs,x.ss=dT (aJ.map Tr.op) (fV ng aJ ls) x.key
variable{ng:Nat}{ks ls:List (List Val)}{i:Nat}{x:gG}
theorem od.get{aJ:List Tr}  (h:od ng aJ xs ks ls)  (hx:xs[i]?=some x):(fp ng (ks.map λ l=>l.take ng))[i]?=some x.key:=by rw[<- h.keys,getElem?_map,hx];rfl
variable{j:Nat}{y:gG}
theorem od.less{aJ:List Tr}  (h:od ng aJ xs ks ls)  (hx:xs[i]?=some x)(hy:xs[j]?=some y)(nP:i < j):bX x.key y.key < 0:=by have hp:=E5 ng (ks.map λ l=>l.take ng);have e1:=h.get hx;have e2:=h.get hy;rw[pairwise_iff_getElem] at hp;obtain⟨i1,i2⟩:=List.getElem?_eq_some_iff.1 e1;obtain⟨j1,j2⟩:=List.getElem?_eq_some_iff.1 e2;have:=hp i j i1 j1 nP;rwa [i2,j2] at this
variable{l:List Val}
theorem od.there{aJ:List Tr}     (h:od ng aJ xs ls ls)(hx:xs[j]?=some x)(hk:x.key=l.take ng):od ng aJ xs (ls++ [l]) ls:=by
 refine⟨?_,h.qD⟩;rw[h.keys,map_append];unfold fp;by_cases h0:ng=0
 ·rw[if_pos h0,if_pos h0]
 ·rw[if_neg h0,if_neg h0];show _=iN ((ls.map λ l=>l.take ng)++ [l.take ng]);rw[Cx];have CU:=h.keys;unfold fp at CU;rw[if_neg h0] at CU;rw[<- CU];refine(Cw (j:=j) (x:=x.key) (λ i y hi hy=>?_) (by rw[getElem?_map,hx];rfl) (by rw[hk];exact sB _)).symm;rw[getElem?_map] at hy
  cases hz:xs[i]? with
  | none=>rw[hz] at hy;cases hy
  | some z=>rw[hz] at hy;injection hy with hy;rw[<- hy,<- hk];exact h.less hz hx hi
theorem od.new{aJ:List Tr}     (h:od ng aJ xs ls ls)(hj:j<=xs.length)(fG:∀i y,i < j->xs[i]?=some y->bX y.key (l.take ng)< 0)(hhi:∀y,xs[j]?=some y->0 < bX y.key (l.take ng))(h0:ng≠0)(hk:x.key=l.take ng)(hs:x.ss=(aJ.map Tr.op).map fh):od ng aJ (xs.take j++x::xs.drop j) (ls++ [l]) ls:=by
 have hne:∀y∈xs,bX y.key (l.take ng)≠0:=by
  intro y hy;obtain⟨i,hi,rfl⟩:=getElem_of_mem hy;have fM:xs[i]?=some xs[i]:=getElem?_eq_getElem hi;rcases Nat.lt_trichotomy i j with h1 | h1 | h1
  ·have:=fG i _ h1 fM;omega
  ·subst h1;have:=hhi _ fM;omega
  ·have hj2:j < xs.length:=by omega
   have a1:=hhi _ (getElem?_eq_getElem hj2);have a2:=h.less (getElem?_eq_getElem hj2) fM h1;intro e;have e2:=iL _ _ e;rw[e2] at a2;omega
 refine⟨?_,λ y hy=>?_⟩
 ·unfold fp;rw[if_neg h0,map_append (l₁:=ls)];show _=iN ((ls.map λ l=>l.take ng)++ [l.take ng]);have CU:=h.keys;unfold fp at CU;rw[if_neg h0] at CU;rw[Cx,<- CU,Me (j:=j) (by rw[length_map];exact hj) ?_ ?_,map_append,map_cons,map_take,map_drop,hk]
  ·intro i y hi hy;rw[getElem?_map] at hy
   cases hz:xs[i]? with
   | none=>rw[hz] at hy;cases hy
   | some z=>rw[hz] at hy;injection hy with hy;rw[<- hy];exact fG i z hi hz
  ·intro y hy;rw[getElem?_map] at hy
   cases hz:xs[j]? with
   | none=>rw[hz] at hy;cases hy
   | some z=>rw[hz] at hy;injection hy with hy;rw[<- hy];exact hhi z hz
 ·rcases List.mem_append.1 hy with hy | hy
  ·exact h.qD y (mem_of_mem_take hy)
  rcases List.mem_cons.1 hy with rfl | hy
  ·rw[hs];refine(Cy λ q hq=>?_).symm;unfold fV at hq;obtain⟨m,hm,rfl⟩:=List.mem_map.1 hq;have:m.take ng∈xs.map gG.key:=by rw[h.keys];unfold fp;rw[if_neg h0];exact((vP jD iL _).2 _).2 (mem_map_of_mem hm)
   obtain⟨y,hy,e⟩:=List.mem_map.1 this;rw[hk];show bX (m.take ng) (l.take ng)≠0;have e:y.key=m.take ng:=e;rw[<- e];exact hne y hy
  ·exact h.qD y (mem_of_mem_drop hy)
theorem od.feed{aJ:List Tr}     (h:od ng aJ xs (ls++ [l]) ls)(hx:xs[j]?=some x)(hk:x.key=l.take ng):od ng aJ (xs.set j { x with ss:=eA x.ss (gS aJ (l.drop ng))}) (ls++ [l]) (ls++ [l]):=by
 have hj:j < xs.length:=by
  rcases Nat.lt_or_ge j xs.length with h | h
  ·exact h
  ·rw[getElem?_eq_none h] at hx;cases hx
 have hf:fV ng aJ (ls++ [l])=fV ng aJ ls++ [(l.take ng,gS aJ (l.drop ng))]:=by unfold fV;rw[map_append];rfl
 refine⟨?_,λ y hy=>?_⟩
 ·rw[<- h.keys,map_set];exact Cz (by rw[getElem?_map,hx];rfl)
 ·obtain⟨i,hi,he⟩:=getElem_of_mem hy;have Gg:i < xs.length:=by simpa using hi
  rw[getElem_set] at he;by_cases nP:j=i
  ·rw[if_pos nP] at he;subst he;dsimp only;rw[hf,Mf (by rw[hk];exact sB _) (by rw[CC,length_map]),<- h.qD x (mem_of_getElem? hx)];rfl
  ·rw[if_neg nP] at he;subst he;have hi3:xs[i]?=some xs[i]:=getElem?_eq_getElem Gg;rw[hf,IZ ?_]
   ·exact h.qD _ (getElem_mem Gg)
   ·rw[<- hk];intro e;rcases Nat.lt_or_gt_of_ne nP with h1 | h1
    ·have:=h.less hx hi3 h1;omega
    ·have:=h.less hi3 hx h1;have:=jD.jh xs[i].key x.key;omega
theorem rO{k:List Val}(h:k∈fp ng (ls.map λ l=>l.take ng)):k.length<=ng:=by
 unfold fp at h;split at h
 ·simp at h;rw[h];simp
 ·have:=((vP jD iL _).2 _).1 h;obtain⟨l,_,rfl⟩:=List.mem_map.1 this;exact length_take_le _ _
theorem Jm (op:Int):∀l:List (Val×Val),0<=cnt op l/\cnt op l<=l.length
 | []=>by simp[cnt]
 | x::l=>by
   have h:=Jm op l;have h1:0<=one op x/\one op x<=1:=by unfold one;split <;>(try split)<;>(try split)<;> omega
   simp only[cnt,length_cons];omega
variable{op:Int}{s:St}
theorem I5(h0:21<=op)(h1:op<=28) {l:List (Val×Val)} (r:Ot op s l)(hl:l.length<=1000000):s.Ok:=by
 have:=Jm op l;have:=r.count;have:=r.all;have hs:=r.sum;refine⟨by rw[r.kind];exact h0,by rw[r.kind];exact h1,by omega,by omega,by omega,by omega,?_,?_⟩
 ·rw[hs];unfold M;omega
 ·rw[hs];unfold M;omega
theorem uK{ops:List Int}(kI:∀op∈ops,isAgg op=true) {ps:List (List Val×List (Val×Val))} {k:List Val}(hp:ps.length<=300):∀s∈dT ops ps k,(s.Ok/\s.all < 4611686018427387904)/\∃v e,gH s v e:=by intro s hs;obtain⟨op,l,ho,hl,rfl⟩:=Vs kI s hs;have oI:=kI op ho;unfold isAgg at oI;simp only[Bool.and_eq_true,decide_eq_true_eq] at oI;have r:=Am oI.1 oI.2 l;have ok:=I5 oI.1 oI.2 r WC;have:=Jm op l;have:=r.count;have ha:=r.all;exact⟨⟨ok,by omega⟩,agA _ ok WC⟩
def np:Except Int (List Val)->Int
 | .error e=>e
 | .ok _=>0
variable{row:List Val}{ts:List Tr}
theorem Gu(h:bB cols row ts=.error e):e≠0:=by
 unfold bB at h;split at h
 ·rename_i hne;injection h with h;rw[<- h];exact hne
 ·cases h
theorem CV(h:bB cols row ts=.ok l):l.length=ts.length:=by
 unfold bB at h;split at h
 ·cases h
 ·injection h with h;rw[<- h,length_map,Tr.oK]
def fq (cols:List aX)(ts:List Tr)(rs:List aW):List (List Val):=rs.filterMap λ r=>match bB cols r.l ts with | .ok l=>some l | .error _=>none
def dZ (cols:List aX)(ts:List Tr)(rs:List aW):Int:=dx (rs.map λ r=>np (bB cols r.l ts))
variable{rs:List aW}
theorem CW(h:k < rs.length):fq cols ts (rs.take (k+1))=fq cols ts (rs.take k)++(match bB cols rs[k].l ts with | .ok l=> [l] | .error _=> [])/\dZ cols ts (rs.take (k+1))=tx (dZ cols ts (rs.take k)) (np (bB cols rs[k].l ts)):=by
 have e:rs.take (k+1)=rs.take k++ [rs[k]]:=by rw[take_add_one,getElem?_eq_getElem h];rfl
 unfold fq dZ;rw[e,filterMap_append,map_append];refine⟨?_,qZ _ _⟩;congr 1;rw[filterMap_cons,filterMap_nil];cases bB cols rs[k].l ts <;> rfl
theorem uL (cols:List aX)(ts:List Tr)(rs:List aW):(fq cols ts rs).length<=rs.length:=length_filterMap_le _ _
theorem VG(h:l∈fq cols ts rs):∃r∈rs,bB cols r.l ts=.ok l:=by
 unfold fq at h;obtain⟨r,hr,e⟩:=List.mem_filterMap.1 h;refine⟨r,hr,?_⟩
 cases hw:bB cols r.l ts with
 | error e2=>rw[hw] at e;cases e
 | ok m=>rw[hw] at e;injection e with e;rw[e]
theorem CX(hr:∀v∈row,v.Ok)(ht:Tr.cN ts)(h:bB cols row ts=.ok l):∀v∈l,v.Ok:=by
 unfold bB at h;split at h
 ·cases h
 ·injection h with h;rw[<- h];intro v hv;obtain⟨z,hz,rfl⟩:=List.mem_map.1 hv;exact Tr.vE cols row hr ts ht z hz
variable{B':Nat}{qs:List Nat}{ss:List St}
theorem dE.down(h:dE w B qs ss)(hB:B'<=B):dE w B' qs ss:=⟨h.len,h.at_,λ q hq=>⟨Nat.le_trans hB (h.low q hq).1,(h.low q hq).2⟩,h.apart⟩
variable{A:Option Addr}
theorem bM.take(h:bM w A l)(n:Nat):bM w A (l.take n):=⟨h.rv.E4 n,h.ty⟩
variable{w':World}{v:Value}
theorem aI.turn{f:α->List Value} {e:TypeId} {size base:Nat}   {l:List α}  (h:aI f e size w base v l)(ht:pD w w' qs)(hs:dE w B qs ss)(he:e≠199):aI f e size w' base v l:=h.keep λ g hg=>by obtain⟨h1,_,cur,hc⟩:=h.lt hg;exact ht.block g h1 (hs.tQ (show aB w g e cur from hc) he)
theorem afx(h:xs[j]?=some x):(xs.set j { x with ss:=ss }).map gG.g=xs.map gG.g:=by rw[map_set];exact Cz (by rw[getElem?_map,h];rfl)
structure CY (w:World) (gp:Nat) (aL aJ:List Tr) (cols:List aX) (yg ya:List Ex) (GA:Option Addr) (gc:Nat) (CA:Option Addr) (cc:Nat) (AA:Option Addr) (ac:Nat):Prop where
 lt:gp < w.heap.size
 c4:w.cell? ⟨gp,4,none⟩=some (.slice GA yg.length gc)
 c8:w.cell? ⟨gp,8,none⟩=some (.slice CA cols.length cc)
 c9:w.cell? ⟨gp,9,none⟩=some (.slice AA ya.length ac)
 rg:RE w w.heap.size GA yg
 tg:Tr.aO w (Old w) aL yg
 ra:RE w w.heap.size AA ya
 ta:Tr.aO w (Old w) aJ ya
 rc:RC w w.heap.size CA cols
variable{gp:Nat}{yg ya:List Ex}{GA:Option Addr}{gc:Nat}{CA:Option Addr}{cc:Nat}{AA:Option Addr}
theorem CY.later{aJ:List Tr}        {ac:Nat}(h:CY w gp aL aJ cols yg ya GA gc CA cc AA ac)(hb:aj w w'):CY w' gp aL aJ cols yg ya GA gc CA cc AA ac:=
 ⟨Nat.lt_of_lt_of_le h.lt hb.size,(hb.cell (p:=⟨gp,4,none⟩) h.lt).trans h.c4,(hb.cell (p:=⟨gp,8,none⟩) h.lt).trans h.c8,(hb.cell (p:=⟨gp,9,none⟩) h.lt).trans h.c9,h.rg.later hb,Tr.aO.later h.tg hb,h.ra.later hb,Tr.aO.later h.ta hb,h.rc.later hb⟩
variable{n c:Nat}{ys:List Ex}
theorem acG{base:Nat}  (h:aI bH 46 7 w base (.slice A n c) ys):RE w w.heap.size A ys:=by obtain⟨A2,c2,e,_,h1⟩:=pI h (S:=Old w) (λ q hq=>(h.lt hq).1);injection e with e _ _;subst e;exact ZcU
theorem rP{base:Nat}  (h:aI bH 46 7 w base v ys):∃A c,v=.slice A ys.length c/\RE w w.heap.size A ys:=by obtain⟨A,c,e,_,h1⟩:=pI h (S:=Old w) (λ q hq=>(h.lt hq).1);refine⟨A,c,e,?_⟩;exact ZcU
def uM (w:World)(B0:Nat)(v:Value)(E:List Ex):Prop:=aI bH 46 7 w B0 v E
variable{B0:Nat}{E:List Ex}
theorem uM.later(h:uM w B0 v E)(hb:ai w w'):uM w' B0 v E:=aI.later h hb
def nH (res:Except Int (List Val))(w:World)(B0:Nat)(v0 v1:Value):Prop:=match res with
 | .error er=>v0=az/\v1=af er
 | .ok l=>v1=af 0/\aI aV 44 3 w B0 v0 l
variable{res:Except Int (List Val)}{v0 v1:Value}
theorem nH.later(h:nH res w B0 v0 v1)(hb:ai w w'):nH res w' B0 v0 v1:=by
 cases res with
 | error er=>exact h
 | ok l=>exact⟨h.1,aI.later h.2 hb⟩
theorem nH.err(h:nH res w B0 v0 v1):v1=af (np res):=by
 cases res with
 | error er=>exact h.2
 | ok l=>exact h.1
def aia (gp:Nat)(GA:Option Addr)(gn gc:Nat)(I6:Option Addr)(en I7:Nat)(CA:Option Addr)(cn cc:Nat)(RA:Option Addr)(rn rc:Nat)(E:List Ex)(B0:Nat)(res:Except Int (List Val)):Nat->World->Value->Prop
 | 0,_,v=>v=aw gp
 | 1,_,v=>v=aw gp
 | 2,_,v=>v=aw gp
 | 3,_,v=>v=bh gp 4
 | 4,_,v=>v=.slice GA gn gc
 | 5,_,v=>v=.slice I6 en I7
 | 6,w,v=>∃gB:Nat,v=aH gB 2 2/\aB w gB 23 #[.slice GA gn gc,.slice I6 en I7]
 | 7,w,v=>∃v7:Value,v=v7/\uM w B0 v7 E
 | 8,_,v=>v=aw gp
 | 9,_,v=>v=aw gp
 | 10,_,v=>v=bh gp 8
 | 11,_,v=>v=.slice CA cn cc
 | 12,_,v=>v=.slice RA rn rc
 | 13,w,v=>∃x0 x1:Value,v=.tuple #[x0,x1]/\nH res w B0 x0 x1
 | 14,w,v=>∃x0 x1:Value,v=.tuple #[x0,x1]/\nH res w B0 x0 x1
 | 15,w,v=>∃x0 x1:Value,v=x0/\nH res w B0 x0 x1
 | 16,_,v=>v=af (np res)
 | 17,w,v=>∃x0 x1:Value,v=x0/\nH res w B0 x0 x1
 | _,_,_=>False
theorem Qp (gp:Nat)(GA:Option Addr)(gn gc:Nat)(I6:Option Addr)(en I7:Nat)(CA:Option Addr)(cn cc:Nat)(RA:Option Addr)(rn rc:Nat)(E:List Ex)(B0:Nat)(res:Except Int (List Val)):∀i w w' v,aia gp GA gn gc I6 en I7 CA cn cc RA rn rc E B0 res i w v->ai w w'->aia gp GA gn gc I6 en I7 CA cn cc RA rn rc E B0 res i w' v:=by
 intro i w w' v h hl
 match i with
 | 0 | 1 | 2 | 3 | 4 | 5 | 8 | 9 | 10 | 11 | 12 | 16=>exact h
 | 6=>obtain⟨gB,h1,f0⟩:=h;exact⟨gB,h1,f0.later hl⟩
 | 7=>obtain⟨v7,h1,f0⟩:=h;exact⟨v7,h1,f0.later hl⟩
 | 13=>exact Zb3
 | 14=>exact Zb3
 | 15=>exact Zb3
 | 17=>exact Zb3
 | n+18=>exact h
def aib (gp:Nat)(GA:Option Addr)(gn gc:Nat)(XA:Option Addr)(xn xc:Nat):Nat->World->Value->Prop
 | 0,_,v=>v=.slice XA xn xc
 | 1,_,v=>v=aw gp
 | 2,_,v=>v=aw gp
 | 3,_,v=>v=aw gp
 | 4,_,v=>v=bh gp 4
 | 5,_,v=>v=.slice GA gn gc
 | 6,_,v=>v=af gn
 | 7,_,v=>v=aw gp
 | 8,_,v=>v=aw gp
 | 9,_,v=>v=aw gp
 | 10,_,v=>v=bh gp 4
 | 11,_,v=>v=.slice GA gn gc
 | 12,_,v=>v=af gn
 | 13,_,v=>v=.slice XA gn gn
 | _,_,_=>False
theorem Qq (gp:Nat)(GA:Option Addr)(gn gc:Nat)(XA:Option Addr)(xn xc:Nat):∀i w w' v,aib gp GA gn gc XA xn xc i w v->ai w w'->aib gp GA gn gc XA xn xc i w' v:=by
 intro i w w' v h hl
 match i with
 | 0 | 1 | 2 | 3 | 4 | 5 | 6 | 7 | 8 | 9 | 10 | 11 | 12 | 13=>exact h
 | n+14=>exact h
def acH (gp lb ln lc j q:Nat)(XA:Option Addr)(xn xc gn:Nat):Nat->World->Value->Prop
 | 0,_,v=>v=aw gp
 | 1,_,v=>v=aH lb ln lc
 | 2,_,v=>v=af j
 | 3,_,v=>v=bh lb j
 | 4,_,v=>v=aw q
 | 5,_,v=>v=.slice XA xn xc
 | 6,_,v=>v=.slice XA gn gn
 | 7,_,v=>v=af gn
 | 8,_,v=>v=.slice (eQ XA xc gn) (xn - gn) (xc - gn)
 | _,_,_=>False
theorem CZ (gp lb ln lc j q:Nat)(XA:Option Addr)(xn xc gn:Nat):∀i w w' v,acH gp lb ln lc j q XA xn xc gn i w v->ai w w'->acH gp lb ln lc j q XA xn xc gn i w' v:=by
 intro i w w' v h hl
 match i with
 | 0 | 1 | 2 | 3 | 4 | 5 | 6 | 7 | 8=>exact h
 | n+9=>exact h
theorem zin.Kcn(h:p:=by
 refine bC 9 (acH gp lb xs.length lc j q XA xn xc gn) (CZ _ _ _ _ _ _ _ _ _ _) Taa Taa Taa ?_ ?_
 ·exact Za7
 exact Zav):p:=h
theorem zio.Kcn(h:p:=by
 refine bC 9 (acH gp lb xs1.length lc9 j q XA xn xc gn) (CZ _ _ _ _ _ _ _ _ _ _) Taa Taa Taa ?_ ?_
 ·exact Za7
 exact Zav):p:=h
theorem zhM.Kb7(h:p:=by
 have Ck:=aa (Mw.ae.later hL);have HGW:=aa (Vk.ae.later hL);have HKW:=aa (uI.ae.keep hL.size λ b cur hX=>hL.block b hX.lt);clear hL rK zW J3 Mw Vk uI HEW;obtain⟨LA,lc,aZ,hlc,J4⟩:=wD Ck.ae;have aoE:=aa aZ;have hxl:xs.length<=301:=by have h1:=congrArg List.length wI.ae.keys;rw[length_map] at h1;have h2:=xW gn (ls.map λ l=>l.take gn);rw[length_map] at h2;have h3:=HLS.ae;have h4:=DN.ae;omega
 have HXL:=aa hxl;have Ah:(l.take gn).length=gn:=by rw[length_take];have:=xN.ae;have:=ox.ae;omega
 have Xi:=aa Ah;have hng:gn<=1000:=by have:=IH.ae;have:=E1.ae;omega
 have Xw:=aa hng
 have hsr:∀W,aj W6 W->ar 64 #[.slice LA (xs.map gG.g).length lc,.slice XA gn gn,.func (.func 65) #[] #[]] W (Cm (xs.map gG.g).length (λ i=>bX ((xs.map gG.key).getD i []) (l.take gn)) W):=λ W hW=>by
  refine PJ (xs.map gG.g) LA XA lc gn gn (λ i=>bX ((xs.map gG.key).getD i []) (l.take gn)) W (by rw[length_map];omega) (J4.later hW) (λ i hi W2 hW2=>?_) (λ i j nP hj hc=>?_)
  ·rw[length_map] at hi;have hx:=((HGW.ae.later hW).later hW2).at_ xs[i] (getElem_mem hi);have Kx:=hx.blk.cell 0;simp only[getElem?_toArray,getElem?_cons_zero] at Kx;have hk2:=(HKW.ae.keep hW.size λ b cur hX=>hW.block b hX.lt).keep hW2.size λ b cur hX=>hW2.block b hX.lt
   have pR:xs[i].key.length<=gn:=rO (by rw[<- wI.ae.keys];exact mem_map_of_mem (getElem_mem hi));have tM:=PI xs[i].g xs[i].KA XA xs[i].key (l.take gn) xs[i].kc gn W2 hx.blk.lt Kx hx.key.rv (hk2.rv.E4 gn) WC WC;rw[Ah] at tM;simp only[getElem_map,getD_eq_getElem?_getD,getElem?_map,getElem?_eq_getElem hi,Option.map_some,Option.getD_some];exact tM
  ·rw[length_map] at hj;have hi:i < xs.length:=by omega
   simp only[getD_eq_getElem?_getD,getElem?_map,getElem?_eq_getElem hi,getElem?_eq_getElem hj,Option.map_some,Option.getD_some] at hc ⊢;rcases Nat.lt_or_ge i j with h1 | h1
   ·have:=wI.ae.less (getElem?_eq_getElem hi) (getElem?_eq_getElem hj) h1;exact jD.aeG this WC
   ·have e:i=j:=by omega
    subst e;exact hc
 have HSR:=aa (hsr _ (Below.refl _ _));have HLR:=aa J4;rw[length_map] at HSR hlc aoE aZ;have tL:=aa hlc;subst aZ;clear hsr J4 Ah hng hlc aoE;go_wp2_with fail;refine HSR.ae.mono ?_;rintro e w7 ⟨j,hj,rfl,fG,hhi,b7⟩;have HJ:=aa hj;have um:=aa (show∀i y,i < j->xs[i]?=some y->bX y.key (l.take gn)< 0 from λ i y hi hy=>by
  have:=fG i hi
  simpa only[getD_eq_getElem?_getD,getElem?_map,hy,Option.map_some,Option.getD_some] using this)
 have aim:=aa (show∀i y,j<=i->xs[i]?=some y->0<=bX y.key (l.take gn)from λ i y hi hy=>by
  have rZ:i < xs.length:=(List.getElem?_eq_some_iff.1 hy).1
  have:=hhi i hi rZ
  simpa only[getD_eq_getElem?_getD,getElem?_map,hy,Option.map_some,Option.getD_some] using this)
 have Lw:=aa (Below.trans LY.ae (b7.mono LY.ae.size));have pH:=aa (Mg.ae.later b7);have Mx:=aa (DR.ae.later b7);have My:=aa (Ck.ae.later b7);have MY:=aa (HGW.ae.later b7);have Mr:=aa (HKW.ae.keep b7.size λ b cur hX=>b7.block b hX.lt);have ain:=aa (HLR.ae.later b7);clear b7 fG hhi hj LY Mg DR Ck HGW HKW HLR HSR;by_cases hf:j < xs.length/\bX ((xs.map gG.key).getD j []) (l.take gn)=0
 ·obtain⟨hf1,hf2⟩:=hf;have tf:(decide (j < xs.length)&& decide (bX ((xs.map gG.key).getD j []) (l.take gn)=0))=true:=by simp only[decide_eq_true hf1,decide_eq_true hf2,Bool.and_self]
  have HF1:=aa hf1;have HKEY:=aa (show xs[j].key=l.take gn from iL _ _ (by
   have h2:=hf2
   simp only[getD_eq_getElem?_getD,getElem?_map,getElem?_eq_getElem hf1,Option.map_some,Option.getD_some] at h2
   exact h2))
  have HM:=aa (wI.ae.there (getElem?_eq_getElem hf1) HKEY.ae);have hxj:xs[j]?=some xs[j]:=getElem?_eq_getElem hf1;rw[tf];obtain⟨x,hx⟩:∃x,x=xs[j]:=⟨_,rfl⟩;rw[<- hx] at HKEY hxj;have Qx:=aa hxj;have Qz:=Lw;have J5:=pH;have Jo:=Mx;have mG:=My;have Vw:=MY;have HK9:=Mr;have J6:=ain;clear hf1 hf2 tf hxj hx Lw pH Mx My MY Mr ain wI um aim;go_upto_region 20 with fail;have vn:j < xs.length:=(List.getElem?_eq_some_iff.1 Qx.ae).1;have HJL:=aa vn;obtain⟨lb,hA,xJ,hcj⟩:=J6.ae.at_ (k:=j) (by rw[length_map];exact vn);obtain⟨aio,hxe⟩:=List.getElem?_eq_some_iff.1 (show(xs.map gG.g)[j]?=some x.g by rw[getElem?_map,Qx.ae];rfl);open zin in exact Zhl
 ·have tf:(decide (j < xs.length)&& decide (bX ((xs.map gG.key).getD j []) (l.take gn)=0))=false:=by
   rw[Bool.and_eq_false_iff,decide_eq_false_iff_not,decide_eq_false_iff_not];by_cases h1:j < xs.length
   ·exact .inr λ h2=>hf ⟨h1,h2⟩
   ·exact .inl h1
  have HNF:=aa (show∀y,xs[j]?=some y->0 < bX y.key (l.take gn)from λ y hy=>by
   have h1:=aim.ae j y (Nat.le_refl _) hy
   have vn:=(List.getElem?_eq_some_iff.1 hy).1
   rcases Int.lt_or_eq_of_le h1 with h2 | h2
   ·exact h2
   ·exact absurd ⟨vn,by simp only[getD_eq_getElem?_getD,getElem?_map,hy,Option.map_some,Option.getD_some];exact h2.symm⟩ hf)
  have Xz:=aa (show gn≠0 from λ h0=>by
   have hk:=wI.ae.keys
   unfold fp at hk
   rw[if_pos h0] at hk
   have ft:xs.length=1:=by have:=congrArg List.length hk;simpa using this
   obtain⟨x,hx⟩:∃x,xs=[x]:=List.length_eq_one_iff.1 ft
   have E8:x.key=[]:=by rw[hx] at hk;simpa using hk
   have ht:l.take gn=[]:=by rw[h0];rfl
   rcases Nat.eq_zero_or_pos j with h1 | h1
   ·have:=HNF.ae x (by rw[h1,hx];rfl)
    rw[E8,ht] at this
    simp[bX] at this
   ·have:=um.ae 0 x h1 (by rw[hx];rfl)
    rw[E8,ht] at this
    simp[bX] at this)
  rw[tf];clear tf hf;have HE7:=aa (HF.ae.later Lw.ae);go_wp2_with fail;refine(FZ gp ya AA ac XA gn gn w7 (by have:=Ai.ae;omega) HE7.ae.lt HE7.ae.c9 HE7.ae.ra (λ y hy=>by
   have h1:y.op∈aJ.map Tr.op:=by rw[<- Q3.ae];exact mem_map_of_mem hy
   obtain⟨t,ht,he⟩:=List.mem_map.1 h1
   rw[<- he]
   exact Q4.ae t ht)).mono ?_
  rintro e w2 ⟨gg,sv,qs,rfl,ee,IQ,hgk,I3,Te,b2⟩;have bN:=ah w2 (.cells #[aw gg] 135);have hNB:=aB.new w2 135 #[aw gg];have b9:=ai.then b2 bN
  have K8:w0.heap.size<=w7.heap.size:=Lw.ae.size;have Vu:=aa (show gG.At w2 w0.heap.size ⟨gg,XA,gn,l.take gn,sv,qs,ya.map λ y=>fh y.op⟩from⟨by rw[Xi.ae];exact hgk,Nat.le_trans K8 ee,I3.down K8,Te.down K8,(Mr.ae.keep b2.size λ b cur hX=>b2.block b hX.lt).take gn⟩);have Xt:=aa ((MY.ae.later b2).insert (k:=j) Vu.ae (λ y hy q hq hm=>by
   have h1:=((MY.ae.at_ y hy).qD.low q hq).2
   have h2:=(Te.low q hm).1
   omega))
  have acQ:=aa (Xt.ae.later bN);have wL:=aa (My.ae.later b9);have aoK:=aa (pH.ae.later b9);have Ew:=aa (Mx.ae.later b9);have HK8:=aa (Mr.ae.keep b9.size λ b cur hX=>b9.block b hX.lt);have Gl:=aa (Below.trans Lw.ae (b9.mono K8));have pU:=aa hNB;have hvb:(Value.slice LA xs.length lc).ownBlock≠some w2.heap.size:=λ e=>by have:=(My.ae.lt e).1;have:=b2.size;omega
  have HVB:=aa hvb;have HMJ:=aa (show od gn aJ (xs.take j++⟨gg,XA,gn,l.take gn,sv,qs,ya.map λ y=>fh y.op⟩::xs.drop j) (ls++ [l]) ls from wI.ae.new (by exact HJ.ae) um.ae HNF.ae Xz.ae rfl (by
   show ya.map (λ y=>fh y.op)=_
   rw[<- Q3.ae,map_map]
   rfl))
  have pV:(xs.map gG.g).take j++gg::(xs.map gG.g).drop j=(xs.take j++(⟨gg,XA,gn,l.take gn,sv,qs,ya.map λ y=>fh y.op⟩:gG)::xs.drop j).map gG.g:=by simp
  have hjx:(xs.take j++(⟨gg,XA,gn,l.take gn,sv,qs,ya.map λ y=>fh y.op⟩:gG)::xs.drop j)[j]?=some ⟨gg,XA,gn,l.take gn,sv,qs,ya.map λ y=>fh y.op⟩:=by
   have vn:j<=xs.length:=by exact HJ.ae
   rw[getElem?_append_right TaV,length_take,Nat.min_eq_left vn,Nat.sub_self];rfl
  have acR:(xs.take j++(⟨gg,XA,gn,l.take gn,sv,qs,ya.map λ y=>fh y.op⟩:gG)::xs.drop j).length<=302:=by
   have vn:j<=xs.length:=by exact HJ.ae
   have:=HXL.ae;simp only[length_append,length_take,length_cons,length_drop];omega
  obtain⟨x,hx⟩:∃x:gG,x=⟨gg,XA,gn,l.take gn,sv,qs,ya.map λ y=>fh y.op⟩:=⟨_,rfl⟩;have HKEY:=aa (show x.key=l.take gn by rw[hx]);rw[<- hx] at Xt acQ HMJ pV hjx acR Vu;obtain⟨xs1,aoM⟩:∃xs1:List gG,xs1=xs.take j++x::xs.drop j:=⟨_,rfl⟩;rw[<- aoM] at Xt acQ HMJ pV hjx acR;have Qx:=aa hjx;have HM:=HMJ;have HGS:=aa pV;have aBq:=aa acR;have aoN:=Qo (xs.map gG.g) gg j (.slice LA xs.length lc) w0.heap.size w2.heap.size _ (by rw[length_map];have:=HXL.ae;omega) (by rw[length_map];exact HJ.ae) wL.ae pU.ae Gl.ae.size HVB.ae;have xS:=aa aoN;clear aoN hx aoM pV hjx acR hvb hNB bN b2 b9 K8 I3 Te hgk IQ ee Vu MY My pH Mx Mr Lw Xt wI um aim HNF ain HE7;go_wp2_with fail;refine xS.ae.mono ?_;rintro e w1 ⟨v1,rfl,hR,Wl⟩;rw[HGS.ae] at hR;have mG:=aa hR;have Vw:=aa (acQ.ae.own wL.ae Wl Tab Tab Tab Tab);have J5:=aa (aoK.ae.past wL.ae Tab Wl);have Jo:=aa (Ew.ae.ku wL.ae Tab Wl);have afC:=br wL.ae Wl Gl.ae.size;have Qz:=aa (Below.trans Gl.ae afC);have HK9:=aa (HK8.ae.keep Wl.size λ b cur hX=>Wl.block b hX.lt λ e=>wL.ae.other hX Tab e.symm);obtain⟨LA9,lc9,hv9,_,aoP⟩:=wD mG.ae;rw[length_map] at hv9;subst hv9;have J6:=aa aoP;clear hR Wl afC aoP wL acQ aoK Ew Gl HK8 xS pU HVB HGS;go_upto_region 20 with fail;have vn:j < xs1.length:=(List.getElem?_eq_some_iff.1 Qx.ae).1;have HJL:=aa vn;obtain⟨lb,hA,xJ,hcj⟩:=J6.ae.at_ (k:=j) (by rw[length_map];exact vn);obtain⟨aio,hxe⟩:=List.getElem?_eq_some_iff.1 (show(xs1.map gG.g)[j]?=some x.g by rw[getElem?_map,Qx.ae];rfl)
  open zio in exact Zhl):p:=h
theorem zh4.Kce(h:p:=by
 have hln:(aL++aJ.flatMap Tr.args).length=gn+ye.length:=by have a1:=dX HF.ae.tg;have a2:=dX Q1.ae;rw[length_append,a1,a2,IH.ae]
 have hgx:gn<=l.length:=by rw[zh.ae,hln];omega
 have xN:=aa hgx;have HXC:=aa (show gn<=xc by omega);have Qw:=aa hxl;have HEW:=aa (HF.ae.later rK.ae);have uY:=aa (show(l.drop gn).length=ye.length by rw[length_drop,zh.ae,hln];omega);obtain⟨xn,DO⟩:∃xn,xn=l.length:=⟨_,rfl⟩;rw[<- DO] at xN ⊢;have ox:=aa DO;clear E8 hln hgx hxl DO KK;go_upto_region 16 with fail;refine bC 14 (aib gp GA gn gc XA xn xc) (Qq _ _ _ _ _ _ _) Taa Taa Taa ?_ ?_
 ·simp only[take_succ_cons,take_zero];refine⟨Zaa,Zaa,Zaa,Zaa,Zaa,ZgF,Zaa,Zaa,Zaa,Zaa,Zaa,ZgF,Zaa,Zdi,trivial⟩
 intro W6 hL;simp only[Uab];rintro a0 - a1 - a2 - a3 - a4 - a5 - a6 - a7 - a8 - a9 - FA - F8 - a12 - _ rfl;open zhM in exact ZfV):p:=h
theorem zcR.Kax(h:p:=by
 have jI:=aa Gp;have HQN:=aa Qs;have aie:=aa kN;have HB:=aa hX;have VH:=aa eU;have HP:=aa hP;have J1:=aa aov;have JP:=aa aZ;have HG0:=aa fM;have HI0:=aa hI0;have Uy:=aa (show yg.length+ye.length<=1000000 by omega);have LE:=aa (show(yg++ye).length<=1599289640356 by rw[length_append];omega);clear h hF ih q1 q2 q3 q4 q5 Av Tp B3 hz Nk Gp Qs kN hX eU hP aov aZ fM hI0;simp only[gU,fy,Tryz.f33,Option.getD_some];refine wp_seq_k λ K hK=>?_
 have HK:=aa hK;clear hK;go_wp2_with fail;go_loopw [10,54] (λ lv i wr=>∃(k:Nat) (xs:List gG),k<=zs.length/\i=af k/\aj w0 wr/\aI bH 46 7 wr w0.heap.size (.slice I6 ye.length I7) ye/\aB wr gb 84 #[af (dZ cols (aL++aJ.flatMap Tr.args) (zs.take k))]/\aI cY 135 1 wr w0.heap.size lv (xs.map gG.g)/\kx wr w0.heap.size xs/\od gn aJ xs (fq cols (aL++aJ.flatMap Tr.args) (zs.take k)) (fq cols (aL++aJ.flatMap Tr.args) (zs.take k))) (λ _ i _=>zs.length - (intOf i).toNat);case atStart=>exact⟨0,xs0,Nat.zero_le _,rfl,HB.ae,VH.ae,HP.ae,JP.ae,HG0.ae,HI0.ae⟩
 case round=>
  clear HB VH HP JP HG0 HI0;obtain⟨k,xs,hkr,rfl,hB,hAV,hGB,Xy,hG,hI⟩:=hrel;have HB:=aa hB;have VH:=aa hAV;have HP:=aa hGB;have JP:=aa Xy;have HG:=aa hG;have wI:=aa hI;clear hB hAV hGB Xy hG hI;by_cases hlt:k < zs.length
  ·obtain⟨b,off,rfl,kF,hcell,vd⟩:=(jI.ae.below HB.ae).at_ hlt;have AZ:=aa (vd.more HB.ae.size);have Qj:=aa (aie.ae zs[k] (getElem_mem hlt));have J2:=aa (CW (cols:=cols) (ts:=aL++aJ.flatMap Tr.args) hlt);have HLS:=aa (uL cols (aL++aJ.flatMap Tr.args) (zs.take k));have DN:=aa (show(zs.take k).length<=300 by rw[length_take];have:=HQN.ae;omega);generalize zs[k]=r at*;generalize dZ cols (aL++aJ.flatMap Tr.args) (zs.take k)=FC at*;generalize fq cols (aL++aJ.flatMap Tr.args) (zs.take k)=ls at*;obtain⟨res,hres⟩:∃res,res=bB cols r.l (aL++aJ.flatMap Tr.args):=⟨_,rfl⟩;rw[<- hres] at J2;have jH:=aa hres.symm;have oJ:=aa (HF.ae.later HB.ae);have HTE:=aa (Tr.aO.later Q1.ae HB.ae);have ox:=aa (acG VH.ae);obtain⟨E,hE⟩:∃E,E=yg++ye:=⟨_,rfl⟩;have pX:=aa hE;obtain⟨B0,hB0⟩:∃B0,B0=wr.heap.size:=⟨_,rfl⟩;have Bz:=aa hB0;have hk9:k<=300:=by have:=HQN.ae;omega
   clear kF vd hres hE hB0;go_upto_region 14 with fail;clear hcell;refine bC 18 (aia gp GA gn gc I6 ye.length I7 CA cols.length cc r.A r.l.length r.c E B0 res) (Qp _ _ _ _ _ _ _ _ _ _ _ _ _ _ _ _) Taa Taa Taa ?_ ?_
   ·simp only[take_succ_cons,take_zero];refine⟨Zaa,Zaa,Zaa,Zaa,?_,Zaa,?_,?_,Zaa,Zaa,Zaa,?_,Zaa,?_,?_,?_,?_,?_,trivial⟩
    ·intro ρ w3 hc hL hr;have h0:_=_:=hr.1;have c0:=(oJ.ae.later hL).c4;exact ZbR
    ·intro ρ w3 hc hL hr;have h0:_=_:=hr.1;have h1:_=_:=hr.2.1;exact aq (v:=aH w3.heap.size 2 2) (w':=w3.alloc (.cells #[.slice GA gn gc,.slice I6 ye.length I7] 23)) Taz ⟨ah _ _,_,rfl,aB.new _ _ _⟩
    ·intro ρ w3 hc hL hr;obtain⟨gB0,h0,cJ⟩:∃gB:Nat,ρ (.tmp 65)=aH gB 2 2/\aB w3 gB 23 #[.slice GA gn gc,.slice I6 ye.length I7]:=hr.1;have e1:=hc.func 35;refine bj (f:=35) (args:= #[aH gB0 2 2]) (w':=w3) TaA ?_;refine(uz (some ⟨gB0,0,none⟩) 2 [⟨GA,gc,yg⟩,⟨I6,I7,ye⟩] w3 Tad (by simpa [lC] using Uy.ae) ?_).mono ?_
     ·refine⟨gB0,0,rfl,cJ.lt,λ i x hx=>?_⟩
      match i,hx with
      | 0,hx=>simp at hx;subst hx;refine⟨?_,(oJ.ae.later hL).rg⟩;exact ZfE
      | 1,hx=>simp at hx;subst hx;refine⟨?_,ox.ae.later hL⟩;have cb:=cJ.cell 1;simp only[Uaa] at cb;rw[Nat.zero_add,cb]
      | n+2,hx=>simp at hx
     ·exact ZdW
    ·intro ρ w3 hc hL hr;have h0:_=_:=hr.1;have c0:=(oJ.ae.later hL).c8;exact ZdG
    ·intro ρ w3 hc hL hr;obtain⟨v70,h0,cJ⟩:∃v7:Value,ρ (.tmp 66)=v7/\uM w3 B0 v7 E:=hr.1;have h1:_=_:=hr.2.1;have h2:_=_:=hr.2.2.1;obtain⟨EA,ec,he,Gs⟩:=rP (show aI bH 46 7 w3 B0 v70 E from cJ);rw[pX.ae] at he Gs;subst he;have e1:=hc.func 34;refine bj (f:=34) (args:= #[.slice EA (yg++ye).length ec,.slice CA cols.length cc,.slice r.A r.l.length r.c]) (w':=w3) (by simp[go_sem,e1,h0,h1,h2];done) ?_;refine(Gf cols CA cc r.l r.A r.c (aL++aJ.flatMap Tr.args) (yg++ye) EA ec w3 F7.ae Qj.ae.1 Qj.ae.2 oz.ae (Tr.all_append (oJ.ae.later hL).tg (Tr.aO.later HTE.ae hL)) LE.ae Gs (oJ.ae.later hL).rc (AZ.ae.later hL)).mono ?_;exact ZcL
    ·intro ρ w3 hc hL hr;obtain⟨VI,VJ,h0,cJ⟩:∃x0 x1:Value,ρ (.tmp 72)=.tuple #[x0,x1]/\nH res w3 B0 x0 x1:=hr.1;exact Zf8
    ·intro ρ w3 hc hL hr;obtain⟨VI,VJ,h0,cJ⟩:∃x0 x1:Value,ρ (.tmp 58)=.tuple #[x0,x1]/\nH res w3 B0 x0 x1:=hr.1;exact Zc5
    ·intro ρ w3 hc hL hr;obtain⟨VI,VJ,h0,cJ⟩:∃x0 x1:Value,ρ (.tmp 58)=.tuple #[x0,x1]/\nH res w3 B0 x0 x1:=hr.1;exact Zgj
    ·intro ρ w3 hc hL hr;obtain⟨VI,VJ,h0,cJ⟩:∃x0 x1:Value,ρ (.tmp 73)=x0/\nH res w3 B0 x0 x1:=hr.1;exact Zc5
   intro W5 hL;simp only[Uab];rintro a0 - a1 - a2 - a3 - a4 - a5 - a6 - a7 - a8 - a9 - FA - F8 - a12 - a13 - a14 - a15 - _ rfl a16 ⟨ayi,ayj,rfl,afz⟩;simp only[bE,Act.put,Uac];have oB:=aa (Below.trans HB.ae (hL.mono HB.ae.size));have SV:=aa (VH.ae.later hL);have Aa:=aa (HP.ae.later hL);have Qt:=aa (JP.ae.later hL);have ve:=aa (HG.ae.later hL);have HWB:=aa afz;have HWL:=aa hL.size;have HWS:=aa HB.ae.size;clear HB VH HP JP HG hL afz AZ ox oJ HTE;go_wp2_with fail;refine(vS gb FC (np res) _ Aa.ae).mono ?_;rintro e w5 ⟨rfl,Il,IY⟩;have Qv:=aa Il;have rK:=aa (dQ oB.ae IY J1.ae);have zW:=aa (SV.ae.grown IY (SV.ae.other Aa.ae Tab));have Mw:=aa (Qt.ae.grown IY (Qt.ae.other Aa.ae Tab));have Vk:=aa (ve.ae.grown IY Aa.ae Tab Tab Tab Tab);have Aw:=aa (show∀l,res=.ok l->aI aV 44 3 w5 B0 a16 l from λ l hl=>by
    have h1:=HWB.ae
    rw[hl] at h1
    exact h1.2.grown IY (h1.2.other Aa.ae Tab))
   clear Il IY oB SV Aa Qt ve HWB
   cases res with
   | error er=>
     have hne:=Gu jH.ae;have t1:(np (.error er)==0)=false:=by show(er==0)=false;simp[hne]
     have xh:=aa J2.ae.1;have qC:=aa J2.ae.2;clear hne Aw;go_wp2_with fail;go_roundw
     case rel=>
      refine⟨k+1,xs,hlt,by go_num,rK.ae,zW.ae,?_,Mw.ae,Vk.ae,?_⟩
      ·rw[qC.ae];exact Qv.ae
      ·rw[xh.ae];simpa using wI.ae
     case measure=>exact Za1
   | ok l=>have xh:=aa (show fq cols (aL++aJ.flatMap Tr.args) (zs.take (k+1))=ls++ [l] from J2.ae.1);have qC:=aa (show dZ cols (aL++aJ.flatMap Tr.args) (zs.take (k+1))=tx FC 0 from J2.ae.2);have zh:=aa (CV jH.ae);have Ly:=aa (CX Qj.ae.2 oz.ae jH.ae);open zh4 in exact Zgq
  ·have fH:k=zs.length:=by omega
   subst fH;have HTT:=aa (show zs.take zs.length=zs from take_length);rw[HTT.ae] at HP wI;go_wp2_with fail;exact HK.ae _ _ (HH.ae _ u10 xs _ rfl rfl rfl HB.ae HP.ae JP.ae HG.ae wI.ae)):p:=h
theorem I8 (w0:World)(gp gb gn:Nat)(aL aJ:List Tr)(cols:List aX)(yg ya ye:List Ex)(GA:Option Addr)(gc:Nat)(CA:Option Addr)(cc:Nat)(AA:Option Addr)(ac:Nat)(zs:List aW)(RA:Option Addr)(rrc:Nat)(av lv:Value)(xs0:List gG)(T:Array Value)(hT:T.size=164)
  (h0:T.getD 0 undef=aw gp) (h1:T.getD 1 undef=.slice RA zs.length rrc) (h6:T.getD 6 undef=av) (h9:T.getD 9 undef=aw gb) (h10:T.getD 10 undef=lv) (d:List Deferred) (w:World) (Q:Exit->Act->World->Prop)
  (hF:CY w0 gp aL aJ cols yg ya GA gc CA cc AA ac) (ih:yg.length=gn) (q1:Tr.aO w0 (Old w0) (aJ.flatMap Tr.args) ye) (q2:ya.map Ex.n=aJ.map λ t=>t.args.length) (q3:ya.map Ex.op=aJ.map Tr.op) (q4:∀t∈aJ,isAgg t.op=true) (q5:∀t∈aJ,t.args.length<=2) (Av:Tr.cN (aL++aJ.flatMap Tr.args))
  (Tp:yg.length<=1000) (B3:ya.length<=100000) (hz:ye.length<=100000) (Nk:cols.length<=140737488355328)
  (Gp:RR w0 w0.heap.size RA zs) (Qs:zs.length<=300) (kN:∀r∈zs,r.l.length<=140737488355328/\∀v∈r.l,v.Ok)
  (hX:aj w0 w) (eU:aI bH 46 7 w w0.heap.size av ye) (hP:aB w gb 84 #[af 0]) (aov:w0.heap.size<=gb) (aZ:aI cY 135 1 w w0.heap.size lv (xs0.map gG.g)) (fM:kx w w0.heap.size xs0) (hI0:od gn aJ xs0 [] [])
  (h:∀(T':Array Value) lv' xs W,T'.size=164->T'.getD 9 undef=aw gb->T'.getD 10 undef=lv'->aj w0 W->aB W gb 84 #[af (dZ cols (aL++aJ.flatMap Tr.args) zs)]->aI cY 135 1 W w0.heap.size lv' (xs.map gG.g)->kx W w0.heap.size xs->od gn aJ xs (fq cols (aL++aJ.flatMap Tr.args) zs) (fq cols (aL++aJ.flatMap Tr.args) zs)->(fy gU 7).wp Tryz.prog Q { tmps:=T',defers:=d } W):
  (fy gU 6).wp Tryz.prog Q { tmps:=T,defers:=d } w:=by
 obtain⟨I6,I7,auK,_⟩:=rP eU;subst auK;obtain⟨f,rfl⟩:=Jl T hT;have h0:f 0=_:=h0;have h1:f 1=_:=h1;have h6:f 6=_:=h6;have h9:f 9=_:=h9;have h10:f 10=_:=h10;simp only[frg,h0,h1,h6,h9,h10];clear h0 h1 h6 h9 h10;clear h0 h1 h6 h9 h10 hT;have hh:=λ(T':Array Value) lv' xs W a0 a1 a2 a3 a4 a5 a6 a7=>h T' lv' xs W a0 a1 a2 a3 a4 a5 a6 a7
 simp only[gU,fy,Tryz.f33,Option.getD_some] at hh;have HH:=aa hh;clear hh;open zcR in exact Zbd
def afD (v:Val):R.Val:=⟨v.k,v.n,v.s⟩
mutual
def K9:Tr->R.Tr
 | .mk op v name width args=> .mk op (afD v) name width (rQ args)
def rQ:List Tr->List R.Tr
 | []=> []
 | t::ts=>K9 t::rQ ts
end
def MB (y:Ex):R.Ex:=⟨y.op,afD y.v,y.name,y.width,y.A,y.n,y.c⟩
theorem wM:∀ts:List Tr,(rQ ts).length=ts.length
 | []=>by simp[rQ]
 | t::ts=>by simp[rQ,wM ts]
variable{S:Nat->Prop}
theorem aoQ(h:Yd w S A ys):R.RL R.bH 7 w S A (ys.map MB):=by
 rcases h with rfl |⟨b,off,Kx,h2,h3⟩
 ·exact .inl rfl
 ·refine .inr ⟨b,off,Kx,h2,λ i x j u h1 hu=>?_⟩;rw[getElem?_map] at h1
  cases hy:ys[i]? with
  | none=>rw[hy] at h1;cases h1
  | some y=>
    rw[hy] at h1;injection h1 with h1;subst h1;obtain⟨k0,k1,k2,k3,k4,k5,k6⟩:=h3 i y hy
    match j,hu with
    | 0,hu=>injection hu with hu;subst hu;exact k0
    | 1,hu=>injection hu with hu;subst hu;exact k1
    | 2,hu=>injection hu with hu;subst hu;exact k2
    | 3,hu=>injection hu with hu;subst hu;exact k3
    | 4,hu=>injection hu with hu;subst hu;exact k4
    | 5,hu=>injection hu with hu;subst hu;exact k5
    | 6,hu=>injection hu with hu;subst hu;exact k6
    | n+7,hu=>simp[R.bH] at hu
mutual
theorem Tf {w:World} {S:Nat->Prop}:∀(t:Tr) (y:Ex),t.at_ w S y->(K9 t).at_ w S (MB y)
 | .mk op v name width args,y,h=>by unfold Tr.at_ at h;obtain⟨h1,h2,h3,h4,h5,ys,h6,h7⟩:=h;unfold K9 R.Tr.at_;exact⟨h1,by rw[<- h2];rfl,h3,h4,by rw[wM];exact h5,ys.map MB,aoQ h6,Gv args ys h7⟩
theorem Gv {w:World} {S:Nat->Prop}:∀(ts:List Tr) (ys:List Ex),Tr.aO w S ts ys->R.Tr.aO w S (rQ ts) (ys.map MB)
 | [],ys,h=>by unfold Tr.aO at h;subst h;unfold rQ R.Tr.aO;rfl
 | t::ts,ys,h=>by unfold Tr.aO at h;obtain⟨y,ys',rfl,h1,h2⟩:=h;unfold rQ R.Tr.aO;exact⟨MB y,ys'.map MB,rfl,Tf t y h1,Gv ts ys' h2⟩
end
mutual
theorem Tg:∀t:R.Tr,K9 (qj t)=t
 | .mk op v name width args=>by unfold qj K9;rw[MC args];rfl
theorem MC:∀ts:List R.Tr,rQ (gJ ts)=ts
 | []=>by unfold gJ rQ;rfl
 | t::ts=>by unfold gJ rQ;rw[Tg t,MC ts]
end
theorem Gw:∀ts:List R.Tr,gJ ts=ts.map qj
 | []=>by unfold gJ;rfl
 | t::ts=>by unfold gJ;rw[Gw ts];rfl
theorem VK (d:R.Qu):(fo d).all=({ kind:=8,query:=d }:R.St).exprs.map qj:=by unfold Qy.all fo R.St.exprs R.Qu.exprs;simp only[Gw,map_map,map_append,append_assoc,flatten_nil,map_nil,nil_append];rfl
end Go.Proofs.YtndgjggokjickaaGreatDoor
namespace Go.Proofs.YtndgjggokjickaaGreatDoor.R
set_option maxHeartbeats 90000000
set_option maxRecDepth 100000
open Go.ChangeShapes Go.WideShapes Go.ChangeAt Go.RowKit List
set_option linter.unusedVariables false
set_option linter.unusedSimpArgs false
def XB:Obj:=.cells #[ag 0,au,az,au,af 0,au,af 0,az,au,.bool false,az,az,az,az,az,ag 0,au,af 0,af 0,az,az,az,ag 0,af 0,au,ag 0,af 0,au] 64
variable{P:Program}{ops:Array Oper}{rest:List Oper}{o:Oper}{a:Act}{w:World}{Q:Exit->Act->World->Prop}{cs:Array Value}
theorem Ab(hg:o.guard=none)(t:TypeId)(parts:Array (Nat×Operand))(ho:o.op=.build t parts) 
  (hv:P.built t (parts.map λ(i,x)=>(i,a.eval x)).toList=some cs) (h:wpList P ops Q rest (a.put o.dst (.agg cs)) w):wpList P ops Q (o::rest) a w:=
 wpList_build hg t parts ho (by rw[hv];rfl) (by rw[hv];exact h)
theorem L0 (qy:xQ):Tryz.prog.built 64 [(0,ag 8),(7,quV qy)]=some (sO { kind:=8,query:=qy }).toArray:=by exact Zgx
def uN (l:dG)(d:Qu)(r:dG):Prop:=∀(ρ:dr) (w:World),ρ.at w (.good l) false->ar 134 #[ρ.ptr] w λ e w'=>∃y:xQ,e=.returned (quV y)/\d.at_ w' (jg w.heap.size w') y/\eE ρ w w' (.good r) false
def tI (d:Qu):St:= { kind:=8,query:=d }
variable{t:Wd}{l r:dG}{d:Qu}
theorem L1(hse:iQ fl t=true)(H:uN (t::l) d r)(ρ:dr)(w:World)(h:ρ.at w (.good (t::l)) false):
  ar 86 #[ρ.ptr] w λ e w'=>∃y:xQ,e=.returned (stV { kind:=8,query:=y })/\d.at_ w' (jg w.heap.size w') y/\eE ρ w w' (.good r) false:=by
 have ee:=h.FK;obtain⟨tk,pl,bd,hpl,hlt,hsm,uq,cg,hg,JL,uX,hp⟩:=h.wk;obtain⟨r',na⟩:=hg (t::l) rfl;injection na with lU htr;have hb:=ai.then (ah w XB) (ah _ XB);have h0:=h.later hb;have Xh:=(aB.new w 64 st0).alloc XB;have HQ:=aa Xh;have HH:=aa h;have HR:=aa H;have auQ:=aa (show(cj.good (t::l)).head (⟨#[115,101,108,101,99,116]⟩:ByteArray).data.toList=true from hse);clear Xh h hg cg uq hse hpl H;rw[show Obj.cells st0 64=XB from rfl] at HQ;unfold XB at*;clear htr;go_enter Tryz.func86,Tryz.ntmps86;go_wp2_with fail;refine(lL ρ _ _ false h0 ⟨#[115,101,108,101,99,116]⟩).mono ?_;rintro e w1 ⟨rfl,b1⟩;rw[auQ.ae];have hb1:=ai.then hb b1
 have UH:=aa (HQ.ae.later b1);clear HQ h0 b1 hb lU hp;go_wp2_with fail;refine(HR.ae ρ _ (HH.ae.later hb1)).mono ?_;rintro e w3 ⟨qy,rfl,hqd,d3⟩;have HQ:=aa (d3.blk UH.ae WC);have HD:=aa ((eE.cW HH.ae hb1).trans d3);have HS:=aa hqd;have hs9:w.heap.size+1<=w1.heap.size:=UH.ae.lt;clear d3 hqd UH HH;go_wp2_with (first
  |(refine Ab rfl 64 _ rfl (cs:=(sO { kind:=8,query:=qy }).toArray) ?hv ?_;rotate_left)
  |(refine wpList_store_row rfl 64 (.tmp 2) (.tmp 8) rfl w.heap.size (sO { kind:=8,query:=qy }).toArray rfl rfl 64 st0 HQ.ae TaH rfl (PF _) ?_
    have HR:=aa (HQ.ae.row (sO { kind:=8,query:=qy }).toArray)
    have HF:=aa (HD.ae.row ee (Nat.le_refl _) (sO { kind:=8,query:=qy }).toArray)
    have qC:=aa (Qu.at_.keep (iY (show w.heap.size<=w.heap.size+1 by omega)) (Qu.at_.keep (SM w3 (show w.heap.size < w.heap.size+1 by omega) (sO { kind:=8,query:=qy }).toArray) (Qu.at_.keep (iY hs9) HS.ae)))))
 case hv=>exact L0 qy
 exact bodyPost_ret (v:=stV { kind:=8,query:=qy }) (results_cell_row Tryz.results86 _ _ w.heap.size 64 (sO { kind:=8,query:=qy }).toArray (0,0) _ rfl HR.ae Tryz.underlying64 rfl TaH) rfl ⟨qy,rfl,qC.ae,HF.ae⟩
def MD (d:Qu)(w:World)(e:Ending)(w':World):Prop:=∃y:xQ,e=.returned (.tuple #[stV { kind:=8,query:=y },af 0,af 0])/\d.at_ w' (jg w.heap.size w') y/\aj w w'
variable{t0:Wd}{r0:dG}
theorem acS(s:ByteArray)(w:World)(hs:s.size<=4294967280) {l:List rp}(hl:zK s.data.toList=.ok l)   (q5:l.map (·.w)=t0::r0)(hse:iQ fl t0=true)(H:uN (t0::r0) d (t::r))(B3:t.k=0)(Tp:(tI d).exprs.length<=1000)(Av:∀x∈(tI d).exprs,x.thin/\x.depth<=32):ar 52 #[.string s] w (MD d w):=by
 obtain⟨_,hlen,q4⟩:=SH hl;have hne:l≠ []:=by intro h;rw[h] at q5;cases q5
 have HSE:=aa (λ ρ w h=>L1 hse H ρ w h);have HEN:=aa (Vc hl);have Q4:=aa q4;have Q5:=aa q5;have oz:=aa Av;have E1:=aa Tp;have Ai:=aa B3;clear q4 q5 Av Tp hse H B3;have Xh:=aB.new w 64 st0;rw[show Obj.cells st0 64=XB from rfl] at Xh;have HQ:=aa Xh;clear Xh;unfold XB at*;go_enter Tryz.func52,Tryz.ntmps52;go_wp2_with fail;refine(acb hl hs).mono ?_;rintro e w1 ⟨A,c,rfl,ht,b1⟩;obtain⟨gl,rfl,hgb,zT,hc⟩:=ht.cells hne;have UH:=aa (HQ.ae.later b1);have HB:=aa (ai.then (ah w _) b1);have hR:=dr.start (c:=c) zT hc HEN.ae hlen Q4.ae;rw[Q5.ae] at hR;have HR:=aa hR;have JK:w.heap.size < w1.heap.size:=UH.ae.lt;clear ht hc b1 HQ hR hgb hne;go_wp2_with fail;refine(HSE.ae ⟨w1.heap.size,gl,c,l⟩ _ HR.ae).mono ?_;rintro e w2 ⟨qy,rfl,hat,dd⟩;obtain⟨y,hy⟩:∃y:B8,y= { kind:=8,query:=qy }:=⟨_,rfl⟩;rw[<- hy];have HY:=aa hy;clear hy;rw[show(w1.alloc _).heap.size=w1.heap.size+1 by simp] at hat;have bJ:w1.heap.size <(w1.alloc (.cells #[aH gl l.length c,af 0,af (-1),.bool false] 169)).heap.size:=by simp
 have lu:=dd.blk (UH.ae.alloc _) Tbg;have hs2:w1.heap.size+1<=w2.heap.size:=by have:=dd.size;simpa using this
 have HD3:=aa ((dd.later (ah w2 XB)).row bJ (by rw[show(w1.alloc _).heap.size=w1.heap.size+1 by simp];exact hs2) (sO y).toArray);have HY3:=aa ((aB.new w2 64 st0).row (sO y).toArray);have mZ:=aa ((lu.alloc XB).ack (q:=w2.heap.size) WC (sO y).toArray);have aoR:=aa (Qu.at_.keep (LV w2 XB (sO y).toArray) hat);have fE:=aa (show aj w (w1.alloc (.cells #[aH gl l.length c,af 0,af (-1),.bool false] 169))from ai.then HB.ae (ah w1 _));clear dd hat lu UH HR HB;rw[show(Obj.cells st0 64)=XB from rfl] at HY3;unfold XB at*;go_wp2_with (first
  |(refine wpList_store_row rfl 64 (.tmp 9) (.tmp 27) rfl w2.heap.size (sO y).toArray rfl rfl 64 st0 (aB.new w2 64 st0) TaH rfl (PF _) ?_))
 generalize ((w2.alloc _).setRow _ _)=W3 at*;refine(cq ⟨w1.heap.size,gl,c,l⟩ _ _ _ HD3.ae.at_ ⟨#[59]⟩ (by show((t.k==1 || t.k==4)&& t.s==agP)=false;rw[Ai.ae];rfl)).mono ?_;rintro e w4 ⟨rfl,d4⟩;have HD:=aa (HD3.ae.trans d4);have C5:=aa (d4.blk mZ.ae Tbg);have HY4:=aa (d4.blk HY3.ae (by show w2.heap.size≠w1.heap.size;omega));have ais:=aa (Qu.at_.keep (lK d4.grown (show w1.heap.size < w1.heap.size+1 by omega)) aoR.ae);clear d4 HD3 mZ HY3 aoR;have I4:=aa (fE.ae.trans (dQ HD.ae.grown fE.ae.size (by show w.heap.size<=w1.heap.size;omega)));obtain⟨tk,pl,bd,hpl,aoS,ame,uq,cg,hg,JL,uX,hp⟩:=HD.ae.at_.wk;obtain⟨r',na⟩:=hg _ rfl;injection na with lU _;have B3:=Ai.ae;rw[lU] at B3;obtain rfl:bd= -1:=uq;obtain⟨c0,c1,c2,k0,k1,k2,k3⟩:=hp;simp only at c0 c1 c2 k0 k1 k2 k3;have aoS:pl < l.length:=aoS;have aBu:(pl:Int)< l.length:=by omega
 clear hg cg hpl lU;rw[B3] at k0;have c3:=HD.ae.at_.facts.2.2.2.1;simp only at c3;clear HD hl B3;go_wp2_with (first
  |(refine wpList_load_row rfl 64 (.tmp 9) rfl w2.heap.size rfl 64 (sO y).toArray (0,0) _ HY4.ae Tryz.underlying64 rfl TaH ?_))
 clear c0 c1 c2 c3 k0 k1 k2 k3;have hq9:d.at_ w4 (Old w4) qy:=Qu.at_.keep (λ b hb=>⟨λ _=>rfl,hb.2⟩) ais.ae;have hqa:=SR hq9;have hst:(sO y).toArray=acp 8 (fo d) (PG qy):=by rw[HY.ae];unfold acp fo PG;rw[<- hq9.bT,<- hq9.only];rfl
 have key:=uC (k:=8) (fo d) (PG qy) w4 hqa.1 (by
  have h:=E1.ae
  simp only[tI,St.exprs,Qu.exprs,length_append,length_map,flatten_nil,length_nil,map_nil] at h
  simp only[fo,lD,length_map]
  omega)
 rw[<- hst] at key;have HE:=aa (show(fo d).all=(tI d).exprs.map qj from VK d);clear hqa hst hq9;refine key.mono ?_;rintro e w5 ⟨v,ys,rfl,hown,hall,b5⟩;obtain⟨sA,sc,rfl,Gs⟩:=rP hown;have HQ5:=aa (C5.ae.later b5);have HY5:=aa (HY4.ae.later b5);have auR:=aa (Qu.at_.keep (iP b5) ais.ae);have rK:=aa (ai.then I4.ae b5);have Qj:=aa Gs;have BP:=aa (hall.later b5);obtain⟨sn,PB⟩:∃sn,sn=ys.length:=⟨_,rfl⟩;have HNL:=aa (show sn=(tI d).exprs.length by rw[PB,Go.Proofs.YtndgjggokjickaaGreatDoor.Tr.aO.length hall,HE.ae,length_map]);have Ek:sn<=1000:=by rw[HNL.ae];exact E1.ae
 rw[<- PB];clear b5 Gs hall hown PB key C5 HY4 ais I4;go_wp2_with fail;go_loopw [11] (λ u wr=>∃i:Nat,i<=sn/\u=af i/\aj w5 wr) (λ u _=>sn - (intOf u).toNat);case atStart=>exact Zgy
 case round=>
  obtain⟨i,HX,rfl,cJ⟩:=hrel;have jI:=aa cJ;have HQr:=aa (HQ5.ae.later cJ);have HYr:=aa (HY5.ae.later cJ);by_cases hlt:i < sn
  ·obtain⟨x,hx⟩:∃x,(tI d).exprs[i]?=some x:=⟨_,getElem?_eq_getElem (by have:=HNL.ae;omega)⟩;obtain⟨yx,hyx,aoT⟩:=BP.ae.get (t:=qj x) (i:=i) (by rw[HE.ae,getElem?_map,hx];rfl);have aoU:x.at_ w5 (Old w5) (MB yx):=by have h:=Tf _ _ aoT;rwa [Tg] at h
   have acT:=oz.ae x (mem_of_getElem? hx);have oz:=aa (Tr.amC (w:=w5) (S:=Old w5) (λ b hb=>hb) x (MB yx) aoU acT.1 (by have:=acT.2;omega) wr cJ);rcases Qj.ae with h0 |⟨b,off,hAe,hSb,hcell⟩
   ·subst h0;simp at hyx
   obtain⟨q0,q1,q2,q3,KK,Kx,q6⟩:=(hcell i yx hyx).keep (λ o=>cJ.cell (p:=⟨b,o,none⟩) hSb);have hdi:¬((x.depth:Int)> 32):=by have:=acT.2;omega
   clear hcell hx hyx aoT aoU acT;subst hAe;go_wp2_with fail;clear q0 q1 q2 q3 KK Kx q6;refine oz.ae.mono ?_;rintro e w6 ⟨rfl,b6⟩;go_wp2_with fail;go_roundw;case rel=>exact⟨i+1,by omega,by go_num,jI.ae.trans (b6.mono jI.ae.size)⟩
   case measure=>exact Za1
  ·obtain rfl:i=sn:=by omega
   have auT:=aa (Qu.at_.keep (iP cJ) auR.ae);have HBr:=aa (ai.then rK.ae cJ);clear cJ;go_wp2_with (first
    |(refine wpList_load_row rfl 64 (.tmp 9) rfl w2.heap.size rfl 64 (sO y).toArray (0,0) _ HYr.ae Tryz.underlying64 rfl TaH ?_)
    |(refine wpList_store_row rfl 64 (.tmp 2) (.tmp 82) rfl w.heap.size (sO y).toArray rfl rfl 64 st0 HQr.ae TaH rfl (PF _) ?_
      have HR9:=aa (HQr.ae.row (sO y).toArray)
      have HS9:=aa (show Qu.at_ (wr.setRow w.heap.size (sO y).toArray) (jg w.heap.size (wr.setRow w.heap.size (sO y).toArray)) d qy from Qu.at_.keep (iY (show w.heap.size<=w1.heap.size+1 by omega)) (Qu.at_.keep (SM wr (show w.heap.size < w1.heap.size+1 by omega) (sO y).toArray) auT.ae))
      have Qz:=aa (HBr.ae.trans (dQ (FX wr w.heap.size (sO y).toArray) HBr.ae.size (Nat.le_refl _)))))
   exact bodyPost_ret (v:=.tuple #[stV y,af 0,af 0]) (IP Tryz.results52 _ _ w.heap.size 64 (sO y).toArray (0,0) _ (af 0) (af 0) rfl HR9.ae Tryz.underlying64 rfl (by rw[show Array.size (sO y).toArray=28 from rfl];exact pB) rfl rfl) rfl ⟨qy,by rw[HY.ae],HS9.ae,Qz.ae⟩
def nB (t:Wd):Bool:=t.k==1 && !tz t.s && !iQ OM t && !iQ Aq t && !iQ Zh t && !iQ eC t && !iQ Zg t && !iQ sG t
def uB (u:Wd):Bool:=kQ 0 u==0 && kQ 1 u==0 && kQ 4 u==0 && kQ 5 u==0 && !iQ abJ u
theorem zk(h:nB t=true):Lt t/\t.k=1/\tz t.s=false/\∀l,xP (t::l):=by simp only[nB,Bool.and_eq_true,beq_iff_eq,Bool.not_eq_true'] at h;obtain⟨⟨⟨⟨⟨⟨⟨k,a⟩,b⟩,c⟩,d⟩,e⟩,f⟩,g⟩:=h;exact⟨⟨⟨by omega,by omega⟩,b,c,d,e⟩,k,a,λ l=>⟨f,g⟩⟩
variable{u:Wd}
theorem Db(h:uB u=true):FN u:=by simp only[uB,Bool.and_eq_true,beq_iff_eq,Bool.not_eq_true'] at h;exact⟨h.1.1.1.1,h.1.1.1.2,h.1.1.2,h.1.2,h.2⟩
theorem Gx(r:dG)(h:nB t=true)(ho:iQ eC u=false)(hu:uB u=true)(h3:kQ 3 u=0):cP 0 (t::u::r) (ui ⟨t.s.toArray⟩) (u::r):=
 LD (Lu (zk h).1 (zk h).2.1 (zk h).2.2.1 ho) ((zk h).2.2.2 _) (Db hu) h3
abbrev nW (s:List UInt8):Wd:=⟨1,s,0⟩
abbrev gW (s:List UInt8):Wd:=⟨4,s,0⟩
abbrev iW (n:Int):Wd:=⟨2,[],n⟩
abbrev eW:Wd:=⟨0,[],0⟩
abbrev tW:Wd:=nW [116,105,109,101]
abbrev vW:Wd:=nW [118]
def kT:Tr:=ui ⟨#[116,105,109,101]⟩
def kV:Tr:=ui ⟨#[118]⟩
def rR:Tr:=.mk 20 jG ByteArray.empty 5 [kT]
abbrev L3 (r:dG):dG:=nW BH::gW eC::iW 5::gW dK::tW::gW ez::r
theorem L5(r:dG)(hu:uB u=true)(h3:kQ 3 u=0):cP 0 (L3 (u::r)) rR (u::r):=
 LD (LC 20 rfl (zk rfl).1 rfl rfl rfl rfl rfl rfl (Gx _ rfl rfl rfl rfl) rfl) ⟨rfl,rfl⟩ (Db hu) h3
def XC:Qu:= { items:=[(rR,ByteArray.empty),(Ap 23 [kV],ByteArray.empty)],bT:=⟨#[116]⟩,group:=[rR] }
def XD:Qu:= { items:=[(kV,ByteArray.empty)],bT:=⟨#[116]⟩,cD:=[Ap 14 [kT,tB ⟨2,1,ByteArray.empty⟩]],order:=[(kV,true)],dv:=[1] }
def L6:Qu:= { items:=[(kV,ByteArray.empty)],bT:=⟨#[116]⟩,group:=[kT] }
def XE:Qu:= { items:=[(Ap 21 [],ByteArray.empty)],bT:=⟨#[116]⟩,cD:=[tB ⟨1,0,ByteArray.empty⟩] }
def wd0:dG:=L3 (gW dK::nW Zj::gW eC::vW::gW ez::nW xD::nW [116]::nW Ar::nW OO::L3 [eW])
def wd1:dG:=[vW,nW xD,nW [116],nW Io,tW,gW agQ,iW 1,nW Ip,nW OO,vW,nW OQ,nW Iq,iW 1,eW]
def wd2:dG:=[vW,nW xD,nW [116],nW Ar,nW OO,tW,eW]
def wd3:dG:=[nW Ir,gW eC,gW xE,gW ez,nW xD,nW [116],nW Io,nW Aq,eW]
theorem auU:uN (nW fl::wd0) XC [eW]:=
 Ax rfl rfl (.cons (L5 _ rfl rfl) rfl rfl (.one (LD (ZT 23 ⟨rfl,rfl,rfl,rfl⟩ (zk rfl).1 rfl rfl rfl rfl (Gx _ rfl rfl rfl rfl) rfl) ⟨rfl,rfl⟩ (Db rfl) rfl) rfl rfl)) Tab rfl rfl rfl rfl (.none rfl) (.some rfl rfl rfl (L5 _ rfl rfl)) rfl (.none rfl) (.none rfl)
theorem auV:uN (nW fl::wd1) XD [eW]:=
 Ax rfl rfl (.one (Gx _ rfl rfl rfl rfl) rfl rfl) Tab rfl rfl rfl rfl (.some rfl (amz 14 Tab Tab (Db rfl) rfl (Lu (zk rfl).1 rfl rfl rfl) ⟨rfl,rfl⟩ (ZQ rfl) ⟨rfl,rfl⟩ (Db rfl))) (.none rfl) rfl (.some rfl rfl rfl rfl (Gx _ rfl rfl rfl rfl)) (.some rfl rfl)
theorem auW:uN (nW fl::wd2) L6 [eW]:=
 Ax rfl rfl (.one (Gx _ rfl rfl rfl rfl) rfl rfl) Tab rfl rfl rfl rfl (.none rfl) (.some rfl rfl rfl (Gx _ rfl rfl rfl rfl)) rfl (.none rfl) (.none rfl)
theorem auX:uN (nW fl::wd3) XE [eW]:=
 Ax rfl rfl (.one (LD (UU 22 rfl (zk rfl).1 rfl rfl rfl rfl rfl rfl) ⟨rfl,rfl⟩ (Db rfl) rfl) rfl rfl) Tab rfl rfl rfl rfl (.some rfl (LD (Pp ⟨by decide,by decide⟩ rfl rfl) ⟨rfl,rfl⟩ (Db rfl) rfl)) (.none rfl) rfl (.none rfl) (.none rfl)
variable{s:ByteArray}{W:dG}
theorem AD(hl:(match zK s.data.toList with | .ok l=>l.map (·.w)| .error _=> [])=nW fl::W)(hs:s.size<=1000)(H:uN (nW fl::W) d [eW])(hnx:(tI d).exprs.length<=1000)(hdx:∀x∈(tI d).exprs,x.thin/\x.depth<=32)(w:World):ar 52 #[.string s] w (MD d w):=by
 cases e:zK s.data.toList with
 | error x=>rw[e] at hl;cases hl
 | ok l=>rw[e] at hl;exact acS s w WC e hl rfl H rfl hnx hdx
theorem aoV:∀x∈(tI XC).exprs,x.thin/\x.depth<=32:=by simp[tI,XC,St.exprs,Qu.exprs,rR,kT,kV,Ap,tB,ui,Tr.thin,Tr.za,Tr.depth,Tr.iz]
theorem aoW:∀x∈(tI XD).exprs,x.thin/\x.depth<=32:=by simp[tI,XD,St.exprs,Qu.exprs,rR,kT,kV,Ap,tB,ui,Tr.thin,Tr.za,Tr.depth,Tr.iz]
theorem aoX:∀x∈(tI L6).exprs,x.thin/\x.depth<=32:=by simp[tI,L6,St.exprs,Qu.exprs,rR,kT,kV,Ap,tB,ui,Tr.thin,Tr.za,Tr.depth,Tr.iz]
theorem aoY:∀x∈(tI XE).exprs,x.thin/\x.depth<=32:=by simp[tI,XE,St.exprs,Qu.exprs,rR,kT,kV,Ap,tB,ui,Tr.thin,Tr.za,Tr.depth,Tr.iz]
end Go.Proofs.YtndgjggokjickaaGreatDoor.R
namespace Go.Proofs.YtndgjggokjickaaGreatDoor
variable{p:Prop}
set_option maxHeartbeats 90000000
set_option maxRecDepth 100000
open Go.ChangeShapes Go.WideShapes Go.ChangeAt Go.RowKit List
set_option linter.unusedVariables false
set_option linter.unusedSimpArgs false
variable{w w':World}
theorem pM{p:Nat} (h:aj w w'):w.grownBy w' (some p):=⟨h.os,h.tape,h.output,h.size,λ k hk _=>h.block k hk⟩
variable{g:Nat}
theorem dU(h:w.grownBy w' (some g))(i:Nat)(v:Value):w.grownBy (w'.setCell ⟨g,i,none⟩ v) (some g):=
 ⟨h.os,h.tape,h.output,by simpa [World.setCell] using h.size,λ k hk hne=>(Below.heap_setCell w' ⟨g,i,none⟩ v k (λ e=>hne Tbb)).trans (h.block k hk hne)⟩
theorem Dc (m:R.B8):(R.sO m).toArray.size=28:=by simp[R.sO,R.LF,R.B9]
theorem acU (m:R.B8):(R.sO m).toArray.all (·.oneCell')=true:=by simp[R.sO,R.LF,R.nL,R.B9,Value.oneCell']
theorem L8:(Tryz.prog.info? 64).map (·.size)=some 28:=by exact Zgx
def ait:Array Value:=(R.sO {}).toArray
theorem L9 (m:R.xQ):(R.LF m).toArray.size=8:=by simp[R.LF]
theorem M0:(Tryz.prog.info? 27).map (·.size)=some 8:=by exact Zgx
def acV:Array Value:=(R.LF {}).toArray
def Jp:ByteArray:=⟨#[115,101,108,101,99,116,32]⟩
def M3 (d:R.Qu)(w:World)(e:Ending)(w':World):Prop:=∃y:R.xQ,e=.returned (R.quV y)/\d.at_ w' (Old w') y/\aj w w'
theorem M5 (s:ByteArray)(d:R.Qu)(hs:(Jp++s).size<=1000)(hp:∀w,ar 52 #[.string (Jp++s)] w (R.MD d w))(w:World):ar 25 #[.string s] w (M3 d w):=by
 have HP:=aa hp;have HX:=aB.new w 27 acV;have hB:=ah w (.cells acV 27);clear hp;go_enter Tryz.func25,Tryz.ntmps25;go_upto_region 1 with fail;change Code.wp _ _ _ _ (w.alloc (.cells acV 27));generalize w.alloc _=W1 at*;obtain⟨g,hg⟩:∃g,g=w.heap.size:=⟨_,rfl⟩;rw[<- hg] at HX ⊢;have hz:w.heap.size<=g:=by omega
 have hgW:=HX.lt;clear hg;have hz1:¬9223372036854775807 < 7+s.size:=by have h:=hs;rw[ByteArray.size_append] at h;have:Jp.size=7:=rfl;omega
 go_wp2_with fail;refine(HP.ae W1).mono ?_;rintro e yX ⟨qy,rfl,hat,b1⟩;obtain⟨y,hy⟩:∃y:R.B8,y= { kind:=8,query:=qy }:=⟨_,rfl⟩;rw[<- hy];replace hat:d.at_ yX (R.jg W1.heap.size yX) y.query:=by rw[hy];exact hat
 clear hy;have c4:=aa hat;replace HX:=HX.later b1;replace hB:=ai.then hB b1
 clear hat HP;obtain⟨cs,hcs⟩:∃cs,cs=(R.sO y).toArray:=⟨_,rfl⟩;have ZV:=aa (show(Tryz.prog.info? 64).map (·.size)=some cs.size by rw[hcs,Dc];exact L8);have LB:=aa (show ait.size=cs.size by rw[hcs,Dc];exact Dc _);have xO:=aa (show cs.all (·.oneCell')=true by rw[hcs];exact acU _);have Nt:=aa hcs;unfold R.stV;rw[<- hcs];clear hcs b1 hz1;have HX0:=ah yX (.cells cs 64);have H3:=aB.new yX 64 cs;have hg:=HX.lt;go_upto_region 2 with (first
  |(refine wpList_store_row rfl 64 (.tmp 3) (.tmp 10) rfl yX.heap.size cs rfl rfl 64 ait (aB.new yX 64 ait) ZV.ae LB.ae xO.ae ?_
    rw[World.setRow_alloc_new]))
 change Code.wp _ _ _ _ (yX.alloc (.cells cs 64));have auY:=aa (R.Qu.at_.keep (R.iP HX0) c4.ae);replace HX:=HX.later HX0;replace hB:=ai.then hB HX0;have l3:w.heap.size<=yX.heap.size:=by omega
 clear HX0 ZV LB xO c4;generalize yX.alloc _=UW at*;generalize yX.heap.size=qx at*;have c0:UW.cell? ⟨qx,7,none⟩=some (R.nL y.query.items):=(H3.cell 7).trans Tay;have c1:UW.cell? ⟨qx,8,none⟩=some (.string y.query.bT):=(H3.cell 8).trans Tay;have c2:UW.cell? ⟨qx,9,none⟩=some (.bool y.query.only):=(H3.cell 9).trans Tay;have c3:UW.cell? ⟨qx,10,none⟩=some (R.nL y.query.cD):=(H3.cell 10).trans Tay;have Kx:UW.cell? ⟨qx,11,none⟩=some (R.nL y.query.group):=(H3.cell 11).trans Tay;have c5:UW.cell? ⟨qx,12,none⟩=some (R.nL y.query.having):=(H3.cell 12).trans Tay;have c6:UW.cell? ⟨qx,13,none⟩=some (R.nL y.query.order):=(H3.cell 13).trans Tay;have c7:UW.cell? ⟨qx,14,none⟩=some (R.nL y.query.dv):=(H3.cell 14).trans Tay;unfold R.nL at c0 c3 Kx c5 c6 c7;have Gj:=HX.frozen;have z:∀j u,acV[j]?=some u->UW.cell? ⟨g,j,none⟩=some u:=λ j u h=>(HX.cell j).trans h
 have k0:=z 0 _ rfl;have k1:=z 1 _ rfl;have k2:=z 2 _ rfl;have k3:=z 3 _ rfl;have k4:=z 4 _ rfl;have k5:=z 5 _ rfl;have k6:=z 6 _ rfl;have z7:=z 7 _ rfl;have HR0:=((((((((HX.aT 0 (.slice y.query.items.A y.query.items.n y.query.items.c)).aT 1 (.string y.query.bT)).aT 2 (.bool y.query.only)).aT 3 (.slice y.query.cD.A y.query.cD.n y.query.cD.c)).aT 4 (.slice y.query.group.A y.query.group.n y.query.group.c)).aT 5 (.slice y.query.having.A y.query.having.n y.query.having.c)).aT 6 (.slice y.query.order.A y.query.order.n y.query.order.c)).aT 7 (.slice y.query.dv.A y.query.dv.n y.query.dv.c));have xS:=aa (dU (dU (dU (dU (dU (dU (dU (dU (pM (p:=g) (Below.refl UW.heap.size UW)) 0 (.slice y.query.items.A y.query.items.n y.query.items.c)) 1 (.string y.query.bT)) 2 (.bool y.query.only)) 3 (.slice y.query.cD.A y.query.cD.n y.query.cD.c)) 4 (.slice y.query.group.A y.query.group.n y.query.group.c)) 5 (.slice y.query.having.A y.query.having.n y.query.having.c)) 6 (.slice y.query.order.A y.query.order.n y.query.order.c)) 7 (.slice y.query.dv.A y.query.dv.n y.query.dv.c));have I4:=aa ((((((((hB.setCell (p:=⟨g,0,none⟩) hz (.slice y.query.items.A y.query.items.n y.query.items.c)).setCell (p:=⟨g,1,none⟩) hz (.string y.query.bT)).setCell (p:=⟨g,2,none⟩) hz (.bool y.query.only)).setCell (p:=⟨g,3,none⟩) hz (.slice y.query.cD.A y.query.cD.n y.query.cD.c)).setCell (p:=⟨g,4,none⟩) hz (.slice y.query.group.A y.query.group.n y.query.group.c)).setCell (p:=⟨g,5,none⟩) hz (.slice y.query.having.A y.query.having.n y.query.having.c)).setCell (p:=⟨g,6,none⟩) hz (.slice y.query.order.A y.query.order.n y.query.order.c)).setCell (p:=⟨g,7,none⟩) hz (.slice y.query.dv.A y.query.dv.n y.query.dv.c))
 have HR:=aa (show aB _ g 27 (R.LF y.query).toArray from HR0);clear z HX hB HR0 H3;go_wp2_with fail;have HQ:=R.Qu.at_.keep (λ b hb=>((R.lK xS.ae hgW) b hb).imp id λ h=>h.2) auY.ae;exact bodyPost_ret (v:=R.quV y.query) (results_cell_row Tryz.results25 _ _ g 27 (R.LF y.query).toArray (0,0) _ rfl HR.ae Tryz.underlying27 rfl (by rw[L9];exact M0)) rfl ⟨y.query,rfl,HQ,I4.ae⟩
theorem sX (s:ByteArray)(d:R.Qu)(hs:(Jp++s).size<=1000)(hp:∀w,ar 52 #[.string (Jp++s)] w (R.MD d w))(w:World):ar 25 #[.string s] w λ e w'=>∃L,e=.returned (mR (fo d) L)/\pY w' (fo d) L/\aj w w':=by refine(M5 s d hs hp w).mono ?_;rintro e w1 ⟨y,rfl,hat,b⟩;obtain⟨h1,h2⟩:=SR hat;exact⟨PG y,by rw[h2],h1,b⟩
def N5 (n:Nat):Prop:=n<=5
def acW (s:St):Val×Int:=if s.op=21 then(num s.all,0)else s.total
variable{op:Int}
theorem aiu(h:op=21\/op=23)(l:List (Val×Val)):gD (lf op l)=acW (lf op l):=by
 rcases h with rfl | rfl
 ·have hr:=Am (op:=21) WC WC l;have h:=Ik (s:=lf 21 l) ⟨num (lf 21 l).all,0,by unfold gH;rw[hr.kind];simp⟩;unfold gH at h;rw[hr.kind] at h;simp only[if_pos] at h;unfold acW;rw[hr.kind,if_pos rfl];exact Prod.ext h.1 h.2
 ·have hr:=Am (op:=23) WC WC l;have h:=Ik (s:=lf 23 l) ⟨(lf 23 l).total.1,(lf 23 l).total.2,by unfold gH;rw[hr.kind];simp⟩;unfold gH at h;rw[hr.kind] at h;unfold acW;rw[hr.kind,if_neg Tab];rw[if_neg Tab,if_neg Tab,if_pos rfl] at h;exact Prod.ext h.1 h.2
def wN (ops:List Int)(l:List (List Val×List (Val×Val)))(k:List Val):List (Val×Int):=(List.range ops.length).map λ i=>acW (lf (ops.getD i 0) (pZ i l k))
variable{ops:List Int}
theorem VL(h:∀op∈ops,op=21\/op=23)(l:List (List Val×List (Val×Val)))(k:List Val):dP ops l k=wN ops l k:=by
 unfold dP wN;refine map_congr_left λ i hi=>?_
 rw[mem_range] at hi;exact aiu (h _ (by rw[getD_eq_getElem?_getD,getElem?_eq_getElem hi];exact getElem_mem hi)) _
def Jq (ng:Nat)(aJ:List Tr)(l:List (List Val)):Except Int (List (List Val)):=
 let ps:=l.map λ r=>(r.take ng,gS aJ (r.drop ng))
 let ks:=if ng=0 then [[]] else iN (ps.map (·.1))
 let e:=dx (ks.map λ k=>cL (wN (aJ.map Tr.op) ps k))
 if e≠0 then .error e else .ok (ks.map λ k=>k++(wN (aJ.map Tr.op) ps k).map (·.1))
variable{ng:Nat}
theorem M6{aJ:List Tr}(h:∀op∈aJ.map Tr.op,op=21\/op=23)(l:List (List Val)):jP ng aJ l=Jq ng aJ l:=by unfold jP Jq;simp only[VL h]
def M7 (q:Qy)(p:ji)(cols:List aX)(rows:List (List Val)):Except Int (List (List Val)):=
 if (cZ cols q.cD rows).2≠0 then .error (cZ cols q.cD rows).2
 else if p.aK=false then .ok (cZ cols q.cD rows).1
 else match Ee ((cZ cols q.cD rows).1.map λ r=>bB cols r (q.aL++p.st.aJ.flatMap Tr.args))with
 | .error e=> .error e
 | .ok l=>match Jq q.aL.length p.st.aJ l with
   | .error e=> .error e
   | .ok gs=>if (cZ p.st.aL p.having gs).2≠0 then .error (cZ p.st.aL p.having gs).2 else .ok (cZ p.st.aL p.having gs).1
def aiv (p:ji)(cols:List aX)(rows:List (List Val)):Except Int (List fk):=
 Ee (rows.map λ r=>match bB (iO p cols) r (p.items++p.order)with | .error e=> .error e | .ok l=> .ok (RZ p r l))
def aoZ (q:Qy)(cols:List aX)(rows:List (List Val)):Except Int (List aX×List (List Val)):=
 match dS q cols with
 | .error e=> .error e
 | .ok p=>if rows.any (λ r=> !jq cols r)=true then .error 40
   else match M7 q p cols rows with
   | .error e=> .error e
   | .ok left=>match aiv p cols left with
     | .error e=> .error e
     | .ok ls=> .ok (p.head,((match q.lim with | []=>jr (q.ord.map λ o:Tr×Bool=>o.2) ls | n::_=>(jr (q.ord.map λ o:Tr×Bool=>o.2) ls).take n.toNat).map fk.row))
def sY (q:Qy)(cols:List aX):Bool:=match dS q cols with
 | .error _=>true
 | .ok p=>(p.st.aJ.map Tr.op).all λ op=>op==21 || op==23
variable{q:Qy}{cols:List aX}
theorem Th(h:sY q cols=true)(rows:List (List Val)):jF q cols rows=aoZ q cols rows:=by
 unfold jF aoZ;unfold sY at h
 cases hp:dS q cols with
 | error e=>rfl
 | ok p=>
   rw[hp] at h;have kI:∀op∈p.st.aJ.map Tr.op,op=21\/op=23:=λ op ho=>by have:=List.all_eq_true.1 h op ho;simpa using this
   have hl:qX q p cols rows=M7 q p cols rows:=by unfold qX M7;simp only[M6 kI];rfl
   show(if _ then _ else match qX q p cols rows with | .error e=>_ | .ok left=>match uh p cols left with | .error e=>_ | .ok ls=>_)=_;rw[hl];rfl
def my:List aX:=[⟨⟨#[116,105,109,101]⟩,2⟩,⟨⟨#[118]⟩,2⟩]
def wO:List (List Val):=[[num 1,num 5],[num 2,num 7],[num 6,num 1]]
def t0B:ByteArray:=⟨#[98,117,99,107,101,116,40,53,44,32,116,105,109,101,41,44,32,115,117,109,40,118,41,32,102,114,111,109,32,116,32,103,114,111,117,112,32,98,121,32,98,117,99,107,101,116,40,53,44,32,116,105,109,101,41]⟩
theorem apa (w:World):ar 52 #[.string (Jp++t0B)] w (R.MD R.XC w):=R.AD (W:=R.wd0) Taa Tab R.auU Tab R.aoV w
theorem acX:sY (fo R.XC) my=true:=by exact Zgx
def QB:List aX:=match dS (fo R.XC) my with | .ok p=>p.head | .error _=> []
theorem acY:jF (fo R.XC) my wO=.ok (QB,[[num 0,num 12],[num 5,num 1]]):=by rw[Th acX];exact Zgx
def t1B:ByteArray:=⟨#[118,32,102,114,111,109,32,116,32,119,104,101,114,101,32,116,105,109,101,32,62,32,49,32,111,114,100,101,114,32,98,121,32,118,32,100,101,115,99,32,108,105,109,105,116,32,49]⟩
theorem apb (w:World):ar 52 #[.string (Jp++t1B)] w (R.MD R.XD w):=R.AD (W:=R.wd1) Taa Tab R.auV Tab R.aoW w
theorem acZ:sY (fo R.XD) my=true:=by exact Zgx
def QC:List aX:=match dS (fo R.XD) my with | .ok p=>p.head | .error _=> []
theorem ada:jF (fo R.XD) my wO=.ok (QC,[[num 7]]):=by rw[Th acZ];exact Zgx
def t2B:ByteArray:=⟨#[118,32,102,114,111,109,32,116,32,103,114,111,117,112,32,98,121,32,116,105,109,101]⟩
theorem apc (w:World):ar 52 #[.string (Jp++t2B)] w (R.MD R.L6 w):=R.AD (W:=R.wd2) Taa Tab R.auW Tab R.aoX w
theorem adb:sY (fo R.L6) my=true:=by exact Zgx
theorem ade:jF (fo R.L6) my wO=.error 42:=by rw[Th adb];exact Zgx
def t3B:ByteArray:=⟨#[99,111,117,110,116,40,42,41,32,102,114,111,109,32,116,32,119,104,101,114,101,32,102,97,108,115,101]⟩
theorem apd (w:World):ar 52 #[.string (Jp++t3B)] w (R.MD R.XE w):=R.AD (W:=R.wd3) Taa Tab R.auX Tab R.aoY w
theorem adf:sY (fo R.XE) my=true:=by exact Zgx
def QD:List aX:=match dS (fo R.XE) my with | .ok p=>p.head | .error _=> []
theorem adg:jF (fo R.XE) my wO=.ok (QD,[[num 0]]):=by rw[Th adf];exact Zgx
theorem zdX.KaK(h:p:=by clear HX hB HB;go_wp2_with fail;exact bodyPost_ret (v:=.agg #[ag 2,af n,au]) (results_cell_row Tryz.results27 _ _ g 44 _ (0,0) _ rfl HR.ae Tryz.underlying44 rfl rfl) rfl ⟨rfl,I4.ae⟩):p:=h
theorem ze5.Ka4(h:p:=by
 rw[<- hg] at HX ⊢;have hz:w.heap.size<=g:=by omega
 clear hg;have HB:=aa hB;have HR:=(((HX.aT 0 (ag 2)).aT 1 (af n)).aT 2 (au));have I4:=aa (((hB.setCell (p:=⟨g,0,none⟩) hz (ag 2)).setCell (p:=⟨g,1,none⟩) hz (af n)).setCell (p:=⟨g,2,none⟩) hz (au));have HR:=aa (show aB _ g 44 #[ag 2,af n,au] from HR);open zdX in exact ZbM):p:=h
theorem fC (n:Int)(w:World):ar 27 #[af n] w λ e w'=>e=.returned (.agg #[ag 2,af n,au])/\aj w w':=by have hB:=ah w (.cells #[ag 0,af 0,au] 44);have HX:=aB.new w 44 #[ag 0,af 0,au];go_enter Tryz.func27,Tryz.ntmps27;open ze5 in exact ZcK
variable{a b:Int}
theorem Dd(h:aB w g 44 #[ag 2,af a,au,ag 2,af b,au]):RV w w.heap.size (some ⟨g,0,none⟩) [num a,num b]:=by
 refine .inr ⟨_,0,rfl,h.lt,λ i x hx=>?_⟩
 match i,hx with
 | 0,hx=>exact Zhe
 | 1,hx=>injection hx with hx;subst hx;exact⟨h.cell 3,h.cell 4,h.cell 5⟩
 | n+2,hx=>cases hx
theorem ziE.Kcu(h:p:=by
 clear b1;have K4:=aa (aB.new (w6.alloc (.cells #[ag 2,af 6,au,ag 2,af 1,au] 44)) 38 #[aH w2.heap.size 2 2,aH w4.heap.size 2 2,aH w6.heap.size 2 2]);generalize World.alloc (World.alloc w6 _) _=W at*;rw[World.size_alloc] at K4;refine bodyPost_ret (v:=.tuple #[aH w.heap.size 2 2,aH (w6.heap.size+1) 3 3]) (by simp[results,Tryz.results24,go_sem];done) rfl ?_;refine⟨some ⟨w.heap.size,0,none⟩,2,some ⟨w6.heap.size+1,0,none⟩,3,[⟨some ⟨w2.heap.size,0,none⟩,[num 1,num 5],2⟩,⟨some ⟨w4.heap.size,0,none⟩,[num 2,num 7],2⟩,⟨some ⟨w6.heap.size,0,none⟩,[num 6,num 1],2⟩],rfl,?_,?_,rfl,HB.ae⟩
 ·refine .inr ⟨_,0,rfl,Q3.ae.lt,λ i x hx=>?_⟩
  match i,hx with
  | 0,hx=>injection hx with hx;subst hx;exact⟨Q3.ae.cell 0,Q3.ae.cell 1⟩
  | 1,hx=>injection hx with hx;subst hx;exact⟨Q3.ae.cell 2,Q3.ae.cell 3⟩
  | n+2,hx=>cases hx
 ·refine .inr ⟨_,0,rfl,K4.ae.lt,λ i x hx=>?_⟩
  match i,hx with
  | 0,hx=>injection hx with hx;subst hx;exact⟨K4.ae.cell 0,Dd K1.ae⟩
  | 1,hx=>injection hx with hx;subst hx;exact⟨K4.ae.cell 1,Dd K2.ae⟩
  | 2,hx=>injection hx with hx;subst hx;exact⟨K4.ae.cell 2,Dd K3.ae⟩
  | n+3,hx=>cases hx):p:=h
theorem VM (w:World):ar 24 #[] w λ e w'=>∃CA cc RA rc rs,e=.returned (.tuple #[.slice CA my.length cc,.slice RA rs.length rc])/\RC w' w'.heap.size CA my/\RR w' w'.heap.size RA rs/\rs.map (·.l)=wO/\aj w w':=by
 go_enter Tryz.func24,Tryz.ntmps24;go_wp2_with fail;have HB:=aa (ah w (.cells #[.string ⟨#[116,105,109,101]⟩,ag 2,.string ⟨#[118]⟩,ag 2] 113));have Q3:=aa (aB.new w 113 #[.string ⟨#[116,105,109,101]⟩,ag 2,.string ⟨#[118]⟩,ag 2]);refine(fC _ _).mono ?_;rintro e w1 ⟨rfl,b1⟩;replace Q3:=aa (Q3.ae.later b1);replace HB:=aa (ai.then HB.ae b1);clear b1;go_wp2_with fail;refine(fC _ _).mono ?_;rintro e w2 ⟨rfl,b1⟩;replace Q3:=aa (Q3.ae.later b1);replace HB:=aa (ai.then HB.ae b1);clear b1;go_wp2_with fail;have b1:=ah w2 (.cells #[ag 2,af 1,au,ag 2,af 5,au] 44);replace Q3:=aa (Q3.ae.later b1);replace HB:=aa (ai.then HB.ae b1);clear b1;have K1:=aa (aB.new w2 44 #[ag 2,af 1,au,ag 2,af 5,au]);refine(fC _ _).mono ?_;rintro e w3 ⟨rfl,b1⟩;replace Q3:=aa (Q3.ae.later b1);replace K1:=aa (K1.ae.later b1);replace HB:=aa (ai.then HB.ae b1);clear b1;go_wp2_with fail;refine(fC _ _).mono ?_;rintro e w4 ⟨rfl,b1⟩;replace Q3:=aa (Q3.ae.later b1);replace K1:=aa (K1.ae.later b1);replace HB:=aa (ai.then HB.ae b1);clear b1;go_wp2_with fail;have b1:=ah w4 (.cells #[ag 2,af 2,au,ag 2,af 7,au] 44);replace Q3:=aa (Q3.ae.later b1);replace K1:=aa (K1.ae.later b1);replace HB:=aa (ai.then HB.ae b1);clear b1;have K2:=aa (aB.new w4 44 #[ag 2,af 2,au,ag 2,af 7,au]);refine(fC _ _).mono ?_;rintro e w5 ⟨rfl,b1⟩;replace Q3:=aa (Q3.ae.later b1);replace K1:=aa (K1.ae.later b1);replace K2:=aa (K2.ae.later b1);replace HB:=aa (ai.then HB.ae b1);clear b1;go_wp2_with fail;refine(fC _ _).mono ?_;rintro e w6 ⟨rfl,b1⟩;replace Q3:=aa (Q3.ae.later b1)
 replace K1:=aa (K1.ae.later b1);replace K2:=aa (K2.ae.later b1);replace HB:=aa (ai.then HB.ae b1);clear b1;go_wp2_with fail;have b1:=ah w6 (.cells #[ag 2,af 6,au,ag 2,af 1,au] 44);replace Q3:=aa (Q3.ae.later b1);replace K1:=aa (K1.ae.later b1);replace K2:=aa (K2.ae.later b1);replace HB:=aa (ai.then HB.ae b1);clear b1;have K3:=aa (aB.new w6 44 #[ag 2,af 6,au,ag 2,af 1,au]);have b1:=ah (w6.alloc (.cells #[ag 2,af 6,au,ag 2,af 1,au] 44)) (.cells #[aH w2.heap.size 2 2,aH w4.heap.size 2 2,aH w6.heap.size 2 2] 38);open ziE in exact ZhF
def x6V (vx:Val)(gv b off n cc k:Nat)(ct:Int)(gd nz ne:Bool):Nat->World->Value->Prop
 | 0,_,v=>v=.agg (aD vx)
 | 1,_,v=>v=(cond gd (.bool true) (.bool false))
 | 2,_,v=>v=(cond gd (.bool false) (.bool true))
 | 3,_,v=>v=(cond gd (.bool false) (.bool true))
 | 4,_,v=>v=(cond gd (aw gv) (undef))
 | 5,_,v=>v=(cond gd (ag vx.k) (undef))
 | 6,_,v=>v=(cond gd ((cond nz (.bool true) (.bool false))) (undef))
 | 7,_,v=>v=(cond gd ((cond nz (.bool true) (.bool false))) (undef))
 | 8,_,v=>v=(cond gd ((cond nz (aw gv) (undef))) (undef))
 | 9,_,v=>v=(cond gd ((cond nz (ag vx.k) (undef))) (undef))
 | 10,_,v=>v=(cond gd ((cond nz (.slice (some ⟨b,off,none⟩) n cc) (undef))) (undef))
 | 11,_,v=>v=(cond gd ((cond nz (af k) (undef))) (undef))
 | 12,_,v=>v=(cond gd ((cond nz (bh b (off+k*2)) (undef))) (undef))
 | 13,_,v=>v=(cond gd ((cond nz (bh b (off+k*2+1)) (undef))) (undef))
 | 14,_,v=>v=(cond gd ((cond nz (ag ct) (undef))) (undef))
 | 15,_,v=>v=(cond gd ((cond nz ((cond ne (.bool true) (.bool false))) (undef))) (undef))
 | 16,_,v=>v=(cond gd ((cond nz ((cond ne (.bool true) (.bool false))) (.bool false))) (undef))
 | 17,_,v=>v=(cond gd ((cond nz ((cond ne (.bool true) (.bool false))) (.bool false))) (.bool true))
 | _,_,_=>False
theorem VN (vx:Val)(gv b off n cc k:Nat)(ct:Int)(gd nz ne:Bool):∀i w w' v,x6V vx gv b off n cc k ct gd nz ne i w v->ai w w'->x6V vx gv b off n cc k ct gd nz ne i w' v:=by
 intro i w w' v h hl
 match i with
 | 0 | 1 | 2 | 3 | 4 | 5 | 6 | 7 | 8 | 9 | 10 | 11 | 12 | 13 | 14 | 15 | 16 | 17=>exact h
 | n+18=>exact h
variable{c:aX}{v:Val}{cs:List aX}{vs:List Val}
theorem og:jq (c::cs) (v::vs)=(FB c v && jq cs vs):=rfl
theorem ME:∀ {cs:List aX} {vs:List Val},cs.length≠vs.length->jq cs vs=false
 | [],[],h=>absurd rfl h
 | [],_::_,_=>rfl
 | _::_,[],_=>rfl
 | c::cs,v::vs,h=>by rw[og,ME (λ e=>h (by simp[e])),Bool.and_false]
theorem zhg.KbU(h:p:=by
 have h1:_=_:=hr.2.1;have KK:(k:Int)<(cols.length:Int):=by omega
 exact aq (w':=w3) (by simp[go_sem,h0,h1,KK,tu,et];done) ⟨ai.refl _,rfl⟩):p:=h
theorem zhh.KbU(h:p:=by have jk:=(hL.cell (p:=⟨Kx,azw+k*2+1,none⟩) HBS.ae).trans HCT.ae;exact ZdF):p:=h
theorem zhi.KbU(h:p:=by have h1:_=_:=hr.2.1;have e1:=nJ.ae.2 rfl;exact ZgE):p:=h
theorem zhj.KbU(h:p:=by have h1:_=_:=hr.2.1;have e1:=nJ.ae.1 rfl;exact ZgE):p:=h
theorem M8 (cols:List aX)(CA:Option Addr)(cc:Nat)(row:List Val)(RA:Option Addr)(rc:Nat)(w:World)(oy:cols.length<=140737488355328)(HZ:row.length<=140737488355328)(kZ:RC w w.heap.size CA cols)(hg4:RV w w.heap.size RA row):
  ar 31 #[.slice CA cols.length cc,.slice RA row.length rc] w λ e w'=>e=.returned (.bool (jq cols row))/\aj w w':=by
 have HI:=aa kZ;have JO:=aa hg4;have Gi:=aa oy;have tD:=aa HZ;clear kZ hg4 oy HZ;obtain⟨rt,hrt⟩:∃rt,rt=jq cols row:=⟨_,rfl⟩;rw[<- hrt];have KZ:=aa hrt;clear hrt;by_cases hl:cols.length=row.length
 case neg=>
  have hr:rt=false:=by rw[KZ.ae];exact ME hl
  subst hr;have t1:((cols.length:Int) !=(row.length:Int))=true:=by simp;omega
  have t2:decide ((cols.length:Int)=(row.length:Int))=false:=by simp;omega
  have t3:decide (cols.length=row.length)=false:=by simp[hl]
  have hb:=Below.refl w.heap.size w;clear hl;go_enter Tryz.func31,Tryz.ntmps31;exact ZeN
 have t1:((cols.length:Int) !=(row.length:Int))=false:=by simp[hl]
 have t2:decide ((cols.length:Int)=(row.length:Int))=true:=by simp[hl]
 have t3:decide (cols.length=row.length)=true:=by simp[hl]
 have zh:=aa hl;clear hl;go_enter Tryz.func31,Tryz.ntmps31;go_wp2_with fail;clear t1 t2 t3;go_loopw [14] (λ i wr=>∃k:Nat,k<=row.length/\i=af k/\rt=jq (cols.drop k) (row.drop k)/\aj w wr) (λ i _=>row.length - (intOf i).toNat);case atStart=>exact⟨0,Nat.zero_le _,rfl,KZ.ae,Below.refl _ _⟩
 case round=>
  clear KZ;obtain⟨k,hk,rfl,hp,hb⟩:=hrel;have HP:=aa hp;clear hp;have HZ:=tD.ae;by_cases hlt:k < row.length
  ·have tu:k < cols.length:=by have:=zh.ae;omega
   obtain⟨b2,aBz,rfl,hb1,hx⟩:=(JO.ae.below hb).at_ hlt;obtain⟨Kx,azw,rfl,hb2,RH⟩:=(HI.ae.below hb).at_ tu;have IC:=aa (show cols.drop k=cols[k]::cols.drop (k+1)from drop_eq_getElem_cons tu);have JN:=aa (show row.drop k=row[k]::row.drop (k+1)from drop_eq_getElem_cons hlt);generalize row[k]=v at*;generalize cols[k]=c at*;unfold eh at hx;unfold pS at RH;go_upto_region 6 with fail;have HG:=aB.new wr 44 (aD v);have bV:=ah wr (.cells (aD v) 44);have hct:=(bV.cell (p:=⟨Kx,azw+k*2+1,none⟩) (Nat.lt_of_lt_of_le hb2 hb.size)).trans RH.2;have HCT:=aa hct;have hB:=ai.then hb bV;have JJ:Kx <(wr.alloc (.cells (aD v) 44)).heap.size:=Nat.lt_of_lt_of_le (Nat.lt_of_lt_of_le hb2 hb.size) bV.size;have HBS:=aa JJ;generalize wr.alloc _=W2 at*;obtain⟨g8,Xp⟩:∃g8,g8=wr.heap.size:=⟨_,rfl⟩;rw[<- Xp] at HG ⊢;clear Xp hx RH hct bV JJ;obtain⟨gd,hgd⟩:∃gd,gd=good v:=⟨_,rfl⟩
   obtain⟨nz,hnz⟩:∃nz:Bool,(nz=true->v.k≠0)/\(nz=false->v.k=0):=by
    by_cases h:v.k=0
    ·exact⟨false,λ h=> Tae,λ _=>h⟩
    ·exact ZgB
   obtain⟨ne,hne⟩:∃ne:Bool,(ne=true->v.k≠c.t)/\(ne=false->v.k=c.t):=by
    by_cases h:v.k=c.t
    ·exact⟨false,λ h=> Tae,λ _=>h⟩
    ·exact ZgB
   have Nz:=aa hgd;have Xz:=aa hnz;have nJ:=aa hne;clear hgd hnz hne;refine bC 18 (x6V v g8 Kx azw cols.length cc k c.t gd nz ne) (VN _ _ _ _ _ _ _ _ _ _ _) Taa Taa Taa ?_ ?_
   ·simp only[take_succ_cons,take_zero];refine⟨?_,?_,Zhu,Zhu,?_,?_,?_,?_,ZaX,?_,ZaX,ZaX,?_,ZaX,?_,?_,?_,?_,trivial⟩
    ·intro ρ w3 hc hL hr;exact ZcV
    ·intro ρ w3 hc hL hr;cases gd
     ·exact Zdv
     ·exact Zdv
    ·intro ρ w3 hc hL hr;cases gd
     ·exact Zbr
     ·exact Zfq
    ·intro ρ w3 hc hL hr;cases gd
     ·exact Zbr
     ·skip;intro hg;have hg:ρ (.tmp 22)=.bool false:=hg;refine⟨λ _=>?_,λ hn=>absurd hg hn⟩;exact ZcV
    ·intro ρ w3 hc hL hr;cases gd
     ·exact Zf1
     ·skip;cases nz
      ·skip;cases ne
       ·exact Zde
       ·exact Zde
      ·skip;cases ne
       ·exact Zdf
       ·exact Zdf
    ·intro ρ w3 hc hL hr;cases gd
     ·skip;cases nz
      ·exact Zbr
      ·exact Zbr
     ·skip;cases nz
      ·exact Zfq
      ·exact Zfq
    ·intro ρ w3 hc hL hr;cases gd
     ·exact Zf7
     ·skip;cases nz
      ·exact ZcJ
      ·skip;intro hg;have hg:ρ (.tmp 26)=.bool true:=hg;refine⟨λ _=>?_,λ hn=>absurd hg hn⟩;exact ZcV
    ·intro ρ w3 hc hL hr;cases gd
     ·exact Zf7
     ·skip;cases nz
      ·exact ZcJ
      ·open zhg in exact Ze3
    ·intro ρ w3 hc hL hr;cases gd
     ·exact Zf7
     ·skip;cases nz
      ·exact ZcJ
      ·open zhh in exact Ze3
    ·intro ρ w3 hc hL hr;cases gd
     ·skip;cases nz
      ·skip;cases ne
       ·exact ZbC
       ·exact ZbC
      ·skip;cases ne
       ·exact ZbC
       ·exact ZbC
     ·skip;cases nz
      ·skip;cases ne
       ·exact ZcJ
       ·exact ZcJ
      ·skip;cases ne
       ·open zhi in exact Ze3
       ·open zhj in exact Ze3
    ·intro ρ w3 hc hL hr;cases gd
     ·exact Zf1
     ·skip;cases nz
      ·skip;cases ne
       ·exact Zcx
       ·exact Zcx
      ·skip;cases ne
       ·exact Zcx
       ·exact Zcx
    ·intro ρ w3 hc hL hr;cases gd
     ·skip;cases nz
      ·exact Zff
      ·exact Zff
     ·skip;cases nz
      ·exact Zff
      ·exact Zff
   intro W3 hL;simp only[Uab];rintro a0 - a1 - a2 - a3 - a4 - a5 - a6 - a7 - a8 - a9 - FA - F8 - a12 - a13 - a14 - a15 - a16 - _ rfl;simp only[bE,Act.put,Uac];have hW:=ai.then hB hL;clear HG HCT HBS hB hL hb;cases gd
   ·skip;have hr:rt=false:=by rw[HP.ae,IC.ae,JN.ae,og];unfold FB;rw[<- Nz.ae];rfl
    exact ZgV
   ·cases nz
    ·skip;have hr:rt=jq (cols.drop (k+1)) (row.drop (k+1)):=by rw[HP.ae,IC.ae,JN.ae,og];unfold FB;rw[<- Nz.ae];rw[Xz.ae.2 rfl];rfl
     have HR:=aa hr;clear hr HP IC JN Nz Xz nJ;exact ZcD
    ·cases ne
     ·skip;have hr:rt=jq (cols.drop (k+1)) (row.drop (k+1)):=by rw[HP.ae,IC.ae,JN.ae,og];unfold FB;rw[<- Nz.ae];rw[nJ.ae.2 rfl];simp
      have HR:=aa hr;clear hr HP IC JN Nz Xz nJ;exact ZcD
     ·skip
      have hr:rt=false:=by
       rw[HP.ae,IC.ae,JN.ae,og];unfold FB;rw[<- Nz.ae];have e1:(v.k==0)=false:=by have:=Xz.ae.1 rfl;simpa using this
       have e2:(v.k==c.t)=false:=by have:=nJ.ae.1 rfl;simpa using this
       rw[e1,e2];rfl
      exact ZgV
  ·have fH:k=row.length:=by omega
   have hr:rt=true:=by rw[HP.ae,drop_eq_nil_of_le (by have:=zh.ae;omega),drop_eq_nil_of_le WC];rfl
   subst hr;exact ZeN
theorem zfA.Kbh(h:p:=by obtain⟨y,sb⟩:=yb;dsimp only at*;have HS:=aa hS;have oJ:=aa fZ;clear hS fZ;skip;exact Zfh):p:=h
theorem Jr (gc:Nat)(A:Option Addr)(c:Nat)(args:List (aW×Bool))(w:World)(hl:args.length<=1599289640356)(hA:RR w w.heap.size A (args.map (·.1)))(hE:∀a∈args,∀W,aj w W->ar 30 #[.slice a.1.A a.1.l.length a.1.c,aw gc] W λ e w'=>e=.returned (.bool a.2)/\aj W w'):
  ar 62 #[.slice A args.length c,.func (.func 30) #[] #[.pointer (some ⟨gc,0,none⟩)]] w λ e w'=>e=.returned (.int .i64 (fQ (args.map (·.2))))/\aj w w':=by
 have HA:=aa hA;have HE:=aa hE;clear hA hE;go_enter Tryz.func62,Tryz.ntmps62;go_wp2_with fail;go_loopw [5,8] (λ _ i wr=>∃k:Nat,k<=args.length/\i=af k/\(∀j,j < k->(args.map (·.2)).getD j false=false)/\aj w wr) (λ _ i _=>args.length - (intOf i).toNat);case atStart=>exact Zfi
 case round=>
  obtain⟨k,hk,rfl,hp,hb⟩:=hrel;have HP:=aa hp;clear hp;by_cases hlt:k < args.length
  ·open zfA in exact Zdt
  ·exact Zdj
theorem Ac (gc:Nat)(A:Option Addr)(c:Nat)(args:List (aW×Bool))(w:World)(hl:args.length<=1599289640356)(hA:RR w w.heap.size A (args.map (·.1)))(hE:∀a∈args,∀W,aj w W->ar 30 #[.slice a.1.A a.1.l.length a.1.c,aw gc] W λ e w'=>e=.returned (.bool a.2)/\aj W w'):
  ar 29 #[.slice A args.length c,.func (.func 30) #[] #[.pointer (some ⟨gc,0,none⟩)]] w λ e w'=>e=.returned (.bool ((args.map (·.2)).any id))/\aj w w':=by have hi:=Jr gc A c args w hl hA hE;rw[vN];clear hA hE;go_enter Tryz.func29,Tryz.ntmps29;exact Za0
theorem MF (gc:Nat)(cols:List aX)(CA:Option Addr)(cc:Nat)(r:aW)(w:World)(hgc:gc < w.heap.size)(hcc:w.cell? ⟨gc,0,none⟩=some (.slice CA cols.length cc))(cf:cols.length<=140737488355328)(kN:r.l.length<=140737488355328)(hC:RC w w.heap.size CA cols)(hV:RV w w.heap.size r.A r.l):
  ar 30 #[.slice r.A r.l.length r.c,aw gc] w λ e w'=>e=.returned (.bool (!jq cols r.l))/\aj w w':=by have h:=M8 cols CA cc r.l r.A r.c w cf kN hC hV;have HH:=aa h;clear h hC hV cf kN;go_enter Tryz.func30,Tryz.ntmps30;go_wp2_with fail;refine HH.ae.mono ?_;exact ZcX
theorem MG (gc:Nat)(cols:List aX)(CA:Option Addr)(cc:Nat)(rows:List aW)(A:Option Addr)(c:Nat)(w:World)(hgc:gc < w.heap.size)(hcc:w.cell? ⟨gc,0,none⟩=some (.slice CA cols.length cc))(cf:cols.length<=140737488355328)(hn:rows.length<=1599289640356)(kN:∀r∈rows,r.l.length<=140737488355328)(hC:RC w w.heap.size CA cols)(hR:RR w w.heap.size A rows):
  ar 29 #[.slice A rows.length c,.func (.func 30) #[] #[.pointer (some ⟨gc,0,none⟩)]] w λ e w'=>e=.returned (.bool (rows.any λ r=> !jq cols r.l))/\aj w w':=by
 have h:=Ac gc A c (rows.map λ r=>(r,!jq cols r.l)) w (by simpa using hn) (by simpa [Function.comp_def] using hR) (λ a ha W hW=>by
  obtain⟨r,hr,rfl⟩:=List.mem_map.1 ha
  have vd:RV W W.heap.size r.A r.l:=by
   obtain⟨k,hk,he⟩:=getElem_of_mem hr
   obtain⟨b,off,_,_,_,h5⟩:=(hR.below hW).at_ hk
   rw[he] at h5
   exact h5.more hW.size
  exact MF gc cols CA cc r W (Nat.lt_of_lt_of_le hgc hW.size) ((hW.cell (p:=⟨gc,0,none⟩) hgc).trans hcc) cf (kN r hr) (hC.later hW) vd)
 rw[length_map,map_map,any_map] at h;exact h
end Go.Proofs.YtndgjggokjickaaGreatDoor
