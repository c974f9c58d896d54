/- Parts of the proof. -/
import Derived.Deep.WholeRow
import Derived.Test.YtndgjggokjickaaGreatDoorXW7
namespace Go.Proofs.YtndgjggokjickaaGreatDoor
variable{p:Prop}
set_option maxHeartbeats 90000000
set_option maxRecDepth 100000
open Go.ChangeShapes Go.WideShapes Go.ChangeAt Go.RowKit List
set_option linter.unusedVariables false
set_option linter.unusedSimpArgs false
def PR (u v:Value)(r:Rest):Nat->Value
 | 0=>u | 1=>v | 2=>r.h | 3=>r.i | 4=>r.j | _=>r.o
def sS (w:World)(gp:Nat)(R:Nat->Value)(b:Nat):Prop:=b < w.heap.size/\b≠gp/\∀i < 6,(R i).ownBlock≠some b
structure PlF (w0:World) (gp g2:Nat) (qc:Array Value) (g4 g5 D:Nat) (R:Nat->Value) (w:World):Prop where
 low:w0.heap.size<=gp
 lt:gp < w.heap.size
 base:aj w0 w
 rows:∀i < 6,∀q,(R i).ownBlock=some q->w0.heap.size<=q/\q < w.heap.size/\q≠gp
 ap:∀i < 6,∀j < 6,i≠j->∀q,(R i).ownBlock=some q->(R j).ownBlock≠some q
 k2:sS w gp R g2
 k4:sS w gp R g4
 k5:sS w gp R g5
 kD:sS w gp R D
 new:w0.heap.size<=g4/\w0.heap.size<=g5/\g4≠g5/\g4≠D/\g5≠D
 dd:w.heap[D]?=some (.deferred (some []))
 z2:aB w g2 27 qc
 z4:aB w g4 72 #[.pointer none]
 z5:aB w g5 34 #[af 0]
structure CQ (w0:World) (gp:Nat) (R R':Nat->Value) (T:Nat->Prop) (w w':World):Prop where
 os:w'.os=w.os
 tape:w'.tape=w.tape
 output:w'.output=w.output
 size:w.heap.size<=w'.heap.size
 far:∀b,b < w.heap.size->b≠gp->(∀i < 6,T i->(R i).ownBlock≠some b)->w'.heap[b]?=w.heap[b]?
 same:∀i < 6,¬T i->R' i=R i
 mv:∀i < 6,T i->Mv w (R i) (R' i)
 one:∀i < 6,∀j < 6,T i->T j->i≠j->∀q,(R' i).ownBlock=some q->(R' j).ownBlock≠some q
 rows:∀i < 6,T i->∀q,(R' i).ownBlock=some q->w0.heap.size<=q/\q < w'.heap.size/\q≠gp
section
variable {w0 w w':World} {gp g2 g4 g5 D:Nat} {qc:Array Value} {R R':Nat->Value} {T:Nat->Prop}
theorem CQ.kp (s:CQ w0 gp R R' T w w') {b:Nat}(h:sS w gp R b):sS w' gp R' b:=
 ⟨Nat.lt_of_lt_of_le h.1 s.size,h.2.1,λ i hi=>by
   by_cases hT:T i
   ·exact(s.mv i hi hT).ne h.1 (h.2.2 i hi)
   ·rw[s.same i hi hT];exact h.2.2 i hi⟩
theorem CQ.keep (s:CQ w0 gp R R' T w w') {b:Nat}(h:sS w gp R b):w'.heap[b]?=w.heap[b]?:=s.far b h.1 h.2.1 λ i hi _=>h.2.2 i hi
theorem PlF.step (h:PlF w0 gp g2 qc g4 g5 D R w)(s:CQ w0 gp R R' T w w'):PlF w0 gp g2 qc g4 g5 D R' w':=by
 have hr:∀i < 6,∀q,(R' i).ownBlock=some q->w0.heap.size<=q/\q < w'.heap.size/\q≠gp:=λ i hi q hq=>by
  by_cases hT:T i
  ·exact s.rows i hi hT q hq
  ·rw[s.same i hi hT] at hq;have:=h.rows i hi q hq;exact⟨this.1,Nat.lt_of_lt_of_le this.2.1 s.size,this.2.2⟩
 refine⟨h.low,Nat.lt_of_lt_of_le h.lt s.size,?_,hr,?_,s.kp h.k2,s.kp h.k4,s.kp h.k5,s.kp h.kD,h.new,(s.keep h.kD).trans h.dd,(s.keep h.k2).trans h.z2,(s.keep h.k4).trans h.z4,(s.keep h.k5).trans h.z5⟩
 ·exact⟨s.os.trans h.base.os,s.tape.trans h.base.tape,s.output.trans h.base.output,Nat.le_trans h.base.size s.size,λ k hk=>(s.far k (Nat.lt_of_lt_of_le hk h.base.size) (by have:=h.low;omega) λ i hi _ e=>by have:=(h.rows i hi k e).1;omega).trans (h.base.block k hk)⟩
 ·intro i hi j hj nL q hq lf;by_cases hT:T i <;> by_cases hU:T j
  ·exact s.one i hi j hj hT hU nL q hq lf
  ·rw[s.same j hj hU] at lf;have hl:=(h.rows j hj q lf).2.1;rcases s.mv i hi hT with h1 | h1
   ·exact h.ap i hi j hj nL q (h1▸hq) lf
   ·have:=h1 q hq;omega
  ·rw[s.same i hi hT] at hq;have hl:=(h.rows i hi q hq).2.1;rcases s.mv j hj hU with h1 | h1
   ·exact h.ap i hi j hj nL q hq (h1▸lf)
   ·have:=h1 q lf;omega
  ·rw[s.same i hi hT] at hq;rw[s.same j hj hU] at lf;exact h.ap i hi j hj nL q hq lf
theorem CQ.own {α:Type} {f:α->List Value} {e:TypeId} {size base:Nat} {l:List α}(s:CQ w0 gp R R' T w w')(h:PlF w0 gp g2 qc g4 g5 D R w) {i:Nat}(hi:i < 6)(hT:¬T i)(ho:aF f e size w base (R i) l):aF f e size w' base (R' i) l:=by
 rw[s.same i hi hT];refine ho.keep λ g hg=>s.far g (h.rows i hi g hg).2.1 (h.rows i hi g hg).2.2 λ j hj hU=>h.ap i hi j hj (λ e=>hT (e▸hU)) g hg
theorem CQ.trees (s:CQ w0 gp R R' T w w') {ts:List Tr} {ys:List Ex}(h:Tr.aO w (sS w gp R) ts ys):Tr.aO w' (sS w' gp R') ts ys:=Tr.aO.keep (λ b hb=>⟨λ o=>bH (s.keep hb) o,s.kp hb⟩) ts ys h
theorem CQ.later (hb:aj w w'):CQ w0 gp R R (λ _=>False) w w':=⟨hb.os,hb.tape,hb.output,hb.size,λ b h1 _ _=>hb.block b h1,λ _ _ _=>rfl,λ _ _ h=>h.elim,λ _ _ _ _ h=>h.elim,λ _ _ h=>h.elim⟩
end
structure cP (c:PC) (w0:World) (gp g2:Nat) (qc:Array Value) (g4 g5 D:Nat) (r:Rest) (w:World) (u v:Value) (ya:List Ex) (s:dy) (hd:List aW) (yi yh yo:List Ex) (ti th eF:List Tr):Prop where
 f:PlF w0 gp g2 qc g4 g5 D (PR u v r) w
 blk:aB w gp 81 (c.cells r u v)
 o0:aF bF 46 7 w w0.heap.size u ya
 o1:aF aS 113 2 w w0.heap.size v s.aL
 o2:aF aS 113 2 w w0.heap.size r.h hd
 o3:aF bF 46 7 w w0.heap.size r.i yi
 o4:aF bF 46 7 w w0.heap.size r.j yh
 o5:aF bF 46 7 w w0.heap.size r.o yo
 aJ:Tr.aO w0 (Old w0) s.aJ ya
 t3:Tr.aO w (sS w gp (PR u v r)) ti yi
 t4:Tr.aO w (sS w gp (PR u v r)) th yh
 t5:Tr.aO w (sS w gp (PR u v r)) eF yo
section
variable {c:PC} {w0 w w':World} {gp g2 g4 g5 D:Nat} {qc:Array Value} {r:Rest} {u v u' v':Value} {ya qf:List Ex} {s s':dy} {hd:List aW} {yi yh yo:List Ex} {ti th eF:List Tr}
theorem cP.ps (h:cP c w0 gp g2 qc g4 g5 D r w u v ya s hd yi yh yo ti th eF):eJ c w0 gp r w u v ya s:=⟨h.f.low,h.f.base,h.blk,h.o0,h.o1,h.aJ⟩
theorem cP.later (h:cP c w0 gp g2 qc g4 g5 D r w u v ya s hd yi yh yo ti th eF)(hb:aj w w'):cP c w0 gp g2 qc g4 g5 D r w' u v ya s hd yi yh yo ti th eF:=
 have p:=CQ.later (w0:=w0) (gp:=gp) (R:=PR u v r) hb
 ⟨h.f.step p,h.blk.later hb,h.o0.later hb,h.o1.later hb,h.o2.later hb,h.o3.later hb,h.o4.later hb,h.o5.later hb,h.aJ,p.trees h.t3,p.trees h.t4,p.trees h.t5⟩
theorem cP.kp2 (h:cP c w0 gp g2 qc g4 g5 D r w u v ya s hd yi yh yo ti th eF) {b:Nat}(hb:sS w gp (PR u v r) b):Kp w gp [u,v] b:=
 ew.2 ⟨hb.1,hb.2.1,hb.2.2 0 WC,hb.2.2 1 WC⟩
theorem cP.stp (h:cP c w0 gp g2 qc g4 g5 D r w u v ya s hd yi yh yo ti th eF)(hs:gL gp w u v w' u' v')(hp:eJ c w0 gp r w' u' v' qf s'):CQ w0 gp (PR u v r) (PR u' v' r) (λ i=>i < 2) w w':=by
 have hblk:=hp.blk;have hn:∀q,u'.ownBlock=some q->v'.ownBlock≠some q:=λ q h1 h2=>by obtain⟨_,_,_,e1⟩:=hp.kN.lt h1;obtain⟨_,_,_,e2⟩:=hp.dJ.lt h2;rw[e1] at e2;injection e2 with e2;injection e2 with _ e2 _;exact absurd e2 Taa
 refine⟨hs.os,hs.tape,hs.output,hs.size,λ b h1 h2 h3=>hs.block b (ew.2 ⟨h1,h2,h3 0 WC WC,h3 1 WC WC⟩),?_,?_,?_,?_⟩
 ·intro i hi hT
  match i with
  | 0=>omega
  | 1=>omega
  | 2 | 3 | 4=>rfl
  | n+5=>rfl
 ·intro i hi hT
  match i with
  | 0=>exact hs.mu
  | 1=>exact hs.mv
  | n+2=>omega
 ·intro i hi j hj hT hU nL q h1 h2
  match i,j with
  | 0,1=>exact hn q h1 h2
  | 1,0=>exact hn q h2 h1
  | 0,0=>exact nL rfl
  | 1,1=>exact nL rfl
  | n+2,_=>omega
  | 0,n+2=>omega
  | 1,n+2=>omega
 ·intro i hi hT q hq
  match i with
  | 0=>exact⟨(hp.kN.lt hq).2.1,(hp.kN.lt hq).1,λ e=>hp.kN.other hblk Taa (by rw[show u'.ownBlock=some q from hq,e])⟩
  | 1=>exact⟨(hp.dJ.lt hq).2.1,(hp.dJ.lt hq).1,λ e=>hp.dJ.other hblk Taa (by rw[show v'.ownBlock=some q from hq,e])⟩
  | n+2=>omega
theorem cP.call (h:cP c w0 gp g2 qc g4 g5 D r w u v ya s hd yi yh yo ti th eF)(hs:gL gp w u v w' u' v')(hp:eJ c w0 gp r w' u' v' qf s'):cP c w0 gp g2 qc g4 g5 D r w' u' v' qf s' hd yi yh yo ti th eF:=by have p:=h.stp hs hp;exact⟨h.f.step p,hp.blk,hp.kN,hp.dJ,p.own h.f (i:=2) WC WC h.o2,p.own h.f (i:=3) WC WC h.o3,p.own h.f (i:=4) WC WC h.o4,p.own h.f (i:=5) WC WC h.o5,hp.aJ,p.trees h.t3,p.trees h.t4,p.trees h.t5⟩
theorem cP.tree (h:cP c w0 gp g2 qc g4 g5 D r w u v ya s hd yi yh yo ti th eF)(hs:gL gp w u v w' u' v')(hp:eJ c w0 gp r w' u' v' qf s') {t:Tr} {y:Ex}(ht:t.at_ w' (λ b=>(b < w0.heap.size\/w.heap.size<=b)/\Kp w' gp [u',v'] b) y):t.at_ w' (sS w' gp (PR u' v' r)) y:=by have p:=(h.call hs hp).f;refine Tr.at_.keep (λ b hb=>⟨λ _=>rfl,hb.2.1,hb.2.2.1,λ i hi e=>?_⟩) t y ht;exact Zb8
theorem cP.aom (h:cP c w0 gp g2 qc g4 g5 D r w u v ya s hd yi yh yo ti th eF) {t:Tr} {y:Ex} {a:Value}(hl:LaB gp 14 w0.heap.size w (c.cells r u v) r.j yh y a true true w')(ht:t.at_ w (sS w gp (PR u v r)) y):
  cP c w0 gp g2 qc g4 g5 D { r with j:=a } w' u v ya s hd yi (yh++ [y]) yo ti (th++ [t]) eF:=by
 have ho:aF bF 46 7 w' w0.heap.size a (yh++ [y]):=hl.own;obtain⟨q0,c0,e0,hq0⟩:=hl.row
 have p:CQ w0 gp (PR u v r) (PR u v { r with j:=a }) (λ i=>i=4) w w':=by
  refine⟨hl.os,hl.tape,hl.output,hl.size,λ b h1 h2 h3=>hl.far b h1 h2 (h3 4 WC rfl),?_,?_,Zfj,ZdN⟩
  ·intro i hi hT
   match i with
   | 0 | 1 | 2 | 3=>rfl
   | 4=>exact absurd rfl hT
   | 5=>rfl
   | n+6=>omega
  ·intro i hi hT;subst hT;exact hl.mv
 have hT:=p.trees (ts:=[t]) (ys:=[y]) (Tr.fO ht);refine⟨h.f.step p,?_,p.own h.f (i:=0) WC WC h.o0,p.own h.f (i:=1) WC WC h.o1,p.own h.f (i:=2) WC WC h.o2,p.own h.f (i:=3) WC WC h.o3,ho,p.own h.f (i:=5) WC WC h.o5,h.aJ,p.trees h.t3,Tr.all_append (p.trees h.t4) hT,p.trees h.t5⟩;exact hl.blk
theorem cP.aon (h:cP c w0 gp g2 qc g4 g5 D r w u v ya s hd yi yh yo ti th eF) {t:Tr} {y:Ex} {a:Value}(hl:LaB gp 15 w0.heap.size w (c.cells r u v) r.o yo y a true true w')(ht:t.at_ w (sS w gp (PR u v r)) y):
  cP c w0 gp g2 qc g4 g5 D { r with o:=a } w' u v ya s hd yi yh (yo++ [y]) ti th (eF++ [t]):=by
 have ho:aF bF 46 7 w' w0.heap.size a (yo++ [y]):=hl.own;obtain⟨q0,c0,e0,hq0⟩:=hl.row
 have p:CQ w0 gp (PR u v r) (PR u v { r with o:=a }) (λ i=>i=5) w w':=by
  refine⟨hl.os,hl.tape,hl.output,hl.size,λ b h1 h2 h3=>hl.far b h1 h2 (h3 5 WC rfl),?_,?_,Zfj,ZdN⟩
  ·intro i hi hT
   match i with
   | 0 | 1 | 2 | 3=>rfl
   | 4=>rfl
   | 5=>exact absurd rfl hT
   | n+6=>omega
  ·intro i hi hT;subst hT;exact hl.mv
 have hT:=p.trees (ts:=[t]) (ys:=[y]) (Tr.fO ht);refine⟨h.f.step p,?_,p.own h.f (i:=0) WC WC h.o0,p.own h.f (i:=1) WC WC h.o1,p.own h.f (i:=2) WC WC h.o2,p.own h.f (i:=3) WC WC h.o3,p.own h.f (i:=4) WC WC h.o4,ho,h.aJ,p.trees h.t3,p.trees h.t4,Tr.all_append (p.trees h.t5) hT⟩;exact hl.blk
end
def fA:Code->Nat->Code
 | .seq _ b,n+1=>fA b n
 | c,_=>c
noncomputable def bJ:Code:=Tryz.f28.body.getD .skip
def bS (f:Nat->Value):Array Value:= #[f 0,f 1,f 2,f 3,f 4,f 5,f 6,f 7,f 8,f 9,f 10,f 11,f 12,f 13,f 14,f 15,f 16,f 17,f 18,f 19,f 20,f 21,f 22,f 23,f 24,f 25,f 26,f 27,f 28,f 29,f 30,f 31,f 32,f 33,f 34,f 35,f 36,f 37,f 38,f 39,f 40,f 41,f 42,f 43,f 44,f 45,f 46,f 47,f 48,f 49,f 50,f 51,f 52,f 53,f 54,f 55,f 56,f 57,f 58,f 59,f 60,f 61,f 62,f 63,f 64,f 65,f 66,f 67,f 68,f 69,f 70,f 71,f 72,f 73,f 74,f 75,f 76,f 77,f 78,f 79,f 80,f 81,f 82,f 83,f 84,f 85,f 86,f 87,f 88,f 89,f 90,f 91,f 92,f 93,f 94,f 95,f 96,f 97,f 98,f 99,f 100,f 101,f 102,f 103,f 104,f 105,f 106,f 107,f 108,f 109,f 110,f 111,f 112,f 113,f 114,f 115,f 116,f 117,f 118,f 119,f 120,f 121,f 122,f 123,f 124,f 125,f 126,f 127,f 128,f 129,f 130,f 131,f 132,f 133,f 134,f 135,f 136,f 137,f 138,f 139,f 140,f 141,f 142,f 143,f 144,f 145,f 146,f 147,f 148,f 149,f 150,f 151,f 152,f 153,f 154,f 155,f 156,f 157,f 158,f 159,f 160,f 161,f 162,f 163,f 164,f 165,f 166,f 167,f 168,f 169,f 170,f 171,f 172,f 173,f 174,f 175,f 176,f 177,f 178,f 179,f 180,f 181,f 182,f 183,f 184,f 185,f 186,f 187,f 188,f 189,f 190,f 191,f 192,f 193,f 194,f 195,f 196,f 197,f 198,f 199,f 200,f 201,f 202,f 203,f 204,f 205,f 206,f 207,f 208,f 209,f 210,f 211,f 212,f 213,f 214,f 215,f 216,f 217,f 218,f 219,f 220,f 221,f 222,f 223,f 224,f 225,f 226,f 227,f 228,f 229,f 230,f 231,f 232,f 233,f 234,f 235,f 236,f 237,f 238,f 239,f 240,f 241,f 242,f 243,f 244,f 245,f 246,f 247,f 248,f 249,f 250,f 251]
theorem kP (T:Array Value)(h:T.size=252):∃f:Nat->Value,T=bS f:=by
 refine⟨λ i=>T.getD i undef,?_⟩;apply Array.ext
 ·rw[h];rfl
 ·intro i h1 h2
  have e:∀(f:Nat->Value) (i:Nat) (hi:i <(bS f).size),(bS f)[i]=f i:=by
   intro f i hi;have h3:(bS f).toList=(List.range 252).map f:=rfl;have h4:(bS f)[i]=(bS f).toList[i]' TaD:=by simp
   exact ZfH
  rw[e];simp[Array.getD,h1]
noncomputable def gU:Code:=Tryz.f33.body.getD .skip
def frg (f:Nat->Value):Array Value:= #[f 0,f 1,f 2,f 3,f 4,f 5,f 6,f 7,f 8,f 9,f 10,f 11,f 12,f 13,f 14,f 15,f 16,f 17,f 18,f 19,f 20,f 21,f 22,f 23,f 24,f 25,f 26,f 27,f 28,f 29,f 30,f 31,f 32,f 33,f 34,f 35,f 36,f 37,f 38,f 39,f 40,f 41,f 42,f 43,f 44,f 45,f 46,f 47,f 48,f 49,f 50,f 51,f 52,f 53,f 54,f 55,f 56,f 57,f 58,f 59,f 60,f 61,f 62,f 63,f 64,f 65,f 66,f 67,f 68,f 69,f 70,f 71,f 72,f 73,f 74,f 75,f 76,f 77,f 78,f 79,f 80,f 81,f 82,f 83,f 84,f 85,f 86,f 87,f 88,f 89,f 90,f 91,f 92,f 93,f 94,f 95,f 96,f 97,f 98,f 99,f 100,f 101,f 102,f 103,f 104,f 105,f 106,f 107,f 108,f 109,f 110,f 111,f 112,f 113,f 114,f 115,f 116,f 117,f 118,f 119,f 120,f 121,f 122,f 123,f 124,f 125,f 126,f 127,f 128,f 129,f 130,f 131,f 132,f 133,f 134,f 135,f 136,f 137,f 138,f 139,f 140,f 141,f 142,f 143,f 144,f 145,f 146,f 147,f 148,f 149,f 150,f 151,f 152,f 153,f 154,f 155,f 156,f 157,f 158,f 159,f 160,f 161,f 162,f 163]
theorem Jo (T:Array Value)(h:T.size=164):∃f:Nat->Value,T=frg f:=by
 refine⟨λ i=>T.getD i undef,?_⟩;apply Array.ext
 ·rw[h];rfl
 ·intro i h1 h2
  have e:∀(f:Nat->Value) (i:Nat) (hi:i <(frg f).size),(frg f)[i]=f i:=by
   intro f i hi;have h3:(frg f).toList=(List.range 164).map f:=rfl;have h4:(frg f)[i]=(frg f).toList[i]' TaD:=by simp
   exact ZfH
  rw[e];simp[Array.getD,h1]
noncomputable def qj (xs:List gH):Int:=cO (xs.map λ x=>cM (x.ss.map gF))
noncomputable def EC (xs:List gH):List (List Val):=xs.map λ x=>x.key++(x.ss.map gF).map (·.1)
variable{w w1 w2:World}{g:Nat}{o:Option Nat}{B:Nat}
theorem pI(h:w.grownBy w1 (some g))(hg:w1.grownBy w2 o)(hB:w.heap.size<=B)(ho:∀q,o=some q->B<=q):w.grownBy w2 (some g):=
 ⟨hg.os.trans h.os,hg.tape.trans h.tape,hg.output.trans h.output,Nat.le_trans h.size hg.size,λ k hk hn=>(hg.block k (Nat.lt_of_lt_of_le hk h.size) λ e=>by have:=ho k e.symm;omega).trans (h.block k hk hn)⟩
variable{xs:List gH}{k:Nat}
theorem VD(h:k < xs.length):qj (xs.take (k+1))=jo (qj (xs.take k)) (cM (xs[k].ss.map gF)):=by unfold qj;rw[take_add_one,getElem?_eq_getElem h,map_append];exact qW _ _
variable{b e:Int}
theorem Tb(h:jo b e=0):b=0/\e=0:=by unfold jo at h;split at h <;> omega
theorem zgu.KbG(h:p:=by
 clear HV;go_upto_region 34 with fail;have Ly:=ah w3 (.cells (aD v) 44);have Kx:=aB.new w3 44 (aD v);have mA:=aa (HV6.ae.later Ly);have Js:=aa (Nx.ae.later Ly);have Cj:=aa (show wo.grownBy _ (some gb)from aY wV.ae (aR Ly));have Gh:=aa Kx;have hbase:=Cj.ae.size;have Hx:(x.key++((x.ss.take m).map gF).map (·.1)).length<=200000:=by have:=HKK.ae;simp only[length_append,length_map,length_take];omega
 have qC:=aa (show x.key++((x.ss.take (m+1)).map gF).map (·.1)=x.key++((x.ss.take m).map gF).map (·.1)++ [v] by rw[nt.ae,map_append,map_append,HVE.ae,append_assoc];rfl);generalize x.key++((x.ss.take m).map gF).map (·.1)=L at*;clear Ly Kx;go_wp2_with (first
  |(at_builtin
    refine aT rfl (.tmp 151) (.tmp 153) 38 rfl _ 32 Tryz.underlying38 lO rfl WC v rfl TaZ rfl mA.ae w3.heap.size rfl Gh.ae WC WC hbase ?_
    intro v4 w4 o4 g4
    have O4:=aa o4
    have B4:=aa (Js.ae.kr mA.ae Taa g4)
    have Xz:=aa (pI Cj.ae g4 (Nat.le_refl _) (λ q hq=>(mA.ae.lt hq).2.1))
    clear o4 g4))
 go_roundw
 case rel=>
  refine⟨m+1,Er,by go_num,?_,?_,B4.ae,Xz.ae⟩
  ·rw[qC.ae];exact O4.ae
  ·intro a ha;rw[nt.ae,map_append] at ha;rcases List.mem_append.1 ha with ha | ha
   ·exact JT.ae a ha
   ·simp only[map_cons,map_nil,mem_singleton] at ha;rw[ha,<- Oa.ae]
 case measure=>exact Za0):p:=h
theorem zhS.Kcc(h:p:=by have HO5:=IH.ae.later hL;have HM5:=Q1.ae.later hL;have Vn:w.grownBy W3 (some gb):=aY Q5.ae (aR hL);go_wp2_with fail;exact HHA.ae _ _ u18 cl rfl rfl rfl HO5 HM5 Q4.ae Vn):p:=h
theorem acN (xs:List gH)(B:Nat)(LA:Option Addr)(lc gb:Nat)(T:Array Value)(hT:T.size=164)(h9:T.getD 9 undef=aw gb)(h10:T.getD 10 undef=.slice LA xs.length lc)(d:List Deferred)(w:World)(Q:Exit->Act->World->Prop)
  (hgb:aB w gb 84 #[af 0]) (hL:Mb w w.heap.size LA (xs.map gH.g)) (hLg:∀a,LA=some a->a.block≠gb) (Kx:kt w B xs) (hn:xs.length<=1000000)
  (hk:∀x∈xs,x.key.length<=1000/\x.ss.length<=100000) (aZ:∀x∈xs,∀s∈x.ss,s.Ok/\∃v e,gI s v e)
  (h:∀a W ov cl,a.defers=d->a.tmps.getD 4 undef=ov->a.tmps.getD 5 undef=af (qj xs)->aF bX 38 1 W w.heap.size ov cl->Mine W w.heap.size cl->(qj xs=0->cl.map (·.l)=EC xs)->w.grownBy W (some gb)->Q .ret a W):
  (fA gU 8).wp Tryz.prog Q { tmps:=T,defers:=d } w:=by
 obtain⟨f,rfl⟩:=Jo T hT;have h9:f 9=_:=h9;have h10:f 10=_:=h10;simp only[frg,h9,h10];clear h9 h10;clear h9 h10 hT;have HH:=aa h;have yK:=aa hgb;have HL:=aa hL;have J2:=aa hLg;have HG:=aa Kx;have HK:=aa hk;have ia:=aa aZ;clear h hgb hL hLg Kx hk aZ;simp only[gU,fA,Tryz.f33,Option.getD_some];go_wp2_with fail;go_loopw [18,125] (λ ov i wr=>∃(k:Nat) (cl:List aX),k<=xs.length/\i=af k/\aF bX 38 1 wr w.heap.size ov cl/\Mine wr w.heap.size cl/\cl.length=k/\aB wr gb 84 #[af (qj (xs.take k))]/\(qj (xs.take k)=0->cl.map (·.l)=EC (xs.take k))/\w.grownBy wr (some gb)) (λ _ i _=>xs.length - (intOf i).toNat);case atStart=>exact⟨0,[],Nat.zero_le _,rfl,aF.nil,(λ r hr=>by cases hr),rfl,yK.ae,(λ _=>rfl),World.grownBy.refl w _⟩
 case round=>
  obtain⟨k,cl,hkx,rfl,ih,q1,q2,q3,q4,q5⟩:=hrel;have IH:=aa ih;have Q1:=aa q1;have HFN:=aa q2;have Q3:=aa q3;have Q4:=aa q4;have Q5:=aa q5;clear ih q1 q2 q3 q4 q5;by_cases hlt:k < xs.length
  ·obtain⟨lb,hA,DT,hc0⟩:=HL.ae.at_ (k:=k) (by rw[length_map];exact hlt);have Xs:=J2.ae _ hA;have hc1:=(bH (Q5.ae.block lb DT (λ e=>by injection e with e;exact Xs e)) k).trans hc0;rw[getElem_map] at hc1;have hGw:=HG.ae.grown Q5.ae yK.ae Taa Taa Taa Taa;have hx:=hGw.at_ xs[k] (getElem_mem hlt);have fw:=HK.ae xs[k] (getElem_mem hlt);have HOX:=aa (ia.ae xs[k] (getElem_mem hlt));have Pr:=aa (VD hlt);have VF:=aa (show EC (xs.take (k+1))=EC (xs.take k)++ [xs[k].key++(xs[k].ss.map gF).map (·.1)] by unfold EC;rw[take_add_one,getElem?_eq_getElem hlt,map_append];rfl);generalize xs[k]=x at*;generalize qj (xs.take k)=FJ at*;have HX:=aa hx;have HKK:=aa fw;have dZ:=hx.blk;obtain⟨SA,sc,CS,hsr⟩:=ek (f:=cZ) (size:=1) (λ _=>rfl) hx.own;rw[CS] at dZ;have z0:=dZ.cell 0;have z1:=dZ.cell 1;simp only[Uaa] at z0 z1;have HSR:=aa hsr;have HSV:=aa CS;rw[hA];clear hc0 DT Xs hA hGw hx fw CS hsr dZ;go_wp2_with fail;refine(Ck x.KA x.kc x.key wr HX.ae.key.rv HKK.ae.1).mono ?_;rintro e w1 ⟨rv,rfl,uQ,b1⟩;have AZ:=aa uQ;have Lw:=aa (show wr.grownBy w1 (some gb)from aR b1);have fG:=aa (Q3.ae.later b1);have y1:=(b1.cell (p:=⟨x.g,1,none⟩) HX.ae.blk.lt).trans z1;clear uQ b1 z0 z1 hc1;go_wp2_with fail;clear y1;generalize wr=wo at*;go_loopw [21,139] (λ rv j wq=>∃m:Nat,m<=x.ss.length/\j=af m/\aF aV 44 3 wq wo.heap.size rv (x.key++((x.ss.take m).map gF).map (·.1))/\(∀a∈(x.ss.take m).map gF,a.2=0)/\aB wq gb 84 #[af FJ]/\wo.grownBy wq (some gb)) (λ _ j _=>x.ss.length - (intOf j).toNat)
   case atStart=>exact⟨0,Nat.zero_le _,rfl,by simpa using AZ.ae,(λ a ha=>by simp at ha),fG.ae,Lw.ae⟩
   case round=>
    clear AZ Lw fG;obtain⟨m,hm,rfl,kR,hg4,ox,HZ⟩:=hrel;have HI:=aa kR;have JT:=aa hg4;have Gn:=aa ox;have qu:=aa HZ;clear kR hg4 ox HZ;have Ns:=HX.ae.qB.len;have hm9:m<=100000:=by have:=HKK.ae.2;omega
    have hm8:x.ss.length<=100000:=HKK.ae.2;by_cases Er:m < x.ss.length
    ·obtain⟨g2,Al,hg2,hc2⟩:∃g2,SA=some ⟨g2,0,none⟩/\g2 < wo.heap.size/\wo.cell? ⟨g2,m,none⟩=some (.pointer (some ⟨x.qs[m]' TaW,0,none⟩)):=by
      rcases HSR.ae with h0 |⟨g2,e1,e2,e3⟩
      ·have:x.qs.length=0:=by rw[h0];rfl
       omega
      ·refine⟨g2,e1,e2,?_⟩;have:=e3 m (x.qs[m]' TaW) 0 _ (getElem?_eq_getElem _) WC rfl;exact ZeU
     have hx2:=((kt.mk (λ y hy=>by rw[mem_singleton] at hy;rw[hy];exact HX.ae) (pairwise_singleton _ _):kt wo B [x]).grown qu.ae Q3.ae Taa Taa Taa Taa).at_ x (mem_singleton_self x)
     have aoo:g2≠gb:=by
      have qM:x.sv.ownBlock=some g2:=by rw[HSV.ae,fD,Al];rfl
      obtain⟨_,_,cur,xT⟩:=HX.ae.own.lt qM;exact kM (show aB wo g2 145 cur from xT) Q3.ae Taa
     have hc3:=(bH (qu.ae.block g2 hg2 (λ e=>by injection e with e;exact aoo e)) m).trans hc2;have hst:=hx2.qB.at_ m (x.qs[m]' TaW) x.ss[m] (getElem?_eq_getElem _) (getElem?_eq_getElem _);obtain⟨J3,hsa⟩:=HOX.ae x.ss[m] (getElem_mem Er);have aoq:=Ip hsa;have nt:=aa (show x.ss.take (m+1)=x.ss.take m++ [x.ss[m]] by rw[take_add_one,getElem?_eq_getElem Er];rfl);have HFB:=aa (show(gF x.ss[m]).2≠0->cM (x.ss.map gF)=(gF x.ss[m]).2 from λ hne=>by
      have e1:x.ss.map gF=(x.ss.take m).map gF++gF x.ss[m]::(x.ss.drop (m+1)).map gF:=by
       rw[<- map_cons,<- map_append,<- drop_eq_getElem_cons Er,take_append_drop]
      rw[e1]
      exact F9 JT.ae hne)
     generalize x.ss[m]=st at*;generalize x.qs[m]' TaW=q at*;rw[Al] at*;have acO:=aa (Ou q st (gF st).1 (gF st).2 wr hst J3 aoq);clear hg2 hc2 hx2 aoo hst J3 hsa aoq Al;obtain⟨v,hv⟩:∃v,v=(gF st).1:=⟨_,rfl⟩;obtain⟨er,her⟩:∃er,er=(gF st).2:=⟨_,rfl⟩;rw[<- hv,<- her] at acO;rw[<- her] at HFB;have HVE:=aa hv;have Oa:=aa her;clear hv her;unfold bQ at acO;rw[Ns];go_wp2_with fail;clear hc3;refine acO.ae.mono ?_;rintro e w2 ⟨rfl,b2⟩;have J4:=aa (Gn.ae.later b2);have HV4:=aa (HI.ae.later b2);have KK:=aa (show wo.grownBy w2 (some gb)from aY qu.ae (aR b2));clear b2 Gn HI qu acO;go_upto_region 33 with fail;have bN:=ah w2 (.cells (aD v) 44);have hG:=aB.new w2 44 (aD v);have uS:=aa (J4.ae.later bN);have HV5:=aa (HV4.ae.later bN);have Vn:=aa (show wo.grownBy _ (some gb)from aY KK.ae (aR bN));generalize hW:w2.alloc (.cells (aD v) 44)=W at*;generalize w2.heap.size=gn at*;clear hW bN J4 HV4 KK;go_wp2_with fail;refine(vJ gb FJ er _ uS.ae).mono ?_;rintro e w3 ⟨rfl,hb3,HZ⟩;have Nx:=aa hb3;have wV:=aa (show wo.grownBy w3 (some gb)from aY Vn.ae HZ);have HV6:=aa (HV5.ae.grown HZ (HV5.ae.other uS.ae Taa));have HV:=hG.grown HZ (λ e=>by injection e with e;exact kM hG uS.ae Taa e);clear hb3 HZ uS HV5 Vn hG;by_cases he:er=0
     ·subst he;have Nx:=aa (show aB w3 gb 84 #[af FJ] by have h6:=Nx.ae;rwa [BF] at h6);open zgu in exact Zen
     ·have t1:(er==0)=false:=by simp[he]
      have auO:=aa he;have mF:=aa (HFB.ae he);have HBc:=Nx;have HVc:=HV6;have HGc:=wV;generalize x.key++((x.ss.take m).map gF).map (·.1)=L at*;clear he HV;obtain⟨RA,rc,CT,_⟩:=HVc.ae.reads;subst CT;go_upto_region 36 with fail
      have Ly:=ah w3 (.cells #[.slice RA L.length rc] 38);have Kx:=aB.new w3 38 #[.slice RA L.length rc];have zU:=aa ((IH.ae.grown HGc.ae (IH.ae.other Q3.ae Taa)).later Ly);have HM7:=aa (show Mine _ w.heap.size cl from Mine.later (λ r hr=>(Q1.ae r hr).grown HGc.ae ((Q1.ae r hr).other Q3.ae Taa)) Ly);have mA:=aa (HVc.ae.later Ly);have Js:=aa (HBc.ae.later Ly);have Cj:=aa (show w.grownBy _ (some gb)from aY (aY Q5.ae HGc.ae) (aR Ly));have Gh:=aa Kx;have hbase:=Cj.ae.size;have HWO:=aa Q5.ae.size;have auS:=HFN.ae;clear Ly Kx;go_wp2_with (first
       |(at_builtin
         refine aT rfl (.tmp 156) (.tmp 158) 29 rfl _ 24 Tryz.underlying29 nR rfl WC (⟨RA,L,rc⟩:aX) rfl Taw rfl zU.ae w3.heap.size rfl Gh.ae WC WC hbase ?_
         intro v4 w4 o4 g4
         have O4:=aa o4
         have B4:=aa (Js.ae.kr zU.ae Taa g4)
         have V4:=aa (mA.ae.past zU.ae Taa g4)
         have M4:=aa (HM7.ae.grown zU.ae g4)
         have Xz:=aa (pI Cj.ae g4 (Nat.le_refl _) (λ q hq=>(zU.ae.lt hq).2.1))
         clear o4 g4))
      go_roundw
      case rel=>
       refine⟨k+1,cl++ [⟨RA,L,rc⟩],hlt,by go_num,O4.ae,ZeN,by simp[HFN.ae],?_,?_,Xz.ae⟩
       ·rw[Pr.ae,mF.ae];exact B4.ae
       ·intro h0;rw[Pr.ae,mF.ae] at h0;exact absurd (Tb h0).2 auO.ae
      case measure=>exact Za0
    ·have Nk:m=x.ss.length:=by omega
     subst Nk;have HTT:=aa (show x.ss.take x.ss.length=x.ss from take_length);have mF:=aa (show cM (x.ss.map gF)=0 from Jd λ a ha=>JT.ae a (by rw[HTT.ae];exact ha));have HVc:=aa (show aF aV 44 3 wr wo.heap.size u21 (x.key++(x.ss.map gF).map (·.1)) by have h3:=HI.ae;rwa [HTT.ae] at h3);have HBc:=Gn;have HGc:=qu;generalize x.key++(x.ss.map gF).map (·.1)=L at*;rw[<- Ns];clear HI Gn qu Er hm;obtain⟨RA,rc,CT,_⟩:=HVc.ae.reads;subst CT;go_upto_region 36 with fail
     have Ly:=ah wr (.cells #[.slice RA L.length rc] 38);have Kx:=aB.new wr 38 #[.slice RA L.length rc];have zU:=aa ((IH.ae.grown HGc.ae (IH.ae.other Q3.ae Taa)).later Ly);have HM7:=aa (show Mine _ w.heap.size cl from Mine.later (λ r hr=>(Q1.ae r hr).grown HGc.ae ((Q1.ae r hr).other Q3.ae Taa)) Ly);have mA:=aa (HVc.ae.later Ly);have Js:=aa (HBc.ae.later Ly);have Cj:=aa (show w.grownBy _ (some gb)from aY (aY Q5.ae HGc.ae) (aR Ly));have Gh:=aa Kx;have hbase:=Cj.ae.size;have HWO:=aa Q5.ae.size;have auS:=HFN.ae;clear Ly Kx;go_wp2_with (first
      |(at_builtin
        refine aT rfl (.tmp 156) (.tmp 158) 29 rfl _ 24 Tryz.underlying29 nR rfl WC (⟨RA,L,rc⟩:aX) rfl Taw rfl zU.ae wr.heap.size rfl Gh.ae WC WC hbase ?_
        intro v4 w4 o4 g4
        have O4:=aa o4
        have B4:=aa (Js.ae.kr zU.ae Taa g4)
        have V4:=aa (mA.ae.past zU.ae Taa g4)
        have M4:=aa (HM7.ae.grown zU.ae g4)
        have Xz:=aa (pI Cj.ae g4 (Nat.le_refl _) (λ q hq=>(zU.ae.lt hq).2.1))
        clear o4 g4))
     go_roundw
     case rel=>
      refine⟨k+1,cl++ [⟨RA,L,rc⟩],hlt,by go_num,O4.ae,ZeN,by simp[HFN.ae],?_,?_,Xz.ae⟩
      ·rw[Pr.ae,mF.ae,BF];exact B4.ae
      ·intro h0;rw[Pr.ae] at h0;rw[map_append,Q4.ae (Tb h0).1,VF.ae];rfl
     case measure=>exact Za0
  ·have fw:k=xs.length:=by omega
   subst fw;have HTT:=aa (show xs.take xs.length=xs from take_length);have Q3:=aa (show aB wr gb 84 #[af (qj xs)] by have h1:=Q3.ae;rwa [HTT.ae] at h1);have Q4:=aa (show qj xs=0->cl.map (·.l)=EC xs by have h1:=Q4.ae;rwa [HTT.ae] at h1);have HHA:=aa (show∀a W ov cl,a.defers=d->a.tmps.getD 4 undef=ov->a.tmps.getD 5 undef=af (qj xs)->aF bX 38 1 W w.heap.size ov cl->Mine W w.heap.size cl->(qj xs=0->cl.map (·.l)=EC xs)->w.grownBy W (some gb)->Q .ret a W from HH.ae);generalize qj xs=FJ at*;go_upto_region 38 with fail;refine bA 5 (abR u18 gb FJ) (BG _ _ _) Va Va Va ?_ ?_
   ·exact ZeF
   intro W3 hL;simp only[Uab];rintro a0 - a1 - a2 - a3 q9 FH Uu;replace q9:u18=a3:=Eq.symm q9;open zhS in exact Zgf
theorem Gx (m:Nat):(Builtin.zeroCells (Value.pointer none).cells m)=(List.replicate m (Value.pointer none)).toArray:=by
 apply Array.ext
 ·simp[Builtin.zeroCells,Value.cells]
 ·intro i h1 h2;simp[Builtin.zeroCells,Value.cells,Nat.mod_one]
variable{ops:Array Oper}{rest:List Oper}{ac:Act}{Q:Exit->Act->World->Prop}
theorem wC{o:Oper}   (hgd:o.guard=none)(s x:Operand)
  (ho:o.op=.call { callee:=.builtin .append,args:= #[s,x],argTypes:= #[134,3] }) (g k cap m:Nat) (hs:ac.eval s=aI g k cap) (hx:ac.eval x=af m)
  (olds:List Value) (VG:olds.length=k) (hc:∀(j:Nat) v,olds[j]?=some v->w.cell? ⟨g,j,none⟩=some v) (h0:0 < m) (hg:cap < k+m) (ug:k+m<=1000001)
  (h:∀w' C,aB w' w.heap.size 135 (olds++List.replicate (C - k) (Value.pointer none)).toArray->k+m<=C->C<=maxLen->aj w w'->wpList Tryz.prog ops Q rest (ac.put o.dst (aI w.heap.size (k+m) C)) w'):wpList Tryz.prog ops Q (o::rest) ac w:=by
 obtain⟨i0,kR,hz0,hz1,hz2⟩:=info_parts Co
 have hold:(Builtin.firstCells i0.size k (aI g k cap)).run Tryz.prog w.drew=.ok olds.toArray w.drew:=by
  refine run_firstCells_some w.drew i0.size k ⟨g,0,none⟩ k cap olds (by rw[hz1,VG];omega) λ j v hj=>?_
  rw[PB,Nat.zero_add];exact hc j v hj
 have hrun:=Lib.run_append_grow_zeros w 134 3 o.type 135 i0 _ .i64 .i64 Tryz.underlying134 Tryz.underlying3 kR hz0 (some ⟨g,0,none⟩) k cap olds hold m h0 (by rw[hz1];omega) hg WC (by rw[hz2];omega) (growslice_fits hg (by rw[hz2];omega));have ve:=grownCap_ge w (k+m) cap 135;have hle:=grownCap_le_maxLen w (k+m) cap 135 Tam;generalize grownCap w (k+m) cap 135=C at*;have he:olds.toArray++Builtin.zeroCells (Value.pointer none).cells m++Builtin.zeroCells (Value.pointer none).cells (C - (k+m))=(olds++List.replicate (C - k) (Value.pointer none)).toArray:=by rw[Gx,Gx];apply Array.ext';simp only[Array.toList_append,toList_toArray,append_assoc,replicate_append_replicate];rw[show m+(C - (k+m))=C - k by omega]
 rw[he] at hrun;refine wpList_plain hgd λ K hK=>?_
 unfold Oper.wp;simp[execOp,ho,resolve,invoke,builtin,hs,hx,hrun,Result.andThen];have hb:aj w (w.drew.alloc (.cells (olds++List.replicate (C - k) (Value.pointer none)).toArray 135)):=(show aj w w.drew from⟨rfl,rfl,rfl,Nat.le_refl _,λ _ _=>rfl⟩).alloc (Nat.le_refl _) _;exact hK _ _ (h _ C (aB.new w.drew _ _) ve hle hb)
def aii (e g n C cap k:Nat):Nat->World->Value->Prop
 | 0,_,v=>v=aI e (n+1) C
 | 1,_,v=>v=af k
 | 2,_,v=>v=af 1
 | 3,_,v=>v=af (k+1)
 | 4,_,v=>v=.slice (some ⟨e,k+1,none⟩) (n+1 - (k+1)) (C - (k+1))
 | 5,_,v=>v=aI g n cap
 | 6,_,v=>v=af k
 | 7,_,v=>v=.slice (some ⟨g,k,none⟩) (n - k) (cap - k)
 | _,_,_=>False
theorem Qn (e g n C cap k:Nat):∀i w w' v,aii e g n C cap k i w v->ai w w'->aii e g n C cap k i w' v:=by exact Zf8
theorem zg6.KbS(h:p:=by
 have C3:g≠e:=by have h1:=Nn.ae.lt;have h2:=HE.ae;omega
 have Au:c2.size=C:=by have h1:=aov.ae;have h2:=qC.ae;rw[h1];simp only[size_toArray,toList_toArray,length_append,length_take,length_drop,length_replicate,length_singleton];omega
 have q5:((gs.drop k).map eU).length=n - k:=by rw[length_map,length_drop,<- HN.ae]
 have uR:=aa (HG2.ae.later hL);have Tn:w.grownBy W3 (some e):=aY (aY (aR ue.ae) auT.ae) (aR hL);have q4:∀(j:Nat) v,((gs.drop k).map eU)[j]?=some v->W3.cell? ((⟨g,k,none⟩:Addr).add j)=some v:=λ j v hj=>by rw[PB,bH (Tn.block g Nn.ae.lt (λ e2=>by injection e2 with e2;exact C3 e2))];refine Nu.ae (k+j) v ?_;rw[getElem?_map,getElem?_drop,<- getElem?_map] at hj;exact hj
 have Q4:=aa q4;have Q5:=aa q5;have oy:=aa Au;have F2:=aa Tn;have Ag:=aa C3;clear hL q4 q5 Au Tn C3;refine jf rfl (.tmp 50) (.tmp 53) rfl e (k+1) c2 ⟨g,k,none⟩ ((gs.drop k).map eU) _ _ _ _ rfl rfl uR.ae (by rw[Q5.ae,oy.ae];omega) (by rw[Q5.ae];simp only[Nat.min_def];split <;> omega) Q4.ae (Ax _) ?_;intro W4 u4 hg4 Vp;have JT:=aa hg4;have ahN:=aa (aY F2.ae Vp);clear hg4 Vp;go_wp2_with fail;go_ret;have hen:=HE.ae;have tY:=HN.ae;have hcc:=yz.ae;have auU:=aov.ae;have Tc:=qC.ae;have q5:=Q5.ae;have hsz:=oy.ae;have Lm:w.grownBy W4 (Value.slice (some ⟨g,0,none⟩) n cap).ownBlock:=by have hg:=ahN.ae;rw[fD];refine⟨hg.os,hg.tape,hg.output,hg.size,λ q hq _=>hg.block q hq λ e2=>?_⟩;injection e2 with e2;omega
 refine⟨_,rfl,⟨?_,.inr ⟨e,C,_,?_,by rw[hen];exact HBG.ae,JT.ae,?_,hcc,?_,?_⟩⟩,Lm⟩
 ·simp[rE,cZ]
 ·congr 1;simp;omega
 ·simp;omega
 ·simp only[size_toArray,length_append,length_take,length_drop,Array.length_toList,q5,hsz];omega
 ·obtain⟨R,hR⟩:∃R,R=c2.toList.drop (k+1+((gs.drop k).map eU).length):=⟨_,rfl⟩;rw[<- hR];have e0:c2.toList.take (k+1)=(gs.take k).map eU++ [eU x]:=by rw[auU];simp only[toList_toArray];rw[take_left' Tc,<- append_assoc];exact take_left' (by rw[length_append,Tc];rfl)
  rw[rE,toList_toArray,e0,Nat.mul_one];have e3:(gs.take k).map eU++ [eU x]++((gs.drop k).map eU++R)=(gs.take k++x::gs.drop k).map eU++R:=by simp
  exact Zgt):p:=h
theorem Mu (gs:List Nat)(x k:Nat)(g cap base vb:Nat)(cur:Array Value)(w:World)(hl:gs.length<=1000000)(hk:k < gs.length)(hbg:base<=w.heap.size)(hg:aB w g 135 cur)(hle:gs.length<=cap)(hroom:cap < gs.length+1)(hsz:cur.size=cap)(lN:cur.toList.take gs.length=gs.map eU)(hv:aB w vb 135 #[aw x]):
  ar 66 #[aI g gs.length cap,af k,aI vb 1 1] w (Ay (aI g gs.length cap) base (gs.take k++x::gs.drop k) w):=by
 obtain⟨n,tY⟩:∃n,n=gs.length:=⟨_,rfl⟩;have HN:=aa tY;rw[<- tY] at hl hk hroom lN hle ⊢;have Vo:=λ u=>iF (some ⟨g,0,none⟩) n cap k WC u
 have anu:=λ u=>Cp (some ⟨g,0,none⟩) n cap k WC u
 have PN:=Vo;rw[if_neg WC] at Vo PN;simp only[Option.map_some,dQ,Nat.mul_one,Nat.zero_add] at Vo PN;have mixed:Tryz.prog.follows .mixedOrders=true:=by kernel_rfl
 have t1:((k:Int)==(n:Int))=false:=by simp;omega
 have t2:decide ((cap:Int)<(n:Int)+1)=true:=decide_eq_true WC;have zc:((n:Int)+1) - (k:Int)=((n+1 - k:Nat):Int):=by omega
 have hcell:∀(j:Nat) v,(gs.map eU)[j]?=some v->w.cell? ⟨g,j,none⟩=some v:=λ j v hj=>by
  rw[hg.cell,<- Array.getElem?_toList];have e:(cur.toList.take n)[j]?=some v:=by rw[lN];exact hj
  rw[getElem?_take] at e;split at e
  ·exact e
  ·cases e
 have Nu:=aa hcell;have Nn:=aa hg;have HV:=aa hv;have HBG:=aa hbg;have qC:=aa (show((gs.take k).map eU).length=k by rw[length_map,length_take];omega);have HTC:=aa (show∀(j:Nat) v,((gs.take k).map eU)[j]?=some v->w.cell? ⟨g,j,none⟩=some v from λ j v hj=>hcell j v (by
  rw[map_take,getElem?_take] at hj
  split at hj
  ·exact hj
  ·cases hj))
 clear hg hv lN hsz tY hcell hbg;go_enter Tryz.func66,Tryz.ntmps66;go_wp2_with (first
  |(simp only[zc])
  |(at_builtin
    refine wC rfl (.tmp 34) (.tmp 39) rfl g k cap (n+1 - k) rfl rfl ((gs.take k).map eU) qC.ae HTC.ae WC WC WC ?_
    intro w1 C hb1 hC1 hC2 Lm
    have e1:k+(n+1 - k)=n+1:=by omega
    rw[e1] at*
    have eB:=aa hb1
    have yz:=aa hC2
    have ue:=aa Lm
    have Ew:=λ u=>iF (some ⟨w.heap.size,0,none⟩) (n+1) C (k+1) WC u
    have aij:=λ u=>iF (some ⟨w.heap.size,0,none⟩) (n+1) C k WC u
    rw[if_neg WC] at Ew aij
    simp only[Option.map_some,dQ,Nat.mul_one,Nat.zero_add] at Ew aij
    push_cast at Ew
    obtain⟨e,he⟩:∃e,e=w.heap.size:=⟨_,rfl⟩
    have HE:=aa he
    rw[<- he] at eB Ew aij ⊢
    have HX:=aa (show∀(j:Nat) v,[eU x][j]?=some v->w1.cell? ((⟨vb,0,none⟩:Addr).add j)=some v from λ j v hj=>by
     rw[PB,Nat.zero_add,(HV.ae.later ue.ae).cell]
     simpa [eU] using hj)
    clear hb1 hC2 Lm he e1)
  |(refine jf rfl (.tmp 43) (.tmp 44) rfl e k _ ⟨vb,0,none⟩ [eU x] _ _ _ _ rfl rfl eB.ae (by have:=qC.ae;simp only[size_toArray,length_append,length_replicate,length_singleton];omega) TaQ HX.ae (Ax [x]) ?_
    intro W2 u2 hg2 aou
    obtain⟨c2,hc2⟩:∃c2:Array Value,c2=((((gs.take k).map eU++List.replicate (C - k) (Value.pointer none)).toArray.toList.take k)++([eU x]++(((gs.take k).map eU++List.replicate (C - k) (Value.pointer none)).toArray.toList.drop (k+ [eU x].length)))).toArray:=⟨_,rfl⟩
    have HG2:=aa (show aB W2 e 135 c2 from hc2▸hg2)
    have aov:=aa hc2
    have auT:=aa aou
    clear hg2 aou hc2))
 refine bA 8 (aii e g n C cap k) (Qn _ _ _ _ _ _) Va Va Va ?_ ?_
 ·exact Zbm
 open zg6 in exact ZeM
theorem Qo (gs:List Nat)(x k:Nat)(lv:Value)(base vb:Nat)(w:World)(hl:gs.length<=1000000)(hk:k<=gs.length)(hO:aF cZ 135 1 w base lv gs)(hv:aB w vb 135 #[aw x])(hbase:base<=w.heap.size)(hne:lv.ownBlock≠some vb):
  ar 66 #[lv,af k,aI vb 1 1] w (Ay lv base (gs.take k++x::gs.drop k) w):=by
 rcases Nat.lt_or_ge k gs.length with hlt | ve
 ·obtain⟨h1,h2 |⟨g,cap,cur,rfl,hbg,hg,hlc,hm,hsz,lN⟩⟩:=hO
  ·obtain⟨_,h2⟩:=h2;omega
  ·rw[rE,Nat.mul_one] at lN;rw[Nat.mul_one] at hsz;rcases Nat.lt_or_ge cap (gs.length+1)with hc | hc
   ·exact Mu gs x k g cap base vb cur w hl hlt hbase hg hlc hc hsz lN hv
   ·exact Mf gs x k g cap base vb cur w hl hlt hbg hg hc hm hsz lN hv (λ e=>hne (by rw[e];rfl))
 ·have fw:k=gs.length:=by omega
  subst fw;rw[take_length,drop_length];exact PL gs x lv base vb w hl hO hv hbase
variable{α:Type}
def exE:Except Int α->Int
 | .error e=>e
 | .ok _=>0
def uh:Except Int α->Option α
 | .ok x=>some x
 | .error _=>none
theorem Mw(l:List (Except Int α)):Ei l=if cO (l.map exE)≠0 then .error (cO (l.map exE))else .ok (l.filterMap uh):=rfl
variable{q:Qy}{cols:List aW}
theorem uC{p:ib}(h:dn q cols=.ok p):p.aK=q.aK/\(q.items=[]->q.aK=false)/\∃gc hd s1 s2,oX cols q.bT=.ok ()/\kI cols q.aL 0=.ok gc/\dm q.aK q.aL cols q.items ⟨[],gc⟩=.ok (p.items,hd,s1)/\dA q.aK q.aL cols q.fq s1=.ok (p.having,s2)/\eu q.aK q.aL cols q.ord s2=.ok (p.order,p.st)/\p.head=if q.items=[] then cols else hd:=by
 unfold dn at h;split at h
 ·cases h
 split at h
 ·cases h
 split at h
 ·cases h
 rename_i hw;split at h
 ·cases h
 rename_i gc hgc;split at h
 ·cases h
 rename_i hni;split at h
 ·cases h
 rename_i is hd s1 hi;split at h
 ·cases h
 rename_i hs s2 hh;split at h
 ·cases h
 rename_i os s3 ho;injection h with h;subst h;refine⟨rfl,λ he=>?_,gc,hd,s1,s2,hw,hgc,hi,hh,ho,rfl⟩
 cases hg:q.aK with
 | false=>rfl
 | true=>exact absurd ⟨he,hg⟩ hni
variable{aL:List Tr}
theorem xY{g:Bool}  :∀ {l:List (Tr×ByteArray)} {s:dy} {ys:List Tr} {hd:List aW} {s':dy},dm g aL cols l s=.ok (ys,hd,s')->ys.length=l.length
 | [],s,ys,hd,s',h=>by unfold dm at h;injection h with h;injection h with h1 _;rw[<- h1];rfl
 |(t,nm)::l,s,ys,hd,s',h=>by
  unfold dm at h;split at h
  ·cases h
  split at h
  ·cases h
  rename_i hi;injection h with h;injection h with h1 _;rw[<- h1,length_cons,xY hi,length_cons]
def Mx (p:ib)(over:List aW)(r:List Val):Except Int fC:=match bB over r (p.items++p.order)with
 | .error e=> .error e
 | .ok l=> .ok (Sb p r l)
theorem VH (p:ib)(cols:List aW)(rows:List (List Val)):xx p cols rows=Ei (rows.map (Mx p (iT p cols))):=rfl
def fY (ng:Nat)(aJ:List Tr)(ls:List (List Val)):List (List Val×List (Val×Val)):=ls.map λ l=>(l.take ng,gS aJ (l.drop ng))
structure nZ (ng:Nat) (aJ:List Tr) (xs:List gH) (ks ls:List (List Val)):Prop where
 keys:xs.map gH.key=fo ng (ks.map λ l=>l.take ng)
 qB:∀x∈xs,x.ss=dU (aJ.map Tr.op) (fY ng aJ ls) x.key
variable{ng:Nat}{ks ls:List (List Val)}{i:Nat}{x:gH}
theorem nZ.get{aJ:List Tr}  (h:nZ ng aJ xs ks ls)  (hx:xs[i]?=some x):(fo ng (ks.map λ l=>l.take ng))[i]?=some x.key:=by rw[<- h.keys,getElem?_map,hx];rfl
variable{j:Nat}{y:gH}
theorem nZ.less{aJ:List Tr}  (h:nZ ng aJ xs ks ls)  (hx:xs[i]?=some x)(hy:xs[j]?=some y)(nL:i < j):cH x.key y.key < 0:=by have hp:=F7 ng (ks.map λ l=>l.take ng);have e1:=h.get hx;have e2:=h.get hy;rw[pairwise_iff_getElem] at hp;obtain⟨i1,i2⟩:=List.getElem?_eq_some_iff.1 e1;obtain⟨j1,j2⟩:=List.getElem?_eq_some_iff.1 e2;have:=hp i j i1 j1 nL;rwa [i2,j2] at this
variable{l:List Val}
theorem nZ.there{aJ:List Tr}     (h:nZ ng aJ xs ls ls)(hx:xs[j]?=some x)(hk:x.key=l.take ng):nZ ng aJ xs (ls++ [l]) ls:=by
 refine⟨?_,h.qB⟩;rw[h.keys,map_append];unfold fo;by_cases h0:ng=0
 ·rw[if_pos h0,if_pos h0]
 ·rw[if_neg h0,if_neg h0];show _=iR ((ls.map λ l=>l.take ng)++ [l.take ng]);rw[Cw];have CU:=h.keys;unfold fo at CU;rw[if_neg h0] at CU;rw[<- CU];refine(Cv (j:=j) (x:=x.key) (λ i y hi hy=>?_) (by rw[getElem?_map,hx];rfl) (by rw[hk];exact xo _)).symm;rw[getElem?_map] at hy
  cases hz:xs[i]? with
  | none=>rw[hz] at hy;cases hy
  | some z=>rw[hz] at hy;injection hy with hy;rw[<- hy,<- hk];exact h.less hz hx hi
theorem nZ.new{aJ:List Tr}     (h:nZ ng aJ xs ls ls)(hj:j<=xs.length)(fI:∀i y,i < j->xs[i]?=some y->cH y.key (l.take ng)< 0)(hhi:∀y,xs[j]?=some y->0 < cH y.key (l.take ng))(h0:ng≠0)(hk:x.key=l.take ng)(hs:x.ss=(aJ.map Tr.op).map fh):nZ ng aJ (xs.take j++x::xs.drop j) (ls++ [l]) ls:=by
 have hne:∀y∈xs,cH y.key (l.take ng)≠0:=by
  intro y hy;obtain⟨i,hi,rfl⟩:=getElem_of_mem hy;have fP:xs[i]?=some xs[i]:=getElem?_eq_getElem hi;rcases Nat.lt_trichotomy i j with h1 | h1 | h1
  ·have:=fI i _ h1 fP;omega
  ·subst h1;have:=hhi _ fP;omega
  ·have hj2:j < xs.length:=by omega
   have a1:=hhi _ (getElem?_eq_getElem hj2);have a2:=h.less (getElem?_eq_getElem hj2) fP h1;intro e;have e2:=iP _ _ e;rw[e2] at a2;omega
 refine⟨?_,λ y hy=>?_⟩
 ·unfold fo;rw[if_neg h0,map_append (l₁:=ls)];show _=iR ((ls.map λ l=>l.take ng)++ [l.take ng]);have CU:=h.keys;unfold fo at CU;rw[if_neg h0] at CU;rw[Cw,<- CU,Mg (j:=j) (by rw[length_map];exact hj) ?_ ?_,map_append,map_cons,map_take,map_drop,hk]
  ·intro i y hi hy;rw[getElem?_map] at hy
   cases hz:xs[i]? with
   | none=>rw[hz] at hy;cases hy
   | some z=>rw[hz] at hy;injection hy with hy;rw[<- hy];exact fI i z hi hz
  ·intro y hy;rw[getElem?_map] at hy
   cases hz:xs[j]? with
   | none=>rw[hz] at hy;cases hy
   | some z=>rw[hz] at hy;injection hy with hy;rw[<- hy];exact hhi z hz
 ·rcases List.mem_append.1 hy with hy | hy
  ·exact h.qB y (mem_of_mem_take hy)
  rcases List.mem_cons.1 hy with rfl | hy
  ·rw[hs];refine(Cx λ q hq=>?_).symm;unfold fY at hq;obtain⟨m,hm,rfl⟩:=List.mem_map.1 hq;have:m.take ng∈xs.map gH.key:=by rw[h.keys];unfold fo;rw[if_neg h0];exact((vG jE iP _).2 _).2 (mem_map_of_mem hm)
   obtain⟨y,hy,e⟩:=List.mem_map.1 this;rw[hk];show cH (m.take ng) (l.take ng)≠0;have e:y.key=m.take ng:=e;rw[<- e];exact hne y hy
  ·exact h.qB y (mem_of_mem_drop hy)
theorem nZ.feed{aJ:List Tr}     (h:nZ ng aJ xs (ls++ [l]) ls)(hx:xs[j]?=some x)(hk:x.key=l.take ng):nZ ng aJ (xs.set j { x with ss:=eC x.ss (gS aJ (l.drop ng))}) (ls++ [l]) (ls++ [l]):=by
 have hj:j < xs.length:=by
  rcases Nat.lt_or_ge j xs.length with h | h
  ·exact h
  ·rw[getElem?_eq_none h] at hx;cases hx
 have hf:fY ng aJ (ls++ [l])=fY ng aJ ls++ [(l.take ng,gS aJ (l.drop ng))]:=by unfold fY;rw[map_append];rfl
 refine⟨?_,λ y hy=>?_⟩
 ·rw[<- h.keys,map_set];exact Cy (by rw[getElem?_map,hx];rfl)
 ·obtain⟨i,hi,he⟩:=getElem_of_mem hy;have Gl:i < xs.length:=by simpa using hi
  rw[getElem_set] at he;by_cases nL:j=i
  ·rw[if_pos nL] at he;subst he;dsimp only;rw[hf,Mh (by rw[hk];exact xo _) (by rw[CB,length_map]),<- h.qB x (mem_of_getElem? hx)];rfl
  ·rw[if_neg nL] at he;subst he;have hi3:xs[i]?=some xs[i]:=getElem?_eq_getElem Gl;rw[hf,Jc ?_]
   ·exact h.qB _ (getElem_mem Gl)
   ·rw[<- hk];intro e;rcases Nat.lt_or_gt_of_ne nL with h1 | h1
    ·have:=h.less hx hi3 h1;omega
    ·have:=h.less hi3 hx h1;have:=jE.jn xs[i].key x.key;omega
theorem rK{k:List Val}(h:k∈fo ng (ls.map λ l=>l.take ng)):k.length<=ng:=by
 unfold fo at h;split at h
 ·simp at h;rw[h];simp
 ·have:=((vG jE iP _).2 _).1 h;obtain⟨l,_,rfl⟩:=List.mem_map.1 this;exact length_take_le _ _
theorem Jp (op:Int):∀l:List (Val×Val),0<=cnt op l/\cnt op l<=l.length
 | []=>by simp[cnt]
 | x::l=>by
   have h:=Jp op l;have h1:0<=one op x/\one op x<=1:=by unfold one;split <;>(try split)<;>(try split)<;> omega
   simp only[cnt,length_cons];omega
variable{op:Int}{s:St}
theorem J5(h0:21<=op)(h1:op<=28) {l:List (Val×Val)} (r:Ov op s l)(hl:l.length<=1000000):s.Ok:=by
 have:=Jp op l;have:=r.count;have:=r.all;have hs:=r.sum;refine⟨by rw[r.kind];exact h0,by rw[r.kind];exact h1,by omega,by omega,by omega,by omega,?_,?_⟩
 ·rw[hs];unfold M;omega
 ·rw[hs];unfold M;omega
theorem uD{ops:List Int}(kE:∀op∈ops,isAgg op=true) {ps:List (List Val×List (Val×Val))} {k:List Val}(hp:ps.length<=300):∀s∈dU ops ps k,(s.Ok/\s.all < 4611686018427387904)/\∃v e,gI s v e:=by intro s hs;obtain⟨op,l,ho,hl,rfl⟩:=Vv kE s hs;have oG:=kE op ho;unfold isAgg at oG;simp only[Bool.and_eq_true,decide_eq_true_eq] at oG;have r:=Ak oG.1 oG.2 l;have ok:=J5 oG.1 oG.2 r WC;have:=Jp op l;have:=r.count;have ha:=r.all;exact⟨⟨ok,by omega⟩,agL _ ok WC⟩
def na:Except Int (List Val)->Int
 | .error e=>e
 | .ok _=>0
variable{row:List Val}{ts:List Tr}
theorem Gy(h:bB cols row ts=.error e):e≠0:=by
 unfold bB at h;split at h
 ·rename_i hne;injection h with h;rw[<- h];exact hne
 ·cases h
theorem CV(h:bB cols row ts=.ok l):l.length=ts.length:=by
 unfold bB at h;split at h
 ·cases h
 ·injection h with h;rw[<- h,length_map,Tr.oI]
def fp (cols:List aW)(ts:List Tr)(rs:List aX):List (List Val):=rs.filterMap λ r=>match bB cols r.l ts with | .ok l=>some l | .error _=>none
def dY (cols:List aW)(ts:List Tr)(rs:List aX):Int:=cO (rs.map λ r=>na (bB cols r.l ts))
variable{rs:List aX}
theorem CW(h:k < rs.length):fp cols ts (rs.take (k+1))=fp cols ts (rs.take k)++(match bB cols rs[k].l ts with | .ok l=> [l] | .error _=> [])/\dY cols ts (rs.take (k+1))=jo (dY cols ts (rs.take k)) (na (bB cols rs[k].l ts)):=by
 have e:rs.take (k+1)=rs.take k++ [rs[k]]:=by rw[take_add_one,getElem?_eq_getElem h];rfl
 unfold fp dY;rw[e,filterMap_append,map_append];refine⟨?_,qW _ _⟩;congr 1;rw[filterMap_cons,filterMap_nil];cases bB cols rs[k].l ts <;> rfl
theorem uE (cols:List aW)(ts:List Tr)(rs:List aX):(fp cols ts rs).length<=rs.length:=length_filterMap_le _ _
theorem VI(h:l∈fp cols ts rs):∃r∈rs,bB cols r.l ts=.ok l:=by
 unfold fp at h;obtain⟨r,hr,e⟩:=List.mem_filterMap.1 h;refine⟨r,hr,?_⟩
 cases hw:bB cols r.l ts with
 | error e2=>rw[hw] at e;cases e
 | ok m=>rw[hw] at e;injection e with e;rw[e]
theorem CX(hr:∀v∈row,v.Ok)(ht:Tr.cL ts)(h:bB cols row ts=.ok l):∀v∈l,v.Ok:=by
 unfold bB at h;split at h
 ·cases h
 ·injection h with h;rw[<- h];intro v hv;obtain⟨z,hz,rfl⟩:=List.mem_map.1 hv;exact Tr.vt cols row hr ts ht z hz
variable{B':Nat}{qs:List Nat}{ss:List St}
theorem dF.down(h:dF w B qs ss)(hB:B'<=B):dF w B' qs ss:=⟨h.len,h.at_,λ q hq=>⟨Nat.le_trans hB (h.low q hq).1,(h.low q hq).2⟩,h.apart⟩
variable{A:Option Addr}
theorem bL.take(h:bL w A l)(n:Nat):bL w A (l.take n):=⟨h.rv.F4 n,h.ty⟩
variable{w':World}{v:Value}
theorem aF.turn{f:α->List Value} {e:TypeId} {size base:Nat}   {l:List α}  (h:aF f e size w base v l)(ht:pz w w' qs)(hs:dF w B qs ss)(he:e≠199):aF f e size w' base v l:=h.keep λ g hg=>by obtain⟨h1,_,cur,hc⟩:=h.lt hg;exact ht.block g h1 (hs.tJ (show aB w g e cur from hc) he)
theorem afG(h:xs[j]?=some x):(xs.set j { x with ss:=ss }).map gH.g=xs.map gH.g:=by rw[map_set];exact Cy (by rw[getElem?_map,h];rfl)
structure CY (w:World) (gp:Nat) (aL aJ:List Tr) (cols:List aW) (yg ya:List Ex) (GA:Option Addr) (gc:Nat) (CA:Option Addr) (cc:Nat) (AA:Option Addr) (ac:Nat):Prop where
 lt:gp < w.heap.size
 c4:w.cell? ⟨gp,4,none⟩=some (.slice GA yg.length gc)
 c8:w.cell? ⟨gp,8,none⟩=some (.slice CA cols.length cc)
 c9:w.cell? ⟨gp,9,none⟩=some (.slice AA ya.length ac)
 rg:RE w w.heap.size GA yg
 tg:Tr.aO w (Old w) aL yg
 ra:RE w w.heap.size AA ya
 ta:Tr.aO w (Old w) aJ ya
 rc:RC w w.heap.size CA cols
variable{gp:Nat}{yg ya:List Ex}{GA:Option Addr}{gc:Nat}{CA:Option Addr}{cc:Nat}{AA:Option Addr}
theorem CY.later{aJ:List Tr}        {ac:Nat}(h:CY w gp aL aJ cols yg ya GA gc CA cc AA ac)(hb:aj w w'):CY w' gp aL aJ cols yg ya GA gc CA cc AA ac:=
 ⟨Nat.lt_of_lt_of_le h.lt hb.size,(hb.cell (p:=⟨gp,4,none⟩) h.lt).trans h.c4,(hb.cell (p:=⟨gp,8,none⟩) h.lt).trans h.c8,(hb.cell (p:=⟨gp,9,none⟩) h.lt).trans h.c9,h.rg.later hb,Tr.aO.later h.tg hb,h.ra.later hb,Tr.aO.later h.ta hb,h.rc.later hb⟩
variable{n c:Nat}{ys:List Ex}
theorem acQ{base:Nat}  (h:aF bF 46 7 w base (.slice A n c) ys):RE w w.heap.size A ys:=by obtain⟨A2,c2,e,_,h1⟩:=pF h (S:=Old w) (λ q hq=>(h.lt hq).1);injection e with e _ _;subst e;exact ZcQ
theorem rL{base:Nat}  (h:aF bF 46 7 w base v ys):∃A c,v=.slice A ys.length c/\RE w w.heap.size A ys:=by obtain⟨A,c,e,_,h1⟩:=pF h (S:=Old w) (λ q hq=>(h.lt hq).1);refine⟨A,c,e,?_⟩;exact ZcQ
def uF (w:World)(B0:Nat)(v:Value)(E:List Ex):Prop:=aF bF 46 7 w B0 v E
variable{B0:Nat}{E:List Ex}
theorem uF.later(h:uF w B0 v E)(hb:ai w w'):uF w' B0 v E:=aF.later h hb
def nC (res:Except Int (List Val))(w:World)(B0:Nat)(v0 v1:Value):Prop:=match res with
 | .error er=>v0=az/\v1=af er
 | .ok l=>v1=af 0/\aF aV 44 3 w B0 v0 l
variable{res:Except Int (List Val)}{v0 v1:Value}
theorem nC.later(h:nC res w B0 v0 v1)(hb:ai w w'):nC res w' B0 v0 v1:=by
 cases res with
 | error er=>exact h
 | ok l=>exact⟨h.1,aF.later h.2 hb⟩
theorem nC.err(h:nC res w B0 v0 v1):v1=af (na res):=by
 cases res with
 | error er=>exact h.2
 | ok l=>exact h.1
def aik (gp:Nat)(GA:Option Addr)(gn gc:Nat)(J6:Option Addr)(en J7:Nat)(CA:Option Addr)(cn cc:Nat)(RA:Option Addr)(rn rc:Nat)(E:List Ex)(B0:Nat)(res:Except Int (List Val)):Nat->World->Value->Prop
 | 0,_,v=>v=aw gp
 | 1,_,v=>v=aw gp
 | 2,_,v=>v=aw gp
 | 3,_,v=>v=ba gp 4
 | 4,_,v=>v=.slice GA gn gc
 | 5,_,v=>v=.slice J6 en J7
 | 6,w,v=>∃gB:Nat,v=aI gB 2 2/\aB w gB 23 #[.slice GA gn gc,.slice J6 en J7]
 | 7,w,v=>∃v7:Value,v=v7/\uF w B0 v7 E
 | 8,_,v=>v=aw gp
 | 9,_,v=>v=aw gp
 | 10,_,v=>v=ba gp 8
 | 11,_,v=>v=.slice CA cn cc
 | 12,_,v=>v=.slice RA rn rc
 | 13,w,v=>∃x0 x1:Value,v=.tuple #[x0,x1]/\nC res w B0 x0 x1
 | 14,w,v=>∃x0 x1:Value,v=.tuple #[x0,x1]/\nC res w B0 x0 x1
 | 15,w,v=>∃x0 x1:Value,v=x0/\nC res w B0 x0 x1
 | 16,_,v=>v=af (na res)
 | 17,w,v=>∃x0 x1:Value,v=x0/\nC res w B0 x0 x1
 | _,_,_=>False
theorem Qp (gp:Nat)(GA:Option Addr)(gn gc:Nat)(J6:Option Addr)(en J7:Nat)(CA:Option Addr)(cn cc:Nat)(RA:Option Addr)(rn rc:Nat)(E:List Ex)(B0:Nat)(res:Except Int (List Val)):∀i w w' v,aik gp GA gn gc J6 en J7 CA cn cc RA rn rc E B0 res i w v->ai w w'->aik gp GA gn gc J6 en J7 CA cn cc RA rn rc E B0 res i w' v:=by
 intro i w w' v h hl
 match i with
 | 0 | 1 | 2 | 3 | 4 | 5 | 8 | 9 | 10 | 11 | 12 | 16=>exact h
 | 6=>obtain⟨gB,h1,f0⟩:=h;exact⟨gB,h1,f0.later hl⟩
 | 7=>obtain⟨v7,h1,f0⟩:=h;exact⟨v7,h1,f0.later hl⟩
 | 13=>exact Zb1
 | 14=>exact Zb1
 | 15=>exact Zb1
 | 17=>exact Zb1
 | n+18=>exact h
def ail (gp:Nat)(GA:Option Addr)(gn gc:Nat)(XA:Option Addr)(xn xc:Nat):Nat->World->Value->Prop
 | 0,_,v=>v=.slice XA xn xc
 | 1,_,v=>v=aw gp
 | 2,_,v=>v=aw gp
 | 3,_,v=>v=aw gp
 | 4,_,v=>v=ba gp 4
 | 5,_,v=>v=.slice GA gn gc
 | 6,_,v=>v=af gn
 | 7,_,v=>v=aw gp
 | 8,_,v=>v=aw gp
 | 9,_,v=>v=aw gp
 | 10,_,v=>v=ba gp 4
 | 11,_,v=>v=.slice GA gn gc
 | 12,_,v=>v=af gn
 | 13,_,v=>v=.slice XA gn gn
 | _,_,_=>False
theorem Qq (gp:Nat)(GA:Option Addr)(gn gc:Nat)(XA:Option Addr)(xn xc:Nat):∀i w w' v,ail gp GA gn gc XA xn xc i w v->ai w w'->ail gp GA gn gc XA xn xc i w' v:=by
 intro i w w' v h hl
 match i with
 | 0 | 1 | 2 | 3 | 4 | 5 | 6 | 7 | 8 | 9 | 10 | 11 | 12 | 13=>exact h
 | n+14=>exact h
def acR (gp lb ln lc j q:Nat)(XA:Option Addr)(xn xc gn:Nat):Nat->World->Value->Prop
 | 0,_,v=>v=aw gp
 | 1,_,v=>v=aI lb ln lc
 | 2,_,v=>v=af j
 | 3,_,v=>v=ba lb j
 | 4,_,v=>v=aw q
 | 5,_,v=>v=.slice XA xn xc
 | 6,_,v=>v=.slice XA gn gn
 | 7,_,v=>v=af gn
 | 8,_,v=>v=.slice (eR XA xc gn) (xn - gn) (xc - gn)
 | _,_,_=>False
theorem CZ (gp lb ln lc j q:Nat)(XA:Option Addr)(xn xc gn:Nat):∀i w w' v,acR gp lb ln lc j q XA xn xc gn i w v->ai w w'->acR gp lb ln lc j q XA xn xc gn i w' v:=by exact ZfY
theorem zid.Kcm(h:p:=by
 refine bA 9 (acR gp lb xs.length lc j q XA xn xc gn) (CZ _ _ _ _ _ _ _ _ _ _) Va Va Va ?_ ?_
 ·exact Za5
 exact Zat):p:=h
theorem zie.Kcm(h:p:=by
 refine bA 9 (acR gp lb xs1.length lc9 j q XA xn xc gn) (CZ _ _ _ _ _ _ _ _ _ _) Va Va Va ?_ ?_
 ·exact Za5
 exact Zat):p:=h
theorem zhG.Kb7(h:p:=by
 have Cj:=aa (Mz.ae.later hL);have HGW:=aa (Vn.ae.later hL);have HKW:=aa (uA.ae.keep hL.size λ b cur hX=>hL.block b hX.lt);clear hL uS zW K9 Mz Vn uA HEW;obtain⟨LA,lc,aZ,hlc,L0⟩:=vZ Cj.ae;have aoK:=aa aZ;have hxl:xs.length<=301:=by have h1:=congrArg List.length wA.ae.keys;rw[length_map] at h1;have h2:=xS gn (ls.map λ l=>l.take gn);rw[length_map] at h2;have h3:=HLS.ae;have h4:=DU.ae;omega
 have HXL:=aa hxl;have zu:(l.take gn).length=gn:=by rw[length_take];have:=xJ.ae;have:=ow.ae;omega
 have Xo:=aa zu;have hng:gn<=1000:=by have:=IH.ae;have:=F2.ae;omega
 have XD:=aa hng
 have hsr:∀W,aj W6 W->ar 64 #[.slice LA (xs.map gH.g).length lc,.slice XA gn gn,.func (.func 65) #[] #[]] W (Cl (xs.map gH.g).length (λ i=>cH ((xs.map gH.key).getD i []) (l.take gn)) W):=λ W hW=>by
  refine PI (xs.map gH.g) LA XA lc gn gn (λ i=>cH ((xs.map gH.key).getD i []) (l.take gn)) W (by rw[length_map];omega) (L0.later hW) (λ i hi W2 hW2=>?_) (λ i j nL hj hc=>?_)
  ·rw[length_map] at hi;have hx:=((HGW.ae.later hW).later hW2).at_ xs[i] (getElem_mem hi);have c0:=hx.blk.cell 0;simp only[getElem?_toArray,getElem?_cons_zero] at c0;have hk2:=(HKW.ae.keep hW.size λ b cur hX=>hW.block b hX.lt).keep hW2.size λ b cur hX=>hW2.block b hX.lt
   have pP:xs[i].key.length<=gn:=rK (by rw[<- wA.ae.keys];exact mem_map_of_mem (getElem_mem hi));have tG:=PH xs[i].g xs[i].KA XA xs[i].key (l.take gn) xs[i].kc gn W2 hx.blk.lt c0 hx.key.rv (hk2.rv.F4 gn) WC WC;rw[zu] at tG;simp only[getElem_map,getD_eq_getElem?_getD,getElem?_map,getElem?_eq_getElem hi,Option.map_some,Option.getD_some];exact tG
  ·rw[length_map] at hj;have hi:i < xs.length:=by omega
   simp only[getD_eq_getElem?_getD,getElem?_map,getElem?_eq_getElem hi,getElem?_eq_getElem hj,Option.map_some,Option.getD_some] at hc ⊢;rcases Nat.lt_or_ge i j with h1 | h1
   ·have:=wA.ae.less (getElem?_eq_getElem hi) (getElem?_eq_getElem hj) h1;exact jE.aeO this WC
   ·have e:i=j:=by omega
    subst e;exact hc
 have HSR:=aa (hsr _ (Below.refl _ _));have HLR:=aa L0;rw[length_map] at HSR hlc aoK aZ;have tF:=aa hlc;subst aZ;clear hsr L0 zu hng hlc aoK;go_wp2_with fail;refine HSR.ae.mono ?_;rintro e w7 ⟨j,hj,rfl,fI,hhi,b7⟩;have HJ:=aa hj;have ue:=aa (show∀i y,i < j->xs[i]?=some y->cH y.key (l.take gn)< 0 from λ i y hi hy=>by
  have:=fI i hi
  simpa only[getD_eq_getElem?_getD,getElem?_map,hy,Option.map_some,Option.getD_some] using this)
 have aiv:=aa (show∀i y,j<=i->xs[i]?=some y->0<=cH y.key (l.take gn)from λ i y hi hy=>by
  have rW:i < xs.length:=(List.getElem?_eq_some_iff.1 hy).1
  have:=hhi i hi rW
  simpa only[getD_eq_getElem?_getD,getElem?_map,hy,Option.map_some,Option.getD_some] using this)
 have LT:=aa (Below.trans Ma.ae (b7.mono Ma.ae.size));have pE:=aa (Mi.ae.later b7);have MA:=aa (DX.ae.later b7);have MB:=aa (Cj.ae.later b7);have LE:=aa (HGW.ae.later b7);have Mt:=aa (HKW.ae.keep b7.size λ b cur hX=>b7.block b hX.lt);have aiw:=aa (HLR.ae.later b7);clear b7 fI hhi hj Ma Mi DX Cj HGW HKW HLR HSR;by_cases hf:j < xs.length/\cH ((xs.map gH.key).getD j []) (l.take gn)=0
 ·obtain⟨hf1,hf2⟩:=hf;have tf:(decide (j < xs.length)&& decide (cH ((xs.map gH.key).getD j []) (l.take gn)=0))=true:=by simp only[decide_eq_true hf1,decide_eq_true hf2,Bool.and_self]
  have HF1:=aa hf1;have HKEY:=aa (show xs[j].key=l.take gn from iP _ _ (by
   have h2:=hf2
   simp only[getD_eq_getElem?_getD,getElem?_map,getElem?_eq_getElem hf1,Option.map_some,Option.getD_some] at h2
   exact h2))
  have HM:=aa (wA.ae.there (getElem?_eq_getElem hf1) HKEY.ae);have hxj:xs[j]?=some xs[j]:=getElem?_eq_getElem hf1;rw[tf];obtain⟨x,hx⟩:∃x,x=xs[j]:=⟨_,rfl⟩;rw[<- hx] at HKEY hxj;have Qx:=aa hxj;have Jr:=LT;have L1:=pE;have Js:=MA;have mA:=MB;have Qf:=LE;have HK9:=Mt;have L3:=aiw;clear hf1 hf2 tf hxj hx LT pE MA MB LE Mt aiw wA ue aiv;go_upto_region 20 with fail;have uW:j < xs.length:=(List.getElem?_eq_some_iff.1 Qx.ae).1;have HJL:=aa uW;obtain⟨lb,hA,DT,hcj⟩:=L3.ae.at_ (k:=j) (by rw[length_map];exact uW);obtain⟨aix,hxe⟩:=List.getElem?_eq_some_iff.1 (show(xs.map gH.g)[j]?=some x.g by rw[getElem?_map,Qx.ae];rfl);open zid in exact Zhb
 ·have tf:(decide (j < xs.length)&& decide (cH ((xs.map gH.key).getD j []) (l.take gn)=0))=false:=by
   rw[Bool.and_eq_false_iff,decide_eq_false_iff_not,decide_eq_false_iff_not];by_cases h1:j < xs.length
   ·exact .inr λ h2=>hf ⟨h1,h2⟩
   ·exact .inl h1
  have HNF:=aa (show∀y,xs[j]?=some y->0 < cH y.key (l.take gn)from λ y hy=>by
   have h1:=aiv.ae j y (Nat.le_refl _) hy
   have uW:=(List.getElem?_eq_some_iff.1 hy).1
   rcases Int.lt_or_eq_of_le h1 with h2 | h2
   ·exact h2
   ·exact absurd ⟨uW,by simp only[getD_eq_getElem?_getD,getElem?_map,hy,Option.map_some,Option.getD_some];exact h2.symm⟩ hf)
  have XH:=aa (show gn≠0 from λ h0=>by
   have hk:=wA.ae.keys
   unfold fo at hk
   rw[if_pos h0] at hk
   have ft:xs.length=1:=by have:=congrArg List.length hk;simpa using this
   obtain⟨x,hx⟩:∃x,xs=[x]:=List.length_eq_one_iff.1 ft
   have G0:x.key=[]:=by rw[hx] at hk;simpa using hk
   have ht:l.take gn=[]:=by rw[h0];rfl
   rcases Nat.eq_zero_or_pos j with h1 | h1
   ·have:=HNF.ae x (by rw[h1,hx];rfl)
    rw[G0,ht] at this
    simp[cH] at this
   ·have:=ue.ae 0 x h1 (by rw[hx];rfl)
    rw[G0,ht] at this
    simp[cH] at this)
  rw[tf];clear tf hf;have HE7:=aa (HF.ae.later LT.ae);go_wp2_with fail;refine(Gg gp ya AA ac XA gn gn w7 (by have:=Ag.ae;omega) HE7.ae.lt HE7.ae.c9 HE7.ae.ra (λ y hy=>by
   have h1:y.op∈aJ.map Tr.op:=by rw[<- Q3.ae];exact mem_map_of_mem hy
   obtain⟨t,ht,he⟩:=List.mem_map.1 h1
   rw[<- he]
   exact Q4.ae t ht)).mono ?_
  rintro e w2 ⟨gg,sv,qs,rfl,eh,IW,hgk,J3,Td,b2⟩;have bN:=ah w2 (.cells #[aw gg] 135);have hNB:=aB.new w2 135 #[aw gg];have b9:=ai.then b2 bN
  have M0:w0.heap.size<=w7.heap.size:=LT.ae.size;have Vx:=aa (show gH.At w2 w0.heap.size ⟨gg,XA,gn,l.take gn,sv,qs,ya.map λ y=>fh y.op⟩from⟨by rw[Xo.ae];exact hgk,Nat.le_trans M0 eh,J3.down M0,Td.down M0,(Mt.ae.keep b2.size λ b cur hX=>b2.block b hX.lt).take gn⟩);have Xz:=aa ((LE.ae.later b2).insert (k:=j) Vx.ae (λ y hy q hq hm=>by
   have h1:=((LE.ae.at_ y hy).qB.low q hq).2
   have h2:=(Td.low q hm).1
   omega))
  have acZ:=aa (Xz.ae.later bN);have wD:=aa (MB.ae.later b9);have aoQ:=aa (pE.ae.later b9);have ED:=aa (MA.ae.later b9);have HK8:=aa (Mt.ae.keep b9.size λ b cur hX=>b9.block b hX.lt);have Gr:=aa (Below.trans LT.ae (b9.mono M0));have pT:=aa hNB;have hvb:(Value.slice LA xs.length lc).ownBlock≠some w2.heap.size:=λ e=>by have:=(MB.ae.lt e).1;have:=b2.size;omega
  have HVB:=aa hvb;have HMJ:=aa (show nZ gn aJ (xs.take j++⟨gg,XA,gn,l.take gn,sv,qs,ya.map λ y=>fh y.op⟩::xs.drop j) (ls++ [l]) ls from wA.ae.new (by exact HJ.ae) ue.ae HNF.ae XH.ae rfl (by
   show ya.map (λ y=>fh y.op)=_
   rw[<- Q3.ae,map_map]
   rfl))
  have pU:(xs.map gH.g).take j++gg::(xs.map gH.g).drop j=(xs.take j++(⟨gg,XA,gn,l.take gn,sv,qs,ya.map λ y=>fh y.op⟩:gH)::xs.drop j).map gH.g:=by simp
  have hjx:(xs.take j++(⟨gg,XA,gn,l.take gn,sv,qs,ya.map λ y=>fh y.op⟩:gH)::xs.drop j)[j]?=some ⟨gg,XA,gn,l.take gn,sv,qs,ya.map λ y=>fh y.op⟩:=by
   have uW:j<=xs.length:=by exact HJ.ae
   rw[getElem?_append_right TaH,length_take,Nat.min_eq_left uW,Nat.sub_self];rfl
  have ada:(xs.take j++(⟨gg,XA,gn,l.take gn,sv,qs,ya.map λ y=>fh y.op⟩:gH)::xs.drop j).length<=302:=by
   have uW:j<=xs.length:=by exact HJ.ae
   have:=HXL.ae;simp only[length_append,length_take,length_cons,length_drop];omega
  obtain⟨x,hx⟩:∃x:gH,x=⟨gg,XA,gn,l.take gn,sv,qs,ya.map λ y=>fh y.op⟩:=⟨_,rfl⟩;have HKEY:=aa (show x.key=l.take gn by rw[hx]);rw[<- hx] at Xz acZ HMJ pU hjx ada Vx;obtain⟨xs1,aoS⟩:∃xs1:List gH,xs1=xs.take j++x::xs.drop j:=⟨_,rfl⟩;rw[<- aoS] at Xz acZ HMJ pU hjx ada;have Qx:=aa hjx;have HM:=HMJ;have HGS:=aa pU;have aBF:=aa ada;have aoT:=Qo (xs.map gH.g) gg j (.slice LA xs.length lc) w0.heap.size w2.heap.size _ (by rw[length_map];have:=HXL.ae;omega) (by rw[length_map];exact HJ.ae) wD.ae pT.ae Gr.ae.size HVB.ae;have xO:=aa aoT;clear aoT hx aoS pU hjx ada hvb hNB bN b2 b9 M0 J3 Td hgk IW eh Vx LE MB pE MA Mt LT Xz wA ue aiv HNF aiw HE7;go_wp2_with fail;refine xO.ae.mono ?_;rintro e w1 ⟨v1,rfl,hR,Wo⟩;rw[HGS.ae] at hR;have mA:=aa hR;have Qf:=aa (acZ.ae.own wD.ae Wo Taa Taa Taa Taa);have L1:=aa (aoQ.ae.past wD.ae Taa Wo);have Js:=aa (ED.ae.kr wD.ae Taa Wo);have afL:=bj wD.ae Wo Gr.ae.size;have Jr:=aa (Below.trans Gr.ae afL);have HK9:=aa (HK8.ae.keep Wo.size λ b cur hX=>Wo.block b hX.lt λ e=>wD.ae.other hX Taa e.symm);obtain⟨LA9,lc9,hv9,_,aoV⟩:=vZ mA.ae;rw[length_map] at hv9;subst hv9;have L3:=aa aoV;clear hR Wo afL aoV wD acZ aoQ ED Gr HK8 xO pT HVB HGS;go_upto_region 20 with fail;have uW:j < xs1.length:=(List.getElem?_eq_some_iff.1 Qx.ae).1;have HJL:=aa uW;obtain⟨lb,hA,DT,hcj⟩:=L3.ae.at_ (k:=j) (by rw[length_map];exact uW);obtain⟨aix,hxe⟩:=List.getElem?_eq_some_iff.1 (show(xs1.map gH.g)[j]?=some x.g by rw[getElem?_map,Qx.ae];rfl)
  open zie in exact Zhb):p:=h
theorem zhU.Kcd(h:p:=by
 have hln:(aL++aJ.flatMap Tr.args).length=gn+ye.length:=by have a1:=dW HF.ae.tg;have a2:=dW Q1.ae;rw[length_append,a1,a2,IH.ae]
 have hgx:gn<=l.length:=by rw[xZ.ae,hln];omega
 have xJ:=aa hgx;have HXC:=aa (show gn<=xc by omega);have Qw:=aa hxl;have HEW:=aa (HF.ae.later uS.ae);have uO:=aa (show(l.drop gn).length=ye.length by rw[length_drop,xZ.ae,hln];omega);obtain⟨xn,DV⟩:∃xn,xn=l.length:=⟨_,rfl⟩;rw[<- DV] at xJ ⊢;have ow:=aa DV;clear G0 hln hgx hxl DV KK;go_upto_region 16 with fail;refine bA 14 (ail gp GA gn gc XA xn xc) (Qq _ _ _ _ _ _ _) Va Va Va ?_ ?_
 ·simp only[take_succ_cons,take_zero];refine⟨Z1,Z1,Z1,Z1,Z1,Zgv,Z1,Z1,Z1,Z1,Z1,Zgv,Z1,Zde,trivial⟩
 intro W6 hL;simp only[Uab];rintro a0 - a1 - a2 - a3 - a4 - a5 - a6 - a7 - a8 - a9 - FH - H7 - a12 - _ rfl;open zhG in exact ZfL):p:=h
theorem zcW.Kax(h:p:=by
 have HP:=aa Gu;have XF:=aa Qs;have aio:=aa lS;have HB:=aa hX;have VJ:=aa fq;have Q7:=aa hP;have K7:=aa aoB;have JU:=aa aZ;have HG0:=aa fP;have HI0:=aa hI0;have UC:=aa (show yg.length+ye.length<=1000000 by omega);have Lw:=aa (show(yg++ye).length<=1599289640356 by rw[length_append];omega);clear h hF ih q1 q2 q3 q4 q5 Au Tn C3 hz Nj Gu Qs lS hX fq hP aoB aZ fP hI0;simp only[gU,fA,Tryz.f33,Option.getD_some];refine wp_seq_k λ K hK=>?_
 have DM:=aa hK;clear hK;go_wp2_with fail;go_loopw [10,54] (λ lv i wr=>∃(k:Nat) (xs:List gH),k<=zs.length/\i=af k/\aj w0 wr/\aF bF 46 7 wr w0.heap.size (.slice J6 ye.length J7) ye/\aB wr gb 84 #[af (dY cols (aL++aJ.flatMap Tr.args) (zs.take k))]/\aF cZ 135 1 wr w0.heap.size lv (xs.map gH.g)/\kt wr w0.heap.size xs/\nZ gn aJ xs (fp cols (aL++aJ.flatMap Tr.args) (zs.take k)) (fp cols (aL++aJ.flatMap Tr.args) (zs.take k))) (λ _ i _=>zs.length - (intOf i).toNat);case atStart=>exact⟨0,xs0,Nat.zero_le _,rfl,HB.ae,VJ.ae,Q7.ae,JU.ae,HG0.ae,HI0.ae⟩
 case round=>
  clear HB VJ Q7 JU HG0 HI0;obtain⟨k,xs,hkr,rfl,hB,hAV,hGB,XG,hG,hI⟩:=hrel;have HB:=aa hB;have VJ:=aa hAV;have Q7:=aa hGB;have JU:=aa XG;have HG:=aa hG;have wA:=aa hI;clear hB hAV hGB XG hG hI;by_cases hlt:k < zs.length
  ·obtain⟨b,off,rfl,kz,hcell,uQ⟩:=(HP.ae.below HB.ae).at_ hlt;have AZ:=aa (uQ.more HB.ae.size);have Qj:=aa (aio.ae zs[k] (getElem_mem hlt));have K8:=aa (CW (cols:=cols) (ts:=aL++aJ.flatMap Tr.args) hlt);have HLS:=aa (uE cols (aL++aJ.flatMap Tr.args) (zs.take k));have DU:=aa (show(zs.take k).length<=300 by rw[length_take];have:=XF.ae;omega);generalize zs[k]=r at*;generalize dY cols (aL++aJ.flatMap Tr.args) (zs.take k)=FJ at*;generalize fp cols (aL++aJ.flatMap Tr.args) (zs.take k)=ls at*;obtain⟨res,hres⟩:∃res,res=bB cols r.l (aL++aJ.flatMap Tr.args):=⟨_,rfl⟩;rw[<- hres] at K8;have jI:=aa hres.symm;have oH:=aa (HF.ae.later HB.ae);have HTE:=aa (Tr.aO.later Q1.ae HB.ae);have ow:=aa (acQ VJ.ae);obtain⟨E,hE⟩:∃E,E=yg++ye:=⟨_,rfl⟩;have pW:=aa hE;obtain⟨B0,hB0⟩:∃B0,B0=wr.heap.size:=⟨_,rfl⟩;have Bw:=aa hB0;have hk9:k<=300:=by have:=XF.ae;omega
   clear kz uQ hres hE hB0;go_upto_region 14 with fail;clear hcell;refine bA 18 (aik gp GA gn gc J6 ye.length J7 CA cols.length cc r.A r.l.length r.c E B0 res) (Qp _ _ _ _ _ _ _ _ _ _ _ _ _ _ _ _) Va Va Va ?_ ?_
   ·simp only[take_succ_cons,take_zero];refine⟨Z1,Z1,Z1,Z1,?_,Z1,?_,?_,Z1,Z1,Z1,?_,Z1,?_,?_,?_,?_,?_,trivial⟩
    ·intro ρ w3 hc hL hr;have h0:_=_:=hr.1;have Kx:=(oH.ae.later hL).c4;exact ZbO
    ·intro ρ w3 hc hL hr;have h0:_=_:=hr.1;have h1:_=_:=hr.2.1;exact aq (v:=aI w3.heap.size 2 2) (w':=w3.alloc (.cells #[.slice GA gn gc,.slice J6 ye.length J7] 23)) Tav ⟨ah _ _,_,rfl,aB.new _ _ _⟩
    ·intro ρ w3 hc hL hr;obtain⟨gB0,h0,cJ⟩:∃gB:Nat,ρ (.tmp 65)=aI gB 2 2/\aB w3 gB 23 #[.slice GA gn gc,.slice J6 ye.length J7]:=hr.1;have e1:=hc.func 35;refine bu (f:=35) (args:= #[aI gB0 2 2]) (w':=w3) TaA ?_;refine(uq (some ⟨gB0,0,none⟩) 2 [⟨GA,gc,yg⟩,⟨J6,J7,ye⟩] w3 Tac (by simpa [lr] using UC.ae) ?_).mono ?_
     ·refine⟨gB0,0,rfl,cJ.lt,λ i x hx=>?_⟩
      match i,hx with
      | 0,hx=>simp at hx;subst hx;refine⟨?_,(oH.ae.later hL).rg⟩;exact Zfu
      | 1,hx=>simp at hx;subst hx;refine⟨?_,ow.ae.later hL⟩;have cb:=cJ.cell 1;simp only[Uaa] at cb;rw[Nat.zero_add,cb]
      | n+2,hx=>simp at hx
     ·exact ZdR
    ·intro ρ w3 hc hL hr;have h0:_=_:=hr.1;have Kx:=(oH.ae.later hL).c8;exact ZdA
    ·intro ρ w3 hc hL hr;obtain⟨v70,h0,cJ⟩:∃v7:Value,ρ (.tmp 66)=v7/\uF w3 B0 v7 E:=hr.1;have h1:_=_:=hr.2.1;have h2:_=_:=hr.2.2.1;obtain⟨EA,ec,he,CT⟩:=rL (show aF bF 46 7 w3 B0 v70 E from cJ);rw[pW.ae] at he CT;subst he;have e1:=hc.func 34;refine bu (f:=34) (args:= #[.slice EA (yg++ye).length ec,.slice CA cols.length cc,.slice r.A r.l.length r.c]) (w':=w3) (by simp[go_sem,e1,h0,h1,h2];done) ?_;refine(Gk cols CA cc r.l r.A r.c (aL++aJ.flatMap Tr.args) (yg++ye) EA ec w3 G9.ae Qj.ae.1 Qj.ae.2 oy.ae (Tr.all_append (oH.ae.later hL).tg (Tr.aO.later HTE.ae hL)) Lw.ae CT (oH.ae.later hL).rc (AZ.ae.later hL)).mono ?_;exact ZcI
    ·intro ρ w3 hc hL hr;obtain⟨VK,VL,h0,cJ⟩:∃x0 x1:Value,ρ (.tmp 72)=.tuple #[x0,x1]/\nC res w3 B0 x0 x1:=hr.1;exact ZfZ
    ·intro ρ w3 hc hL hr;obtain⟨VK,VL,h0,cJ⟩:∃x0 x1:Value,ρ (.tmp 58)=.tuple #[x0,x1]/\nC res w3 B0 x0 x1:=hr.1;exact Zc1
    ·intro ρ w3 hc hL hr;obtain⟨VK,VL,h0,cJ⟩:∃x0 x1:Value,ρ (.tmp 58)=.tuple #[x0,x1]/\nC res w3 B0 x0 x1:=hr.1;exact Zf9
    ·intro ρ w3 hc hL hr;obtain⟨VK,VL,h0,cJ⟩:∃x0 x1:Value,ρ (.tmp 73)=x0/\nC res w3 B0 x0 x1:=hr.1;exact Zc1
   intro W5 hL;simp only[Uab];rintro a0 - a1 - a2 - a3 - a4 - a5 - a6 - a7 - a8 - a9 - FH - H7 - a12 - a13 - a14 - a15 - _ rfl a16 ⟨ayv,ayw,rfl,afI⟩;simp only[bD,Act.put,Uac];have tq:=aa (Below.trans HB.ae (hL.mono HB.ae.size));have SU:=aa (VJ.ae.later hL);have zZ:=aa (Q7.ae.later hL);have Qt:=aa (JU.ae.later hL);have uR:=aa (HG.ae.later hL);have HWB:=aa afI;have HWL:=aa hL.size;have HWS:=aa HB.ae.size;clear HB VJ Q7 JU HG hL afI AZ ow oH HTE;go_wp2_with fail;refine(vJ gb FJ (na res) _ zZ.ae).mono ?_;rintro e w5 ⟨rfl,Iq,Jb⟩;have Qv:=aa Iq;have uS:=aa (dS tq.ae Jb K7.ae);have zW:=aa (SU.ae.grown Jb (SU.ae.other zZ.ae Taa));have Mz:=aa (Qt.ae.grown Jb (Qt.ae.other zZ.ae Taa));have Vn:=aa (uR.ae.grown Jb zZ.ae Taa Taa Taa Taa);have Av:=aa (show∀l,res=.ok l->aF aV 44 3 w5 B0 a16 l from λ l hl=>by
    have h1:=HWB.ae
    rw[hl] at h1
    exact h1.2.grown Jb (h1.2.other zZ.ae Taa))
   clear Iq Jb tq SU zZ Qt uR HWB
   cases res with
   | error er=>
     have hne:=Gy jI.ae;have t1:(na (.error er)==0)=false:=by show(er==0)=false;simp[hne]
     have wZ:=aa K8.ae.1;have qA:=aa K8.ae.2;clear hne Av;go_wp2_with fail;go_roundw
     case rel=>
      refine⟨k+1,xs,hlt,by go_num,uS.ae,zW.ae,?_,Mz.ae,Vn.ae,?_⟩
      ·rw[qA.ae];exact Qv.ae
      ·rw[wZ.ae];simpa using wA.ae
     case measure=>exact Za0
   | ok l=>have wZ:=aa (show fp cols (aL++aJ.flatMap Tr.args) (zs.take (k+1))=ls++ [l] from K8.ae.1);have qA:=aa (show dY cols (aL++aJ.flatMap Tr.args) (zs.take (k+1))=jo FJ 0 from K8.ae.2);have xZ:=aa (CV jI.ae);have Ly:=aa (CX Qj.ae.2 oy.ae jI.ae);open zhU in exact Zgg
  ·have fw:k=zs.length:=by omega
   subst fw;have HTT:=aa (show zs.take zs.length=zs from take_length);rw[HTT.ae] at Q7 wA;go_wp2_with fail;exact DM.ae _ _ (HH.ae _ u10 xs _ rfl rfl rfl HB.ae Q7.ae JU.ae HG.ae wA.ae)):p:=h
theorem J8 (w0:World)(gp gb gn:Nat)(aL aJ:List Tr)(cols:List aW)(yg ya ye:List Ex)(GA:Option Addr)(gc:Nat)(CA:Option Addr)(cc:Nat)(AA:Option Addr)(ac:Nat)(zs:List aX)(RA:Option Addr)(rrc:Nat)(av lv:Value)(xs0:List gH)(T:Array Value)(hT:T.size=164)
  (h0:T.getD 0 undef=aw gp) (h1:T.getD 1 undef=.slice RA zs.length rrc) (h6:T.getD 6 undef=av) (h9:T.getD 9 undef=aw gb) (h10:T.getD 10 undef=lv) (d:List Deferred) (w:World) (Q:Exit->Act->World->Prop)
  (hF:CY w0 gp aL aJ cols yg ya GA gc CA cc AA ac) (ih:yg.length=gn) (q1:Tr.aO w0 (Old w0) (aJ.flatMap Tr.args) ye) (q2:ya.map Ex.n=aJ.map λ t=>t.args.length) (q3:ya.map Ex.op=aJ.map Tr.op) (q4:∀t∈aJ,isAgg t.op=true) (q5:∀t∈aJ,t.args.length<=2) (Au:Tr.cL (aL++aJ.flatMap Tr.args))
  (Tn:yg.length<=1000) (C3:ya.length<=100000) (hz:ye.length<=100000) (Nj:cols.length<=140737488355328)
  (Gu:RR w0 w0.heap.size RA zs) (Qs:zs.length<=300) (lS:∀r∈zs,r.l.length<=140737488355328/\∀v∈r.l,v.Ok)
  (hX:aj w0 w) (fq:aF bF 46 7 w w0.heap.size av ye) (hP:aB w gb 84 #[af 0]) (aoB:w0.heap.size<=gb) (aZ:aF cZ 135 1 w w0.heap.size lv (xs0.map gH.g)) (fP:kt w w0.heap.size xs0) (hI0:nZ gn aJ xs0 [] [])
  (h:∀(T':Array Value) lv' xs W,T'.size=164->T'.getD 9 undef=aw gb->T'.getD 10 undef=lv'->aj w0 W->aB W gb 84 #[af (dY cols (aL++aJ.flatMap Tr.args) zs)]->aF cZ 135 1 W w0.heap.size lv' (xs.map gH.g)->kt W w0.heap.size xs->nZ gn aJ xs (fp cols (aL++aJ.flatMap Tr.args) zs) (fp cols (aL++aJ.flatMap Tr.args) zs)->(fA gU 7).wp Tryz.prog Q { tmps:=T',defers:=d } W):
  (fA gU 6).wp Tryz.prog Q { tmps:=T,defers:=d } w:=by
 obtain⟨J6,J7,auV,_⟩:=rL fq;subst auV;obtain⟨f,rfl⟩:=Jo T hT;have h0:f 0=_:=h0;have h1:f 1=_:=h1;have h6:f 6=_:=h6;have h9:f 9=_:=h9;have h10:f 10=_:=h10;simp only[frg,h0,h1,h6,h9,h10];clear h0 h1 h6 h9 h10;clear h0 h1 h6 h9 h10 hT;have hh:=λ(T':Array Value) lv' xs W a0 a1 a2 a3 a4 a5 a6 a7=>h T' lv' xs W a0 a1 a2 a3 a4 a5 a6 a7
 simp only[gU,fA,Tryz.f33,Option.getD_some] at hh;have HH:=aa hh;clear hh;open zcW in exact Zbb
def afM (v:Val):R.Val:=⟨v.k,v.n,v.s⟩
mutual
def M3:Tr->R.Tr
 | .mk op v name width args=> .mk op (afM v) name width (rM args)
def rM:List Tr->List R.Tr
 | []=> []
 | t::ts=>M3 t::rM ts
end
def ME (y:Ex):R.Ex:=⟨y.op,afM y.v,y.name,y.width,y.A,y.n,y.c⟩
theorem wE:∀ts:List Tr,(rM ts).length=ts.length
 | []=>by simp[rM]
 | t::ts=>by simp[rM,wE ts]
variable{S:Nat->Prop}
theorem aoW(h:Yj w S A ys):R.RL R.bF 7 w S A (ys.map ME):=by
 rcases h with rfl |⟨b,off,Kx,h2,h3⟩
 ·exact .inl rfl
 ·refine .inr ⟨b,off,Kx,h2,λ i x j u h1 hu=>?_⟩;rw[getElem?_map] at h1
  cases hy:ys[i]? with
  | none=>rw[hy] at h1;cases h1
  | some y=>
    rw[hy] at h1;injection h1 with h1;subst h1;obtain⟨k0,k1,k2,k3,k4,k5,k6⟩:=h3 i y hy
    match j,hu with
    | 0,hu=>injection hu with hu;subst hu;exact k0
    | 1,hu=>injection hu with hu;subst hu;exact k1
    | 2,hu=>injection hu with hu;subst hu;exact k2
    | 3,hu=>injection hu with hu;subst hu;exact k3
    | 4,hu=>injection hu with hu;subst hu;exact k4
    | 5,hu=>injection hu with hu;subst hu;exact k5
    | 6,hu=>injection hu with hu;subst hu;exact k6
    | n+7,hu=>simp[R.bF] at hu
mutual
theorem Te {w:World} {S:Nat->Prop}:∀(t:Tr) (y:Ex),t.at_ w S y->(M3 t).at_ w S (ME y)
 | .mk op v name width args,y,h=>by unfold Tr.at_ at h;obtain⟨h1,h2,h3,h4,h5,ys,h6,h7⟩:=h;unfold M3 R.Tr.at_;exact⟨h1,by rw[<- h2];rfl,h3,h4,by rw[wE];exact h5,ys.map ME,aoW h6,Gz args ys h7⟩
theorem Gz {w:World} {S:Nat->Prop}:∀(ts:List Tr) (ys:List Ex),Tr.aO w S ts ys->R.Tr.aO w S (rM ts) (ys.map ME)
 | [],ys,h=>by unfold Tr.aO at h;subst h;unfold rM R.Tr.aO;rfl
 | t::ts,ys,h=>by unfold Tr.aO at h;obtain⟨y,ys',rfl,h1,h2⟩:=h;unfold rM R.Tr.aO;exact⟨ME y,ys'.map ME,rfl,Te t y h1,Gz ts ys' h2⟩
end
mutual
theorem Tf:∀t:R.Tr,M3 (pZ t)=t
 | .mk op v name width args=>by unfold pZ M3;rw[MF args];rfl
theorem MF:∀ts:List R.Tr,rM (gK ts)=ts
 | []=>by unfold gK rM;rfl
 | t::ts=>by unfold gK rM;rw[Tf t,MF ts]
end
theorem GC:∀ts:List R.Tr,gK ts=ts.map pZ
 | []=>by unfold gK;rfl
 | t::ts=>by unfold gK;rw[GC ts];rfl
theorem VM (d:R.Qu):(fl d).all=({ kind:=8,query:=d }:R.St).exprs.map pZ:=by unfold Qy.all fl R.St.exprs R.Qu.exprs;simp only[GC,map_map,map_append,append_assoc,flatten_nil,map_nil,nil_append];rfl
end Go.Proofs.YtndgjggokjickaaGreatDoor
namespace Go.Proofs.YtndgjggokjickaaGreatDoor.R
set_option maxHeartbeats 90000000
set_option maxRecDepth 100000
open Go.ChangeShapes Go.WideShapes Go.ChangeAt Go.RowKit List
set_option linter.unusedVariables false
set_option linter.unusedSimpArgs false
def XI:Obj:=.cells #[ag 0,au,az,au,af 0,au,af 0,az,au,.bool false,az,az,az,az,az,ag 0,au,af 0,af 0,az,az,az,ag 0,af 0,au,ag 0,af 0,au] 64
variable{P:Program}{ops:Array Oper}{rest:List Oper}{o:Oper}{a:Act}{w:World}{Q:Exit->Act->World->Prop}{cs:Array Value}
theorem Aa(hg:o.guard=none)(t:TypeId)(parts:Array (Nat×Operand))(ho:o.op=.build t parts) 
  (hv:P.built t (parts.map λ(i,x)=>(i,a.eval x)).toList=some cs) (h:wpList P ops Q rest (a.put o.dst (.agg cs)) w):wpList P ops Q (o::rest) a w:=
 wpList_build hg t parts ho (by rw[hv];rfl) (by rw[hv];exact h)
theorem M5 (qy:xM):Tryz.prog.built 64 [(0,ag 8),(7,quV qy)]=some (sK { kind:=8,query:=qy }).toArray:=by exact Zgn
def uG (l:dH)(d:Qu)(r:dH):Prop:=∀(ρ:dt) (w:World),ρ.at w (.good l) false->ar 134 #[ρ.ptr] w λ e w'=>∃y:xM,e=.returned (quV y)/\d.at_ w' (jm w.heap.size w') y/\eG ρ w w' (.good r) false
def tC (d:Qu):St:= { kind:=8,query:=d }
variable{t:Wd}{l r:dH}{d:Qu}
theorem M6(hse:iV fk t=true)(H:uG (t::l) d r)(ρ:dt)(w:World)(h:ρ.at w (.good (t::l)) false):
  ar 86 #[ρ.ptr] w λ e w'=>∃y:xM,e=.returned (stV { kind:=8,query:=y })/\d.at_ w' (jm w.heap.size w') y/\eG ρ w w' (.good r) false:=by
 have eh:=h.FP;obtain⟨tk,pl,bd,hpl,hlt,hsm,ug,cj,hg,JO,vz,hp⟩:=h.vS;obtain⟨r',mV⟩:=hg (t::l) rfl;injection mV with lN htr;have hb:=ai.then (ah w XI) (ah _ XI);have h0:=h.later hb;have Xn:=(aB.new w 64 st0).alloc XI;have HQ:=aa Xn;have HH:=aa h;have HR:=aa H;have avb:=aa (show(ck.good (t::l)).head (⟨#[115,101,108,101,99,116]⟩:ByteArray).data.toList=true from hse);clear Xn h hg cj ug hse hpl H;rw[show Obj.cells st0 64=XI from rfl] at HQ;unfold XI at*;clear htr;go_enter Tryz.func86,Tryz.ntmps86;go_wp2_with fail;refine(lF ρ _ _ false h0 ⟨#[115,101,108,101,99,116]⟩).mono ?_;rintro e w1 ⟨rfl,b1⟩;rw[avb.ae];have hb1:=ai.then hb b1
 have UK:=aa (HQ.ae.later b1);clear HQ h0 b1 hb lN hp;go_wp2_with fail;refine(HR.ae ρ _ (HH.ae.later hb1)).mono ?_;rintro e w3 ⟨qy,rfl,hqd,d3⟩;have HQ:=aa (d3.blk UK.ae WC);have HD:=aa ((eG.cY HH.ae hb1).trans d3);have HS:=aa hqd;have hs9:w.heap.size+1<=w1.heap.size:=UK.ae.lt;clear d3 hqd UK HH;go_wp2_with (first
  |(refine Aa rfl 64 _ rfl (cs:=(sK { kind:=8,query:=qy }).toArray) ?hv ?_;rotate_left)
  |(refine wpList_store_row rfl 64 (.tmp 2) (.tmp 8) rfl w.heap.size (sK { kind:=8,query:=qy }).toArray rfl rfl 64 st0 HQ.ae TaG rfl (PE _) ?_
    have HR:=aa (HQ.ae.row (sK { kind:=8,query:=qy }).toArray)
    have HF:=aa (HD.ae.row eh (Nat.le_refl _) (sK { kind:=8,query:=qy }).toArray)
    have qA:=aa (Qu.at_.keep (jd (show w.heap.size<=w.heap.size+1 by omega)) (Qu.at_.keep (SL w3 (show w.heap.size < w.heap.size+1 by omega) (sK { kind:=8,query:=qy }).toArray) (Qu.at_.keep (jd hs9) HS.ae)))))
 case hv=>exact M5 qy
 exact bodyPost_ret (v:=stV { kind:=8,query:=qy }) (results_cell_row Tryz.results86 _ _ w.heap.size 64 (sK { kind:=8,query:=qy }).toArray (0,0) _ rfl HR.ae Tryz.underlying64 rfl TaG) rfl ⟨qy,rfl,qA.ae,HF.ae⟩
def MG (d:Qu)(w:World)(e:Ending)(w':World):Prop:=∃y:xM,e=.returned (.tuple #[stV { kind:=8,query:=y },af 0,af 0])/\d.at_ w' (jm w.heap.size w') y/\aj w w'
variable{t0:Wd}{r0:dH}
theorem adb(s:ByteArray)(w:World)(hs:s.size<=4294967280) {l:List qY}(hl:zK s.data.toList=.ok l)   (q5:l.map (·.w)=t0::r0)(hse:iV fk t0=true)(H:uG (t0::r0) d (t::r))(C3:t.k=0)(Tn:(tC d).exprs.length<=1000)(Au:∀x∈(tC d).exprs,x.thin/\x.depth<=32):ar 52 #[.string s] w (MG d w):=by
 obtain⟨_,hlen,q4⟩:=SJ hl;have hne:l≠ []:=by intro h;rw[h] at q5;cases q5
 have HSE:=aa (λ ρ w h=>M6 hse H ρ w h);have HEN:=aa (Vf hl);have Q4:=aa q4;have Q5:=aa q5;have oy:=aa Au;have F2:=aa Tn;have Ag:=aa C3;clear q4 q5 Au Tn hse H C3;have Xn:=aB.new w 64 st0;rw[show Obj.cells st0 64=XI from rfl] at Xn;have HQ:=aa Xn;clear Xn;unfold XI at*;go_enter Tryz.func52,Tryz.ntmps52;go_wp2_with fail;refine(acn hl hs).mono ?_;rintro e w1 ⟨A,c,rfl,ht,b1⟩;obtain⟨gl,rfl,hgb,zT,hc⟩:=ht.cells hne;have UK:=aa (HQ.ae.later b1);have HB:=aa (ai.then (ah w _) b1);have hR:=dt.start (c:=c) zT hc HEN.ae hlen Q4.ae;rw[Q5.ae] at hR;have HR:=aa hR;have JN:w.heap.size < w1.heap.size:=UK.ae.lt;clear ht hc b1 HQ hR hgb hne;go_wp2_with fail;refine(HSE.ae ⟨w1.heap.size,gl,c,l⟩ _ HR.ae).mono ?_;rintro e w2 ⟨qy,rfl,hat,dd⟩;obtain⟨y,hy⟩:∃y:C7,y= { kind:=8,query:=qy }:=⟨_,rfl⟩;rw[<- hy];have HY:=aa hy;clear hy;rw[show(w1.alloc _).heap.size=w1.heap.size+1 by simp] at hat;have bI:w1.heap.size <(w1.alloc (.cells #[aI gl l.length c,af 0,af (-1),.bool false] 169)).heap.size:=by simp
 have lf:=dd.blk (UK.ae.alloc _) Tbh;have hs2:w1.heap.size+1<=w2.heap.size:=by have:=dd.size;simpa using this
 have HD3:=aa ((dd.later (ah w2 XI)).row bI (by rw[show(w1.alloc _).heap.size=w1.heap.size+1 by simp];exact hs2) (sK y).toArray);have HY3:=aa ((aB.new w2 64 st0).row (sK y).toArray);have mU:=aa ((lf.alloc XI).acx (q:=w2.heap.size) WC (sK y).toArray);have aoX:=aa (Qu.at_.keep (LY w2 XI (sK y).toArray) hat);have fG:=aa (show aj w (w1.alloc (.cells #[aI gl l.length c,af 0,af (-1),.bool false] 169))from ai.then HB.ae (ah w1 _));clear dd hat lf UK HR HB;rw[show(Obj.cells st0 64)=XI from rfl] at HY3;unfold XI at*;go_wp2_with (first
  |(refine wpList_store_row rfl 64 (.tmp 9) (.tmp 27) rfl w2.heap.size (sK y).toArray rfl rfl 64 st0 (aB.new w2 64 st0) TaG rfl (PE _) ?_))
 generalize ((w2.alloc _).setRow _ _)=W3 at*;refine(cq ⟨w1.heap.size,gl,c,l⟩ _ _ _ HD3.ae.at_ ⟨#[59]⟩ (by show((t.k==1 || t.k==4)&& t.s==agZ)=false;rw[Ag.ae];rfl)).mono ?_;rintro e w4 ⟨rfl,d4⟩;have HD:=aa (HD3.ae.trans d4);have D8:=aa (d4.blk mU.ae Tbh);have HY4:=aa (d4.blk HY3.ae (by show w2.heap.size≠w1.heap.size;omega));have aiB:=aa (Qu.at_.keep (lD d4.grown (show w1.heap.size < w1.heap.size+1 by omega)) aoX.ae);clear d4 HD3 mU HY3 aoX;have J4:=aa (fG.ae.trans (dS HD.ae.grown fG.ae.size (by show w.heap.size<=w1.heap.size;omega)));obtain⟨tk,pl,bd,hpl,aoY,aml,ug,cj,hg,JO,vz,hp⟩:=HD.ae.at_.vS;obtain⟨r',mV⟩:=hg _ rfl;injection mV with lN _;have C3:=Ag.ae;rw[lN] at C3;obtain rfl:bd= -1:=ug;obtain⟨c0,c1,c2,k0,k1,k2,k3⟩:=hp;simp only at c0 c1 c2 k0 k1 k2 k3;have aoY:pl < l.length:=aoY;have aBJ:(pl:Int)< l.length:=by omega
 clear hg cj hpl lN;rw[C3] at k0;have c3:=HD.ae.at_.facts.2.2.2.1;simp only at c3;clear HD hl C3;go_wp2_with (first
  |(refine wpList_load_row rfl 64 (.tmp 9) rfl w2.heap.size rfl 64 (sK y).toArray (0,0) _ HY4.ae Tryz.underlying64 rfl TaG ?_))
 clear c0 c1 c2 c3 k0 k1 k2 k3;have hq9:d.at_ w4 (Old w4) qy:=Qu.at_.keep (λ b KK=>⟨λ _=>rfl,KK.2⟩) aiB.ae;have hqa:=SQ hq9;have hst:(sK y).toArray=acB 8 (fl d) (PF qy):=by rw[HY.ae];unfold acB fl PF;rw[<- hq9.bS,<- hq9.only];rfl
 have key:=uu (k:=8) (fl d) (PF qy) w4 hqa.1 (by
  have h:=F2.ae
  simp only[tC,St.exprs,Qu.exprs,length_append,length_map,flatten_nil,length_nil,map_nil] at h
  simp only[fl,lu,length_map]
  omega)
 rw[<- hst] at key;have HE:=aa (show(fl d).all=(tC d).exprs.map pZ from VM d);clear hqa hst hq9;refine key.mono ?_;rintro e w5 ⟨v,ys,rfl,hown,hall,b5⟩;obtain⟨sA,sc,rfl,CT⟩:=rL hown;have HQ5:=aa (D8.ae.later b5);have HY5:=aa (HY4.ae.later b5);have avc:=aa (Qu.at_.keep (iU b5) aiB.ae);have uS:=aa (ai.then J4.ae b5);have Qj:=aa CT;have xF:=aa (hall.later b5);obtain⟨sn,PA⟩:∃sn,sn=ys.length:=⟨_,rfl⟩;have HNL:=aa (show sn=(tC d).exprs.length by rw[PA,Go.Proofs.YtndgjggokjickaaGreatDoor.Tr.aO.length hall,HE.ae,length_map]);have Er:sn<=1000:=by rw[HNL.ae];exact F2.ae
 rw[<- PA];clear b5 CT hall hown PA key D8 HY4 aiB J4;go_wp2_with fail;go_loopw [11] (λ u wr=>∃i:Nat,i<=sn/\u=af i/\aj w5 wr) (λ u _=>sn - (intOf u).toNat);case atStart=>exact Zgo
 case round=>
  obtain⟨i,hi,rfl,hb⟩:=hrel;have gX:=aa hb;have HQr:=aa (HQ5.ae.later hb);have HYr:=aa (HY5.ae.later hb);by_cases hlt:i < sn
  ·obtain⟨x,hx⟩:∃x,(tC d).exprs[i]?=some x:=⟨_,getElem?_eq_getElem (by have:=HNL.ae;omega)⟩;obtain⟨yx,hyx,aoZ⟩:=xF.ae.get (t:=pZ x) (i:=i) (by rw[HE.ae,getElem?_map,hx];rfl);have apa:x.at_ w5 (Old w5) (ME yx):=by have h:=Te _ _ aoZ;rwa [Tf] at h
   have ade:=oy.ae x (mem_of_getElem? hx);have oy:=aa (Tr.amH (w:=w5) (S:=Old w5) (λ b KK=>KK) x (ME yx) apa ade.1 (by have:=ade.2;omega) wr hb);rcases Qj.ae with h0 |⟨b,off,hAe,hSb,hcell⟩
   ·subst h0;simp at hyx
   obtain⟨q0,q1,q2,q3,Lw,Kx,q6⟩:=(hcell i yx hyx).keep (λ o=>hb.cell (p:=⟨b,o,none⟩) hSb);have hdi:¬((x.depth:Int)> 32):=by have:=ade.2;omega
   clear hcell hx hyx aoZ apa ade;subst hAe;go_wp2_with fail;clear q0 q1 q2 q3 Lw Kx q6;refine oy.ae.mono ?_;rintro e w6 ⟨rfl,b6⟩;go_wp2_with fail;go_roundw;case rel=>exact⟨i+1,by omega,by go_num,gX.ae.trans (b6.mono gX.ae.size)⟩
   case measure=>exact Za0
  ·obtain rfl:i=sn:=by omega
   have ave:=aa (Qu.at_.keep (iU hb) avc.ae);have HBr:=aa (ai.then uS.ae hb);clear hb;go_wp2_with (first
    |(refine wpList_load_row rfl 64 (.tmp 9) rfl w2.heap.size rfl 64 (sK y).toArray (0,0) _ HYr.ae Tryz.underlying64 rfl TaG ?_)
    |(refine wpList_store_row rfl 64 (.tmp 2) (.tmp 82) rfl w.heap.size (sK y).toArray rfl rfl 64 st0 HQr.ae TaG rfl (PE _) ?_
      have HR9:=aa (HQr.ae.row (sK y).toArray)
      have HS9:=aa (show Qu.at_ (wr.setRow w.heap.size (sK y).toArray) (jm w.heap.size (wr.setRow w.heap.size (sK y).toArray)) d qy from Qu.at_.keep (jd (show w.heap.size<=w1.heap.size+1 by omega)) (Qu.at_.keep (SL wr (show w.heap.size < w1.heap.size+1 by omega) (sK y).toArray) ave.ae))
      have Jr:=aa (HBr.ae.trans (dS (Ge wr w.heap.size (sK y).toArray) HBr.ae.size (Nat.le_refl _)))))
   exact bodyPost_ret (v:=.tuple #[stV y,af 0,af 0]) (IV Tryz.results52 _ _ w.heap.size 64 (sK y).toArray (0,0) _ (af 0) (af 0) rfl HR9.ae Tryz.underlying64 rfl (by rw[show Array.size (sK y).toArray=28 from rfl];exact px) rfl rfl) rfl ⟨qy,by rw[HY.ae],HS9.ae,Jr.ae⟩
def nB (t:Wd):Bool:=t.k==1 && !sY t.s && !iV OM t && !iV Ap t && !iV Zo t && !iV eE t && !iV Zn t && !iV sy t
def uB (u:Wd):Bool:=kK 0 u==0 && kK 1 u==0 && kK 4 u==0 && kK 5 u==0 && !iV abS u
theorem zb(h:nB t=true):Lx t/\t.k=1/\sY t.s=false/\∀l,xL (t::l):=by simp only[nB,Bool.and_eq_true,beq_iff_eq,Bool.not_eq_true'] at h;obtain⟨⟨⟨⟨⟨⟨⟨k,a⟩,b⟩,c⟩,d⟩,e⟩,f⟩,g⟩:=h;exact⟨⟨⟨by omega,by omega⟩,b,c,d,e⟩,k,a,λ l=>⟨f,g⟩⟩
variable{u:Wd}
theorem Db(h:uB u=true):FV u:=by simp only[uB,Bool.and_eq_true,beq_iff_eq,Bool.not_eq_true'] at h;exact⟨h.1.1.1.1,h.1.1.1.2,h.1.1.2,h.1.2,h.2⟩
theorem GD(r:dH)(h:nB t=true)(ho:iV eE u=false)(hu:uB u=true)(h3:kK 3 u=0):cT 0 (t::u::r) (ua ⟨t.s.toArray⟩) (u::r):=
 LG (Lz (zb h).1 (zb h).2.1 (zb h).2.2.1 ho) ((zb h).2.2.2 _) (Db hu) h3
abbrev nW (s:List UInt8):Wd:=⟨1,s,0⟩
abbrev gW (s:List UInt8):Wd:=⟨4,s,0⟩
abbrev iW (n:Int):Wd:=⟨2,[],n⟩
abbrev eW:Wd:=⟨0,[],0⟩
abbrev tW:Wd:=nW [116,105,109,101]
abbrev vW:Wd:=nW [118]
def kT:Tr:=ua ⟨#[116,105,109,101]⟩
def kV:Tr:=ua ⟨#[118]⟩
def rN:Tr:=.mk 20 jH ByteArray.empty 5 [kT]
abbrev M7 (r:dH):dH:=nW BI::gW eE::iW 5::gW dL::tW::gW eA::r
theorem M8(r:dH)(hu:uB u=true)(h3:kK 3 u=0):cT 0 (M7 (u::r)) rN (u::r):=
 LG (LF 20 rfl (zb rfl).1 rfl rfl rfl rfl rfl rfl (GD _ rfl rfl rfl rfl) rfl) ⟨rfl,rfl⟩ (Db hu) h3
def XJ:Qu:= { items:=[(rN,ByteArray.empty),(Ao 23 [kV],ByteArray.empty)],bS:=⟨#[116]⟩,group:=[rN] }
def XK:Qu:= { items:=[(kV,ByteArray.empty)],bS:=⟨#[116]⟩,bT:=[Ao 14 [kT,sZ ⟨2,1,ByteArray.empty⟩]],order:=[(kV,true)],dw:=[1] }
def M9:Qu:= { items:=[(kV,ByteArray.empty)],bS:=⟨#[116]⟩,group:=[kT] }
def XL:Qu:= { items:=[(Ao 21 [],ByteArray.empty)],bS:=⟨#[116]⟩,bT:=[sZ ⟨1,0,ByteArray.empty⟩] }
def wd0:dH:=M7 (gW dL::nW Zq::gW eE::vW::gW eA::nW xz::nW [116]::nW Aq::nW OO::M7 [eW])
def wd1:dH:=[vW,nW xz,nW [116],nW Iu,tW,gW aha,iW 1,nW Iw,nW OO,vW,nW OQ,nW Ix,iW 1,eW]
def wd2:dH:=[vW,nW xz,nW [116],nW Aq,nW OO,tW,eW]
def wd3:dH:=[nW Iy,gW eE,gW xA,gW eA,nW xz,nW [116],nW Iu,nW Ap,eW]
theorem avf:uG (nW fk::wd0) XJ [eW]:=
 Aw rfl rfl (.cons (M8 _ rfl rfl) rfl rfl (.one (LG (ZY 23 ⟨rfl,rfl,rfl,rfl⟩ (zb rfl).1 rfl rfl rfl rfl (GD _ rfl rfl rfl rfl) rfl) ⟨rfl,rfl⟩ (Db rfl) rfl) rfl rfl)) Taa rfl rfl rfl rfl (.none rfl) (.some rfl rfl rfl (M8 _ rfl rfl)) rfl (.none rfl) (.none rfl)
theorem avg:uG (nW fk::wd1) XK [eW]:=
 Aw rfl rfl (.one (GD _ rfl rfl rfl rfl) rfl rfl) Taa rfl rfl rfl rfl (.some rfl (amE 14 Taa Taa (Db rfl) rfl (Lz (zb rfl).1 rfl rfl rfl) ⟨rfl,rfl⟩ (ZW rfl) ⟨rfl,rfl⟩ (Db rfl))) (.none rfl) rfl (.some rfl rfl rfl rfl (GD _ rfl rfl rfl rfl)) (.some rfl rfl)
theorem avh:uG (nW fk::wd2) M9 [eW]:=
 Aw rfl rfl (.one (GD _ rfl rfl rfl rfl) rfl rfl) Taa rfl rfl rfl rfl (.none rfl) (.some rfl rfl rfl (GD _ rfl rfl rfl rfl)) rfl (.none rfl) (.none rfl)
theorem avi:uG (nW fk::wd3) XL [eW]:=
 Aw rfl rfl (.one (LG (UZ 22 rfl (zb rfl).1 rfl rfl rfl rfl rfl rfl) ⟨rfl,rfl⟩ (Db rfl) rfl) rfl rfl) Taa rfl rfl rfl rfl (.some rfl (LG (Po ⟨by decide,by decide⟩ rfl rfl) ⟨rfl,rfl⟩ (Db rfl) rfl)) (.none rfl) rfl (.none rfl) (.none rfl)
variable{s:ByteArray}{W:dH}
theorem AB(hl:(match zK s.data.toList with | .ok l=>l.map (·.w)| .error _=> [])=nW fk::W)(hs:s.size<=1000)(H:uG (nW fk::W) d [eW])(hnx:(tC d).exprs.length<=1000)(hdx:∀x∈(tC d).exprs,x.thin/\x.depth<=32)(w:World):ar 52 #[.string s] w (MG d w):=by
 cases e:zK s.data.toList with
 | error x=>rw[e] at hl;cases hl
 | ok l=>rw[e] at hl;exact adb s w WC e hl rfl H rfl hnx hdx
theorem apb:∀x∈(tC XJ).exprs,x.thin/\x.depth<=32:=by simp[tC,XJ,St.exprs,Qu.exprs,rN,kT,kV,Ao,sZ,ua,Tr.thin,Tr.yV,Tr.depth,Tr.iC]
theorem apc:∀x∈(tC XK).exprs,x.thin/\x.depth<=32:=by simp[tC,XK,St.exprs,Qu.exprs,rN,kT,kV,Ao,sZ,ua,Tr.thin,Tr.yV,Tr.depth,Tr.iC]
theorem apd:∀x∈(tC M9).exprs,x.thin/\x.depth<=32:=by simp[tC,M9,St.exprs,Qu.exprs,rN,kT,kV,Ao,sZ,ua,Tr.thin,Tr.yV,Tr.depth,Tr.iC]
theorem ape:∀x∈(tC XL).exprs,x.thin/\x.depth<=32:=by simp[tC,XL,St.exprs,Qu.exprs,rN,kT,kV,Ao,sZ,ua,Tr.thin,Tr.yV,Tr.depth,Tr.iC]
end Go.Proofs.YtndgjggokjickaaGreatDoor.R
namespace Go.Proofs.YtndgjggokjickaaGreatDoor
variable{p:Prop}
set_option maxHeartbeats 90000000
set_option maxRecDepth 100000
open Go.ChangeShapes Go.WideShapes Go.ChangeAt Go.RowKit List
set_option linter.unusedVariables false
set_option linter.unusedSimpArgs false
variable{w w':World}
theorem wF{p:Nat} (h:aj w w'):w.grownBy w' (some p):=⟨h.os,h.tape,h.output,h.size,λ k hk _=>h.block k hk⟩
variable{g:Nat}
theorem ey(h:w.grownBy w' (some g))(i:Nat)(v:Value):w.grownBy (w'.setCell ⟨g,i,none⟩ v) (some g):=
 ⟨h.os,h.tape,h.output,by simpa [World.setCell] using h.size,λ k hk hne=>(Below.heap_setCell w' ⟨g,i,none⟩ v k (λ e=>hne Tbd)).trans (h.block k hk hne)⟩
theorem Dc (m:R.C7):(R.sK m).toArray.size=28:=by simp[R.sK,R.LH,R.C8]
theorem adf (m:R.C7):(R.sK m).toArray.all (·.oneCell')=true:=by simp[R.sK,R.LH,R.nH,R.C8,Value.oneCell']
theorem N0:(Tryz.prog.info? 64).map (·.size)=some 28:=by exact Zgn
def aiC:Array Value:=(R.sK {}).toArray
theorem N3 (m:R.xM):(R.LH m).toArray.size=8:=by simp[R.LH]
theorem N6:(Tryz.prog.info? 27).map (·.size)=some 8:=by exact Zgn
def adg:Array Value:=(R.LH {}).toArray
def Jt:ByteArray:=⟨#[115,101,108,101,99,116,32]⟩
def N7 (d:R.Qu)(w:World)(e:Ending)(w':World):Prop:=∃y:R.xM,e=.returned (R.quV y)/\d.at_ w' (Old w') y/\aj w w'
theorem N8 (s:ByteArray)(d:R.Qu)(hs:(Jt++s).size<=1000)(hp:∀w,ar 52 #[.string (Jt++s)] w (R.MG d w))(w:World):ar 25 #[.string s] w (N7 d w):=by
 have HP:=aa hp;have VG:=aB.new w 27 adg;have hB:=ah w (.cells adg 27);clear hp;go_enter Tryz.func25,Tryz.ntmps25;go_upto_region 1 with fail;change Code.wp _ _ _ _ (w.alloc (.cells adg 27));generalize w.alloc _=W1 at*;obtain⟨g,hg⟩:∃g,g=w.heap.size:=⟨_,rfl⟩;rw[<- hg] at VG ⊢;have hz:w.heap.size<=g:=by omega
 have hgW:=VG.lt;clear hg;have hz1:¬9223372036854775807 < 7+s.size:=by have h:=hs;rw[ByteArray.size_append] at h;have:Jt.size=7:=rfl;omega
 go_wp2_with fail;refine(HP.ae W1).mono ?_;rintro e uj ⟨qy,rfl,hat,b1⟩;obtain⟨y,hy⟩:∃y:R.C7,y= { kind:=8,query:=qy }:=⟨_,rfl⟩;rw[<- hy];replace hat:d.at_ uj (R.jm W1.heap.size uj) y.query:=by rw[hy];exact hat
 clear hy;have c4:=aa hat;replace VG:=VG.later b1;replace hB:=ai.then hB b1
 clear hat HP;obtain⟨cs,hcs⟩:∃cs,cs=(R.sK y).toArray:=⟨_,rfl⟩;have B5:=aa (show(Tryz.prog.info? 64).map (·.size)=some cs.size by rw[hcs,Dc];exact N0);have LD:=aa (show aiC.size=cs.size by rw[hcs,Dc];exact Dc _);have xK:=aa (show cs.all (·.oneCell')=true by rw[hcs];exact adf _);have Nu:=aa hcs;unfold R.stV;rw[<- hcs];clear hcs b1 hz1;have HX0:=ah uj (.cells cs 64);have H3:=aB.new uj 64 cs;have hg:=VG.lt;go_upto_region 2 with (first
  |(refine wpList_store_row rfl 64 (.tmp 3) (.tmp 10) rfl uj.heap.size cs rfl rfl 64 aiC (aB.new uj 64 aiC) B5.ae LD.ae xK.ae ?_
    rw[World.setRow_alloc_new]))
 change Code.wp _ _ _ _ (uj.alloc (.cells cs 64));have avj:=aa (R.Qu.at_.keep (R.iU HX0) c4.ae);replace VG:=VG.later HX0;replace hB:=ai.then hB HX0;have l3:w.heap.size<=uj.heap.size:=by omega
 clear HX0 B5 LD xK c4;generalize uj.alloc _=Vb at*;generalize uj.heap.size=qx at*;have c0:Vb.cell? ⟨qx,7,none⟩=some (R.nH y.query.items):=(H3.cell 7).trans Taz;have c1:Vb.cell? ⟨qx,8,none⟩=some (.string y.query.bS):=(H3.cell 8).trans Taz;have c2:Vb.cell? ⟨qx,9,none⟩=some (.bool y.query.only):=(H3.cell 9).trans Taz;have c3:Vb.cell? ⟨qx,10,none⟩=some (R.nH y.query.bT):=(H3.cell 10).trans Taz;have Kx:Vb.cell? ⟨qx,11,none⟩=some (R.nH y.query.group):=(H3.cell 11).trans Taz;have c5:Vb.cell? ⟨qx,12,none⟩=some (R.nH y.query.having):=(H3.cell 12).trans Taz;have c6:Vb.cell? ⟨qx,13,none⟩=some (R.nH y.query.order):=(H3.cell 13).trans Taz;have c7:Vb.cell? ⟨qx,14,none⟩=some (R.nH y.query.dw):=(H3.cell 14).trans Taz;unfold R.nH at c0 c3 Kx c5 c6 c7;have Gp:=VG.frozen;have z:∀j u,adg[j]?=some u->Vb.cell? ⟨g,j,none⟩=some u:=λ j u h=>(VG.cell j).trans h
 have k0:=z 0 _ rfl;have k1:=z 1 _ rfl;have k2:=z 2 _ rfl;have k3:=z 3 _ rfl;have k4:=z 4 _ rfl;have k5:=z 5 _ rfl;have k6:=z 6 _ rfl;have z7:=z 7 _ rfl;have HR0:=((((((((VG.aU 0 (.slice y.query.items.A y.query.items.n y.query.items.c)).aU 1 (.string y.query.bS)).aU 2 (.bool y.query.only)).aU 3 (.slice y.query.bT.A y.query.bT.n y.query.bT.c)).aU 4 (.slice y.query.group.A y.query.group.n y.query.group.c)).aU 5 (.slice y.query.having.A y.query.having.n y.query.having.c)).aU 6 (.slice y.query.order.A y.query.order.n y.query.order.c)).aU 7 (.slice y.query.dw.A y.query.dw.n y.query.dw.c));have xO:=aa (ey (ey (ey (ey (ey (ey (ey (ey (wF (p:=g) (Below.refl Vb.heap.size Vb)) 0 (.slice y.query.items.A y.query.items.n y.query.items.c)) 1 (.string y.query.bS)) 2 (.bool y.query.only)) 3 (.slice y.query.bT.A y.query.bT.n y.query.bT.c)) 4 (.slice y.query.group.A y.query.group.n y.query.group.c)) 5 (.slice y.query.having.A y.query.having.n y.query.having.c)) 6 (.slice y.query.order.A y.query.order.n y.query.order.c)) 7 (.slice y.query.dw.A y.query.dw.n y.query.dw.c));have J4:=aa ((((((((hB.setCell (p:=⟨g,0,none⟩) hz (.slice y.query.items.A y.query.items.n y.query.items.c)).setCell (p:=⟨g,1,none⟩) hz (.string y.query.bS)).setCell (p:=⟨g,2,none⟩) hz (.bool y.query.only)).setCell (p:=⟨g,3,none⟩) hz (.slice y.query.bT.A y.query.bT.n y.query.bT.c)).setCell (p:=⟨g,4,none⟩) hz (.slice y.query.group.A y.query.group.n y.query.group.c)).setCell (p:=⟨g,5,none⟩) hz (.slice y.query.having.A y.query.having.n y.query.having.c)).setCell (p:=⟨g,6,none⟩) hz (.slice y.query.order.A y.query.order.n y.query.order.c)).setCell (p:=⟨g,7,none⟩) hz (.slice y.query.dw.A y.query.dw.n y.query.dw.c))
 have HR:=aa (show aB _ g 27 (R.LH y.query).toArray from HR0);clear z VG hB HR0 H3;go_wp2_with fail;have HQ:=R.Qu.at_.keep (λ b hb=>((R.lD xO.ae hgW) b hb).imp id λ h=>h.2) avj.ae;exact bodyPost_ret (v:=R.quV y.query) (results_cell_row Tryz.results25 _ _ g 27 (R.LH y.query).toArray (0,0) _ rfl HR.ae Tryz.underlying27 rfl (by rw[N3];exact N6)) rfl ⟨y.query,rfl,HQ,J4.ae⟩
theorem sT (s:ByteArray)(d:R.Qu)(hs:(Jt++s).size<=1000)(hp:∀w,ar 52 #[.string (Jt++s)] w (R.MG d w))(w:World):ar 25 #[.string s] w λ e w'=>∃L,e=.returned (mM (fl d) L)/\nQ w' (fl d) L/\aj w w':=by refine(N8 s d hs hp w).mono ?_;rintro e w1 ⟨y,rfl,hat,b⟩;obtain⟨h1,h2⟩:=SQ hat;exact⟨PF y,by rw[h2],h1,b⟩
def N5 (n:Nat):Prop:=n<=5
def adh (s:St):Val×Int:=if s.op=21 then(num s.all,0)else s.total
variable{op:Int}
theorem aiD(h:op=21\/op=23)(l:List (Val×Val)):gF (kU op l)=adh (kU op l):=by
 rcases h with rfl | rfl
 ·have hr:=Ak (op:=21) WC WC l;have h:=Ip (s:=kU 21 l) ⟨num (kU 21 l).all,0,by unfold gI;rw[hr.kind];simp⟩;unfold gI at h;rw[hr.kind] at h;simp only[if_pos] at h;unfold adh;rw[hr.kind,if_pos rfl];exact Prod.ext h.1 h.2
 ·have hr:=Ak (op:=23) WC WC l;have h:=Ip (s:=kU 23 l) ⟨(kU 23 l).total.1,(kU 23 l).total.2,by unfold gI;rw[hr.kind];simp⟩;unfold gI at h;rw[hr.kind] at h;unfold adh;rw[hr.kind,if_neg Taa];rw[if_neg Taa,if_neg Taa,if_pos rfl] at h;exact Prod.ext h.1 h.2
def wG (ops:List Int)(l:List (List Val×List (Val×Val)))(k:List Val):List (Val×Int):=(List.range ops.length).map λ i=>adh (kU (ops.getD i 0) (pX i l k))
variable{ops:List Int}
theorem VN(h:∀op∈ops,op=21\/op=23)(l:List (List Val×List (Val×Val)))(k:List Val):dR ops l k=wG ops l k:=by
 unfold dR wG;refine map_congr_left λ i hi=>?_
 rw[mem_range] at hi;exact aiD (h _ (by rw[getD_eq_getElem?_getD,getElem?_eq_getElem hi];exact getElem_mem hi)) _
def Ju (ng:Nat)(aJ:List Tr)(l:List (List Val)):Except Int (List (List Val)):=
 let ps:=l.map λ r=>(r.take ng,gS aJ (r.drop ng))
 let ks:=if ng=0 then [[]] else iR (ps.map (·.1))
 let e:=cO (ks.map λ k=>cM (wG (aJ.map Tr.op) ps k))
 if e≠0 then .error e else .ok (ks.map λ k=>k++(wG (aJ.map Tr.op) ps k).map (·.1))
variable{ng:Nat}
theorem N9{aJ:List Tr}(h:∀op∈aJ.map Tr.op,op=21\/op=23)(l:List (List Val)):jO ng aJ l=Ju ng aJ l:=by unfold jO Ju;simp only[VN h]
def O0 (q:Qy)(p:ib)(cols:List aW)(rows:List (List Val)):Except Int (List (List Val)):=
 if (bZ cols q.bT rows).2≠0 then .error (bZ cols q.bT rows).2
 else if p.aK=false then .ok (bZ cols q.bT rows).1
 else match Ei ((bZ cols q.bT rows).1.map λ r=>bB cols r (q.aL++p.st.aJ.flatMap Tr.args))with
 | .error e=> .error e
 | .ok l=>match Ju q.aL.length p.st.aJ l with
   | .error e=> .error e
   | .ok gs=>if (bZ p.st.aL p.having gs).2≠0 then .error (bZ p.st.aL p.having gs).2 else .ok (bZ p.st.aL p.having gs).1
def aiE (p:ib)(cols:List aW)(rows:List (List Val)):Except Int (List fC):=
 Ei (rows.map λ r=>match bB (iT p cols) r (p.items++p.order)with | .error e=> .error e | .ok l=> .ok (Sb p r l))
def apf (q:Qy)(cols:List aW)(rows:List (List Val)):Except Int (List aW×List (List Val)):=
 match dn q cols with
 | .error e=> .error e
 | .ok p=>if rows.any (λ r=> !fJ cols r)=true then .error 40
   else match O0 q p cols rows with
   | .error e=> .error e
   | .ok left=>match aiE p cols left with
     | .error e=> .error e
     | .ok ls=> .ok (p.head,((match q.lim with | []=>mO (q.ord.map λ o:Tr×Bool=>o.2) ls | n::_=>(mO (q.ord.map λ o:Tr×Bool=>o.2) ls).take n.toNat).map fC.row))
def sU (q:Qy)(cols:List aW):Bool:=match dn q cols with
 | .error _=>true
 | .ok p=>(p.st.aJ.map Tr.op).all λ op=>op==21 || op==23
variable{q:Qy}{cols:List aW}
theorem Tg(h:sU q cols=true)(rows:List (List Val)):iD q cols rows=apf q cols rows:=by
 unfold iD apf;unfold sU at h
 cases hp:dn q cols with
 | error e=>rfl
 | ok p=>
   rw[hp] at h;have kE:∀op∈p.st.aJ.map Tr.op,op=21\/op=23:=λ op ho=>by have:=List.all_eq_true.1 h op ho;simpa using this
   have hl:pS q p cols rows=O0 q p cols rows:=by unfold pS O0;simp only[N9 kE];rfl
   show(if _ then _ else match pS q p cols rows with | .error e=>_ | .ok left=>match xx p cols left with | .error e=>_ | .ok ls=>_)=_;rw[hl];rfl
def ml:List aW:=[⟨⟨#[116,105,109,101]⟩,2⟩,⟨⟨#[118]⟩,2⟩]
def wH:List (List Val):=[[num 1,num 5],[num 2,num 7],[num 6,num 1]]
def t0B:ByteArray:=⟨#[98,117,99,107,101,116,40,53,44,32,116,105,109,101,41,44,32,115,117,109,40,118,41,32,102,114,111,109,32,116,32,103,114,111,117,112,32,98,121,32,98,117,99,107,101,116,40,53,44,32,116,105,109,101,41]⟩
theorem apg (w:World):ar 52 #[.string (Jt++t0B)] w (R.MG R.XJ w):=R.AB (W:=R.wd0) Va Taa R.avf Taa R.apb w
theorem adi:sU (fl R.XJ) ml=true:=by exact Zgn
def QA:List aW:=match dn (fl R.XJ) ml with | .ok p=>p.head | .error _=> []
theorem adj:iD (fl R.XJ) ml wH=.ok (QA,[[num 0,num 12],[num 5,num 1]]):=by rw[Tg adi];exact Zgn
def t1B:ByteArray:=⟨#[118,32,102,114,111,109,32,116,32,119,104,101,114,101,32,116,105,109,101,32,62,32,49,32,111,114,100,101,114,32,98,121,32,118,32,100,101,115,99,32,108,105,109,105,116,32,49]⟩
theorem aph (w:World):ar 52 #[.string (Jt++t1B)] w (R.MG R.XK w):=R.AB (W:=R.wd1) Va Taa R.avg Taa R.apc w
theorem adk:sU (fl R.XK) ml=true:=by exact Zgn
def QB:List aW:=match dn (fl R.XK) ml with | .ok p=>p.head | .error _=> []
theorem adl:iD (fl R.XK) ml wH=.ok (QB,[[num 7]]):=by rw[Tg adk];exact Zgn
def t2B:ByteArray:=⟨#[118,32,102,114,111,109,32,116,32,103,114,111,117,112,32,98,121,32,116,105,109,101]⟩
theorem api (w:World):ar 52 #[.string (Jt++t2B)] w (R.MG R.M9 w):=R.AB (W:=R.wd2) Va Taa R.avh Taa R.apd w
theorem adm:sU (fl R.M9) ml=true:=by exact Zgn
theorem adn:iD (fl R.M9) ml wH=.error 42:=by rw[Tg adm];exact Zgn
def t3B:ByteArray:=⟨#[99,111,117,110,116,40,42,41,32,102,114,111,109,32,116,32,119,104,101,114,101,32,102,97,108,115,101]⟩
theorem apj (w:World):ar 52 #[.string (Jt++t3B)] w (R.MG R.XL w):=R.AB (W:=R.wd3) Va Taa R.avi Taa R.ape w
theorem ado:sU (fl R.XL) ml=true:=by exact Zgn
def QC:List aW:=match dn (fl R.XL) ml with | .ok p=>p.head | .error _=> []
theorem adp:iD (fl R.XL) ml wH=.ok (QC,[[num 0]]):=by rw[Tg ado];exact Zgn
theorem zdz.KaH(h:p:=by clear VG hB HB;go_wp2_with fail;exact bodyPost_ret (v:=.agg #[ag 2,af n,au]) (results_cell_row Tryz.results27 _ _ g 44 _ (0,0) _ rfl HR.ae Tryz.underlying44 rfl rfl) rfl ⟨rfl,J4.ae⟩):p:=h
theorem zeS.Ka3(h:p:=by
 rw[<- hg] at VG ⊢;have hz:w.heap.size<=g:=by omega
 clear hg;have HB:=aa hB;have HR:=(((VG.aU 0 (ag 2)).aU 1 (af n)).aU 2 (au));have J4:=aa (((hB.setCell (p:=⟨g,0,none⟩) hz (ag 2)).setCell (p:=⟨g,1,none⟩) hz (af n)).setCell (p:=⟨g,2,none⟩) hz (au));have HR:=aa (show aB _ g 44 #[ag 2,af n,au] from HR);open zdz in exact ZbI):p:=h
theorem fE (n:Int)(w:World):ar 27 #[af n] w λ e w'=>e=.returned (.agg #[ag 2,af n,au])/\aj w w':=by have hB:=ah w (.cells #[ag 0,af 0,au] 44);have VG:=aB.new w 44 #[ag 0,af 0,au];go_enter Tryz.func27,Tryz.ntmps27;open zeS in exact ZcH
variable{a b:Int}
theorem Dd(h:aB w g 44 #[ag 2,af a,au,ag 2,af b,au]):RV w w.heap.size (some ⟨g,0,none⟩) [num a,num b]:=by
 refine .inr ⟨_,0,rfl,h.lt,λ i x hx=>?_⟩
 match i,hx with
 | 0,hx=>exact Zg4
 | 1,hx=>injection hx with hx;subst hx;exact⟨h.cell 3,h.cell 4,h.cell 5⟩
 | n+2,hx=>cases hx
theorem zix.Kcu(h:p:=by
 clear hB;have K4:=aa (aB.new (w6.alloc (.cells #[ag 2,af 6,au,ag 2,af 1,au] 44)) 38 #[aI w2.heap.size 2 2,aI w4.heap.size 2 2,aI w6.heap.size 2 2]);generalize World.alloc (World.alloc w6 _) _=W at*;rw[World.size_alloc] at K4;refine bodyPost_ret (v:=.tuple #[aI w.heap.size 2 2,aI (w6.heap.size+1) 3 3]) (by simp[results,Tryz.results24,go_sem];done) rfl ?_;refine⟨some ⟨w.heap.size,0,none⟩,2,some ⟨w6.heap.size+1,0,none⟩,3,[⟨some ⟨w2.heap.size,0,none⟩,[num 1,num 5],2⟩,⟨some ⟨w4.heap.size,0,none⟩,[num 2,num 7],2⟩,⟨some ⟨w6.heap.size,0,none⟩,[num 6,num 1],2⟩],rfl,?_,?_,rfl,HB.ae⟩
 ·refine .inr ⟨_,0,rfl,HC.ae.lt,λ i x hx=>?_⟩
  match i,hx with
  | 0,hx=>injection hx with hx;subst hx;exact⟨HC.ae.cell 0,HC.ae.cell 1⟩
  | 1,hx=>injection hx with hx;subst hx;exact⟨HC.ae.cell 2,HC.ae.cell 3⟩
  | n+2,hx=>cases hx
 ·refine .inr ⟨_,0,rfl,K4.ae.lt,λ i x hx=>?_⟩
  match i,hx with
  | 0,hx=>injection hx with hx;subst hx;exact⟨K4.ae.cell 0,Dd JW.ae⟩
  | 1,hx=>injection hx with hx;subst hx;exact⟨K4.ae.cell 1,Dd Q3.ae⟩
  | 2,hx=>injection hx with hx;subst hx;exact⟨K4.ae.cell 2,Dd K3.ae⟩
  | n+3,hx=>cases hx):p:=h
theorem VO (w:World):ar 24 #[] w λ e w'=>∃CA cc RA rc rs,e=.returned (.tuple #[.slice CA ml.length cc,.slice RA rs.length rc])/\RC w' w'.heap.size CA ml/\RR w' w'.heap.size RA rs/\rs.map (·.l)=wH/\aj w w':=by
 go_enter Tryz.func24,Tryz.ntmps24;go_wp2_with fail;have HB:=aa (ah w (.cells #[.string ⟨#[116,105,109,101]⟩,ag 2,.string ⟨#[118]⟩,ag 2] 113));have HC:=aa (aB.new w 113 #[.string ⟨#[116,105,109,101]⟩,ag 2,.string ⟨#[118]⟩,ag 2]);refine(fE _ _).mono ?_;rintro e w1 ⟨rfl,hB⟩;replace HC:=aa (HC.ae.later hB);replace HB:=aa (ai.then HB.ae hB);clear hB;go_wp2_with fail;refine(fE _ _).mono ?_;rintro e w2 ⟨rfl,hB⟩;replace HC:=aa (HC.ae.later hB);replace HB:=aa (ai.then HB.ae hB);clear hB;go_wp2_with fail;have hB:=ah w2 (.cells #[ag 2,af 1,au,ag 2,af 5,au] 44);replace HC:=aa (HC.ae.later hB);replace HB:=aa (ai.then HB.ae hB);clear hB;have JW:=aa (aB.new w2 44 #[ag 2,af 1,au,ag 2,af 5,au]);refine(fE _ _).mono ?_;rintro e w3 ⟨rfl,hB⟩;replace HC:=aa (HC.ae.later hB);replace JW:=aa (JW.ae.later hB);replace HB:=aa (ai.then HB.ae hB);clear hB;go_wp2_with fail;refine(fE _ _).mono ?_;rintro e w4 ⟨rfl,hB⟩;replace HC:=aa (HC.ae.later hB);replace JW:=aa (JW.ae.later hB);replace HB:=aa (ai.then HB.ae hB);clear hB;go_wp2_with fail;have hB:=ah w4 (.cells #[ag 2,af 2,au,ag 2,af 7,au] 44);replace HC:=aa (HC.ae.later hB);replace JW:=aa (JW.ae.later hB);replace HB:=aa (ai.then HB.ae hB);clear hB;have Q3:=aa (aB.new w4 44 #[ag 2,af 2,au,ag 2,af 7,au]);refine(fE _ _).mono ?_;rintro e w5 ⟨rfl,hB⟩;replace HC:=aa (HC.ae.later hB);replace JW:=aa (JW.ae.later hB);replace Q3:=aa (Q3.ae.later hB);replace HB:=aa (ai.then HB.ae hB);clear hB;go_wp2_with fail;refine(fE _ _).mono ?_;rintro e w6 ⟨rfl,hB⟩;replace HC:=aa (HC.ae.later hB)
 replace JW:=aa (JW.ae.later hB);replace Q3:=aa (Q3.ae.later hB);replace HB:=aa (ai.then HB.ae hB);clear hB;go_wp2_with fail;have hB:=ah w6 (.cells #[ag 2,af 6,au,ag 2,af 1,au] 44);replace HC:=aa (HC.ae.later hB);replace JW:=aa (JW.ae.later hB);replace Q3:=aa (Q3.ae.later hB);replace HB:=aa (ai.then HB.ae hB);clear hB;have K3:=aa (aB.new w6 44 #[ag 2,af 6,au,ag 2,af 1,au]);have hB:=ah (w6.alloc (.cells #[ag 2,af 6,au,ag 2,af 1,au] 44)) (.cells #[aI w2.heap.size 2 2,aI w4.heap.size 2 2,aI w6.heap.size 2 2] 38);open zix in exact Zhw
def x6V (vx:Val)(gv b off n cc k:Nat)(ct:Int)(gd nz ne:Bool):Nat->World->Value->Prop
 | 0,_,v=>v=.agg (aD vx)
 | 1,_,v=>v=(cond gd (.bool true) (.bool false))
 | 2,_,v=>v=(cond gd (.bool false) (.bool true))
 | 3,_,v=>v=(cond gd (.bool false) (.bool true))
 | 4,_,v=>v=(cond gd (aw gv) (undef))
 | 5,_,v=>v=(cond gd (ag vx.k) (undef))
 | 6,_,v=>v=(cond gd ((cond nz (.bool true) (.bool false))) (undef))
 | 7,_,v=>v=(cond gd ((cond nz (.bool true) (.bool false))) (undef))
 | 8,_,v=>v=(cond gd ((cond nz (aw gv) (undef))) (undef))
 | 9,_,v=>v=(cond gd ((cond nz (ag vx.k) (undef))) (undef))
 | 10,_,v=>v=(cond gd ((cond nz (.slice (some ⟨b,off,none⟩) n cc) (undef))) (undef))
 | 11,_,v=>v=(cond gd ((cond nz (af k) (undef))) (undef))
 | 12,_,v=>v=(cond gd ((cond nz (ba b (off+k*2)) (undef))) (undef))
 | 13,_,v=>v=(cond gd ((cond nz (ba b (off+k*2+1)) (undef))) (undef))
 | 14,_,v=>v=(cond gd ((cond nz (ag ct) (undef))) (undef))
 | 15,_,v=>v=(cond gd ((cond nz ((cond ne (.bool true) (.bool false))) (undef))) (undef))
 | 16,_,v=>v=(cond gd ((cond nz ((cond ne (.bool true) (.bool false))) (.bool false))) (undef))
 | 17,_,v=>v=(cond gd ((cond nz ((cond ne (.bool true) (.bool false))) (.bool false))) (.bool true))
 | _,_,_=>False
theorem VP (vx:Val)(gv b off n cc k:Nat)(ct:Int)(gd nz ne:Bool):∀i w w' v,x6V vx gv b off n cc k ct gd nz ne i w v->ai w w'->x6V vx gv b off n cc k ct gd nz ne i w' v:=by
 intro i w w' v h hl
 match i with
 | 0 | 1 | 2 | 3 | 4 | 5 | 6 | 7 | 8 | 9 | 10 | 11 | 12 | 13 | 14 | 15 | 16 | 17=>exact h
 | n+18=>exact h
variable{c:aW}{v:Val}{cs:List aW}{vs:List Val}
theorem oa:fJ (c::cs) (v::vs)=(FI c v && fJ cs vs):=rfl
theorem MH:∀ {cs:List aW} {vs:List Val},cs.length≠vs.length->fJ cs vs=false
 | [],[],h=>absurd rfl h
 | [],_::_,_=>rfl
 | _::_,[],_=>rfl
 | c::cs,v::vs,h=>by rw[oa,MH (λ e=>h (by simp[e])),Bool.and_false]
theorem zg7.KbT(h:p:=by
 have h1:_=_:=hr.2.1;have Kx:(k:Int)<(cols.length:Int):=by omega
 exact aq (w':=w3) (by simp[go_sem,h0,h1,Kx,sX,dQ];done) ⟨ai.refl _,rfl⟩):p:=h
theorem zg8.KbT(h:p:=by have jq:=(hL.cell (p:=⟨KK,azM+k*2+1,none⟩) HBS.ae).trans HCT.ae;exact Zdz):p:=h
theorem zg9.KbT(h:p:=by have h1:_=_:=hr.2.1;have e1:=nE.ae.2 rfl;exact Zgu):p:=h
theorem zha.KbT(h:p:=by have h1:_=_:=hr.2.1;have e1:=nE.ae.1 rfl;exact Zgu):p:=h
theorem O1 (cols:List aW)(CA:Option Addr)(cc:Nat)(row:List Val)(RA:Option Addr)(rc:Nat)(w:World)(ox:cols.length<=140737488355328)(HZ:row.length<=140737488355328)(kR:RC w w.heap.size CA cols)(hg4:RV w w.heap.size RA row):
  ar 31 #[.slice CA cols.length cc,.slice RA row.length rc] w λ e w'=>e=.returned (.bool (fJ cols row))/\aj w w':=by
 have HI:=aa kR;have JT:=aa hg4;have Gn:=aa ox;have qu:=aa HZ;clear kR hg4 ox HZ;obtain⟨rt,hrt⟩:∃rt,rt=fJ cols row:=⟨_,rfl⟩;rw[<- hrt];have Ld:=aa hrt;clear hrt;by_cases hl:cols.length=row.length
 case neg=>
  have hr:rt=false:=by rw[Ld.ae];exact MH hl
  subst hr;have t1:((cols.length:Int) !=(row.length:Int))=true:=by simp;omega
  have t2:decide ((cols.length:Int)=(row.length:Int))=false:=by simp;omega
  have t3:decide (cols.length=row.length)=false:=by simp[hl]
  have hb:=Below.refl w.heap.size w;clear hl;go_enter Tryz.func31,Tryz.ntmps31;exact Zdi
 have t1:((cols.length:Int) !=(row.length:Int))=false:=by simp[hl]
 have t2:decide ((cols.length:Int)=(row.length:Int))=true:=by simp[hl]
 have t3:decide (cols.length=row.length)=true:=by simp[hl]
 have xZ:=aa hl;clear hl;go_enter Tryz.func31,Tryz.ntmps31;go_wp2_with fail;clear t1 t2 t3;go_loopw [14] (λ i wr=>∃k:Nat,k<=row.length/\i=af k/\rt=fJ (cols.drop k) (row.drop k)/\aj w wr) (λ i _=>row.length - (intOf i).toNat);case atStart=>exact⟨0,Nat.zero_le _,rfl,Ld.ae,Below.refl _ _⟩
 case round=>
  clear Ld;obtain⟨k,hk,rfl,hp,hb⟩:=hrel;have HK:=aa hp;clear hp;have HZ:=qu.ae;by_cases hlt:k < row.length
  ·have sX:k < cols.length:=by have:=xZ.ae;omega
   obtain⟨b2,aBO,rfl,hb1,hx⟩:=(JT.ae.below hb).at_ hlt;obtain⟨KK,azM,rfl,hb2,RM⟩:=(HI.ae.below hb).at_ sX;have II:=aa (show cols.drop k=cols[k]::cols.drop (k+1)from drop_eq_getElem_cons sX);have JS:=aa (show row.drop k=row[k]::row.drop (k+1)from drop_eq_getElem_cons hlt);generalize row[k]=v at*;generalize cols[k]=c at*;unfold ei at hx;unfold mG at RM;go_upto_region 6 with fail;have HG:=aB.new wr 44 (aD v);have bV:=ah wr (.cells (aD v) 44);have hct:=(bV.cell (p:=⟨KK,azM+k*2+1,none⟩) (Nat.lt_of_lt_of_le hb2 hb.size)).trans RM.2;have HCT:=aa hct;have hB:=ai.then hb bV;have JM:KK <(wr.alloc (.cells (aD v) 44)).heap.size:=Nat.lt_of_lt_of_le (Nat.lt_of_lt_of_le hb2 hb.size) bV.size;have HBS:=aa JM;generalize wr.alloc _=W2 at*;obtain⟨g8,Xv⟩:∃g8,g8=wr.heap.size:=⟨_,rfl⟩;rw[<- Xv] at HG ⊢;clear Xv hx RM hct bV JM;obtain⟨gd,hgd⟩:∃gd,gd=good v:=⟨_,rfl⟩
   obtain⟨nz,hnz⟩:∃nz:Bool,(nz=true->v.k≠0)/\(nz=false->v.k=0):=by
    by_cases h:v.k=0
    ·exact⟨false,λ h=> Tad,λ _=>h⟩
    ·exact Zgr
   obtain⟨ne,hne⟩:∃ne:Bool,(ne=true->v.k≠c.t)/\(ne=false->v.k=c.t):=by
    by_cases h:v.k=c.t
    ·exact⟨false,λ h=> Tad,λ _=>h⟩
    ·exact Zgr
   have NA:=aa hgd;have XH:=aa hnz;have nE:=aa hne;clear hgd hnz hne;refine bA 18 (x6V v g8 KK azM cols.length cc k c.t gd nz ne) (VP _ _ _ _ _ _ _ _ _ _ _) Va Va Va ?_ ?_
   ·simp only[take_succ_cons,take_zero];refine⟨?_,?_,Zhk,Zhk,?_,?_,?_,?_,ZaV,?_,ZaV,ZaV,?_,ZaV,?_,?_,?_,?_,trivial⟩
    ·intro ρ w3 hc hL hr;exact ZcR
    ·intro ρ w3 hc hL hr;cases gd
     ·exact Zdq
     ·exact Zdq
    ·intro ρ w3 hc hL hr;cases gd
     ·exact Zbo
     ·exact Zfg
    ·intro ρ w3 hc hL hr;cases gd
     ·exact Zbo
     ·skip;intro hg;have hg:ρ (.tmp 22)=.bool false:=hg;refine⟨λ _=>?_,λ hn=>absurd hg hn⟩;exact ZcR
    ·intro ρ w3 hc hL hr;cases gd
     ·exact ZfR
     ·skip;cases nz
      ·skip;cases ne
       ·exact Zdb
       ·exact Zdb
      ·skip;cases ne
       ·exact Zdc
       ·exact Zdc
    ·intro ρ w3 hc hL hr;cases gd
     ·skip;cases nz
      ·exact Zbo
      ·exact Zbo
     ·skip;cases nz
      ·exact Zfg
      ·exact Zfg
    ·intro ρ w3 hc hL hr;cases gd
     ·exact ZfX
     ·skip;cases nz
      ·exact ZcG
      ·skip;intro hg;have hg:ρ (.tmp 26)=.bool true:=hg;refine⟨λ _=>?_,λ hn=>absurd hg hn⟩;exact ZcR
    ·intro ρ w3 hc hL hr;cases gd
     ·exact ZfX
     ·skip;cases nz
      ·exact ZcG
      ·open zg7 in exact ZeS
    ·intro ρ w3 hc hL hr;cases gd
     ·exact ZfX
     ·skip;cases nz
      ·exact ZcG
      ·open zg8 in exact ZeS
    ·intro ρ w3 hc hL hr;cases gd
     ·skip;cases nz
      ·skip;cases ne
       ·exact Zbz
       ·exact Zbz
      ·skip;cases ne
       ·exact Zbz
       ·exact Zbz
     ·skip;cases nz
      ·skip;cases ne
       ·exact ZcG
       ·exact ZcG
      ·skip;cases ne
       ·open zg9 in exact ZeS
       ·open zha in exact ZeS
    ·intro ρ w3 hc hL hr;cases gd
     ·exact ZfR
     ·skip;cases nz
      ·skip;cases ne
       ·exact Zcv
       ·exact Zcv
      ·skip;cases ne
       ·exact Zcv
       ·exact Zcv
    ·intro ρ w3 hc hL hr;cases gd
     ·skip;cases nz
      ·exact Ze5
      ·exact Ze5
     ·skip;cases nz
      ·exact Ze5
      ·exact Ze5
   intro W3 hL;simp only[Uab];rintro a0 - a1 - a2 - a3 - a4 - a5 - a6 - a7 - a8 - a9 - FH - H7 - a12 - a13 - a14 - a15 - a16 - _ rfl;simp only[bD,Act.put,Uac];have hW:=ai.then hB hL;clear HG HCT HBS hB hL hb;cases gd
   ·skip;have hr:rt=false:=by rw[HK.ae,II.ae,JS.ae,oa];unfold FI;rw[<- NA.ae];rfl
    exact ZgL
   ·cases nz
    ·skip;have hr:rt=fJ (cols.drop (k+1)) (row.drop (k+1)):=by rw[HK.ae,II.ae,JS.ae,oa];unfold FI;rw[<- NA.ae];rw[XH.ae.2 rfl];rfl
     have HR:=aa hr;clear hr HK II JS NA XH nE;exact ZcA
    ·cases ne
     ·skip;have hr:rt=fJ (cols.drop (k+1)) (row.drop (k+1)):=by rw[HK.ae,II.ae,JS.ae,oa];unfold FI;rw[<- NA.ae];rw[nE.ae.2 rfl];simp
      have HR:=aa hr;clear hr HK II JS NA XH nE;exact ZcA
     ·skip
      have hr:rt=false:=by
       rw[HK.ae,II.ae,JS.ae,oa];unfold FI;rw[<- NA.ae];have e1:(v.k==0)=false:=by have:=XH.ae.1 rfl;simpa using this
       have e2:(v.k==c.t)=false:=by have:=nE.ae.1 rfl;simpa using this
       rw[e1,e2];rfl
      exact ZgL
  ·have fw:k=row.length:=by omega
   have hr:rt=true:=by rw[HK.ae,drop_eq_nil_of_le (by have:=xZ.ae;omega),drop_eq_nil_of_le WC];rfl
   subst hr;exact Zdi
theorem zfs.Kbh(h:p:=by obtain⟨y,sb⟩:=yb;dsimp only at*;have HS:=aa hS;have oH:=aa gu;clear hS gu;skip;exact Ze7):p:=h
theorem Jv (gc:Nat)(A:Option Addr)(c:Nat)(args:List (aX×Bool))(w:World)(hl:args.length<=1599289640356)(hA:RR w w.heap.size A (args.map (·.1)))(hE:∀a∈args,∀W,aj w W->ar 30 #[.slice a.1.A a.1.l.length a.1.c,aw gc] W λ e w'=>e=.returned (.bool a.2)/\aj W w'):
  ar 62 #[.slice A args.length c,.func (.func 30) #[] #[.pointer (some ⟨gc,0,none⟩)]] w λ e w'=>e=.returned (.int .i64 (fU (args.map (·.2))))/\aj w w':=by
 have HA:=aa hA;have HE:=aa hE;clear hA hE;go_enter Tryz.func62,Tryz.ntmps62;go_wp2_with fail;go_loopw [5,8] (λ _ i wr=>∃k:Nat,k<=args.length/\i=af k/\(∀j,j < k->(args.map (·.2)).getD j false=false)/\aj w wr) (λ _ i _=>args.length - (intOf i).toNat);case atStart=>exact Ze8
 case round=>
  obtain⟨k,hk,rfl,hp,hb⟩:=hrel;have HK:=aa hp;clear hp;by_cases hlt:k < args.length
  ·open zfs in exact Zdp
  ·exact Zdf
theorem Ab (gc:Nat)(A:Option Addr)(c:Nat)(args:List (aX×Bool))(w:World)(hl:args.length<=1599289640356)(hA:RR w w.heap.size A (args.map (·.1)))(hE:∀a∈args,∀W,aj w W->ar 30 #[.slice a.1.A a.1.l.length a.1.c,aw gc] W λ e w'=>e=.returned (.bool a.2)/\aj W w'):
  ar 29 #[.slice A args.length c,.func (.func 30) #[] #[.pointer (some ⟨gc,0,none⟩)]] w λ e w'=>e=.returned (.bool ((args.map (·.2)).any id))/\aj w w':=by have hi:=Jv gc A c args w hl hA hE;rw[vE];clear hA hE;go_enter Tryz.func29,Tryz.ntmps29;exact ZaZ
theorem MI (gc:Nat)(cols:List aW)(CA:Option Addr)(cc:Nat)(r:aX)(w:World)(hgc:gc < w.heap.size)(hcc:w.cell? ⟨gc,0,none⟩=some (.slice CA cols.length cc))(cf:cols.length<=140737488355328)(lS:r.l.length<=140737488355328)(hC:RC w w.heap.size CA cols)(hV:RV w w.heap.size r.A r.l):
  ar 30 #[.slice r.A r.l.length r.c,aw gc] w λ e w'=>e=.returned (.bool (!fJ cols r.l))/\aj w w':=by have h:=O1 cols CA cc r.l r.A r.c w cf lS hC hV;have HH:=aa h;clear h hC hV cf lS;go_enter Tryz.func30,Tryz.ntmps30;go_wp2_with fail;refine HH.ae.mono ?_;exact ZcT
theorem MJ (gc:Nat)(cols:List aW)(CA:Option Addr)(cc:Nat)(rows:List aX)(A:Option Addr)(c:Nat)(w:World)(hgc:gc < w.heap.size)(hcc:w.cell? ⟨gc,0,none⟩=some (.slice CA cols.length cc))(cf:cols.length<=140737488355328)(hn:rows.length<=1599289640356)(lS:∀r∈rows,r.l.length<=140737488355328)(hC:RC w w.heap.size CA cols)(hR:RR w w.heap.size A rows):
  ar 29 #[.slice A rows.length c,.func (.func 30) #[] #[.pointer (some ⟨gc,0,none⟩)]] w λ e w'=>e=.returned (.bool (rows.any λ r=> !fJ cols r.l))/\aj w w':=by
 have h:=Ab gc A c (rows.map λ r=>(r,!fJ cols r.l)) w (by simpa using hn) (by simpa [Function.comp_def] using hR) (λ a ha W hW=>by
  obtain⟨r,hr,rfl⟩:=List.mem_map.1 ha
  have uQ:RV W W.heap.size r.A r.l:=by
   obtain⟨k,hk,he⟩:=getElem_of_mem hr
   obtain⟨b,off,_,_,_,h5⟩:=(hR.below hW).at_ hk
   rw[he] at h5
   exact h5.more hW.size
  exact MI gc cols CA cc r W (Nat.lt_of_lt_of_le hgc hW.size) ((hW.cell (p:=⟨gc,0,none⟩) hgc).trans hcc) cf (lS r hr) (hC.later hW) uQ)
 rw[length_map,map_map,any_map] at h;exact h
end Go.Proofs.YtndgjggokjickaaGreatDoor
