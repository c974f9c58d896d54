/- Parts of the proof. -/
import Derived.Test.YtehhdlgjfdnafaaGreatDoorXE9
namespace Go.Proofs.YtehhdlgjfdnafaaGreatDoor
open List
set_option maxHeartbeats 90000000
set_option maxRecDepth 100000
set_option linter.unusedSimpArgs false
set_option linter.unusedVariables false
variable{α β:Type}{f:α->Ps β}{l r:aF}{y:β}
theorem cY{p:Ps α}   (h:(p >>= f) l=.ok (y,r)):∃x m,p l=.ok (x,m)/\f x m=.ok (y,r):=by
 rw[gp] at h
 cases e:p l with
 | error n=>rw[e] at h;cases h
 | ok z=>rw[e] at h;exact⟨z.1,z.2,rfl,h⟩
theorem iY{x y:α} (h:(pure x:Ps α) l=.ok (y,r)):y=x/\r=l:=by have h:(Except.ok (x,l):Except Nat (α×aF))=.ok (y,r):=h;injection h with h;injection h with h1 h2;exact⟨h1.symm,h2.symm⟩
variable{s:List UInt8}{b:Bool}
theorem FA(h:may s l=.ok (b,r)):(b=true/\ar s l=true/\r=l.tail/\r.length+1=l.length)\/(b=false/\ar s l=false/\r=l):=by
 unfold may at h;split at h
 ·rename_i hh;injection h with h;injection h with h1 h2;obtain⟨t,q,rfl,_⟩:=ez hh;exact .inl ⟨h1.symm,hh,h2.symm,by rw[<- h2];simp⟩
 ·rename_i hh;injection h with h;injection h with h1 h2;exact .inr ⟨h1.symm,by simpa using hh,h2.symm⟩
theorem vV(h:must s l=.ok ((),r)):ar s l=true/\r=l.tail/\r.length+1=l.length:=by
 unfold must at h;split at h
 ·rename_i hh;injection h with h;injection h with h1 h2;obtain⟨t,q,rfl,_⟩:=ez hh;exact⟨hh,h2.symm,by rw[<- h2];simp⟩
 ·cases h
def TQ (p:Ps Tr):Prop:=∀l t r,p l=.ok (t,r)->t.thin/\t.depth+r.length<=l.length
theorem DB (op:Int)(x:Tr):(mB op [x]).depth=x.depth+1:=by simp[mB,Tr.depth,Tr.ko]
theorem DC (op:Int)(x y:Tr):(mB op [x,y]).depth=max x.depth y.depth+1:=by simp[mB,Tr.depth,Tr.ko]
variable{op:Int}{x:Tr}
theorem Iw(h:x.thin):(mB op [x]).thin:=by unfold mB Tr.thin;exact⟨by simp,h,trivial⟩
theorem Ix{y:Tr}(h:x.thin)(k:y.thin):(mB op [x,y]).thin:=by unfold mB Tr.thin;exact⟨by simp,h,k,trivial⟩
variable{below:Ps Tr}
theorem Iy(hb:TQ below)(lv:Nat):∀(f:Nat) (x:Tr) (n:Nat) (l:aF) (t:Tr) (r:aF),x.thin->x.depth+l.length<=n->kj below lv f x l=.ok (t,r)->t.thin/\t.depth+r.length<=n
 | 0,x,n,l,t,r,hx,hn,h=>by obtain⟨rfl,rfl⟩:=iY h;exact⟨hx,hn⟩
 | f+1,x,n,l,t,r,hx,hn,h=>by
   simp only[kj] at h;cases e:eE (opsL lv) l with
   | none=>rw[e] at h;injection h with h;injection h with h1 h2;subst h1;subst h2;exact⟨hx,hn⟩
   | some o=>rw[e] at h;obtain⟨y,m,h1,h2⟩:=cY h;obtain⟨k1,k2⟩:=hb _ _ _ h1;obtain⟨s,_,hs⟩:=jO e;obtain⟨w,q,rfl,_⟩:=ez hs;simp only[tail_cons,length_cons] at*;refine Iy hb lv f _ n _ _ _ (Ix hx k1) ?_ h2;rw[DC];omega
theorem zk(hb:TQ below)(lv:Nat):TQ (jM below lv):=by intro l t r h;obtain⟨x,m,h1,h2⟩:=cY h;obtain⟨k1,k2⟩:=hb _ _ _ h1;exact Iy hb lv _ x _ m t r k1 k2 h2
variable{same:Ps Tr}
theorem E1(hs:TQ same)(hb:TQ below)(s:List UInt8)(op:Int):TQ (GI s op same below):=by
 intro l t r h;obtain⟨b,m,h1,h2⟩:=cY h;rcases FA h1 with ⟨rfl,_,_,hl⟩|⟨rfl,_,rfl⟩
 ·obtain⟨x,m2,h3,h4⟩:=cY h2;obtain⟨rfl,rfl⟩:=iY h4;obtain⟨k1,k2⟩:=hs _ _ _ h3;exact⟨Iw k1,by rw[DB];omega⟩
 ·exact hb _ _ _ h2
theorem X6(hb:TQ below):TQ (qW below):=by
 intro l t r h;obtain⟨x,m,h1,h2⟩:=cY h;obtain⟨k1,k2⟩:=hb _ _ _ h1;obtain⟨b,m2,h3,h4⟩:=cY h2;rcases FA h3 with ⟨rfl,_,_,hl⟩|⟨rfl,_,rfl⟩
 ·obtain⟨n,m3,h5,h6⟩:=cY h4;obtain⟨_,m4,h7,h8⟩:=cY h6;obtain⟨rfl,rfl⟩:=iY h8;have:=(il dT).len h5;obtain⟨_,_,hm⟩:=vV h7;exact⟨Iw k1,by rw[DB];omega⟩
 ·have h4:wO below x m2=_:=h4;unfold wO at h4
  cases e:eE (opsL 3) m2 with
  | none=>rw[e] at h4;injection h4 with h4;injection h4 with h5 h6;subst h5;subst h6;exact⟨k1,k2⟩
  | some o=>rw[e] at h4;obtain⟨y,m3,h5,h6⟩:=cY h4;obtain⟨rfl,rfl⟩:=iY h6;obtain⟨k3,k4⟩:=hb _ _ _ h5;obtain⟨s,_,hs⟩:=jO e;obtain⟨w,q,rfl,_⟩:=ez hs;simp only[tail_cons,length_cons] at*;exact⟨Ix k1 k3,by rw[DC];omega⟩
variable{whole:Ps Tr}
theorem Ng(hb:TQ whole)(op:Int):TQ (qL whole op):=by
 intro l t r h;obtain⟨width,m,h1,h2⟩:=cY h;obtain⟨x,m2,h3,h4⟩:=cY h2;obtain⟨ys,m3,h5,h6⟩:=cY h4;obtain⟨_,m4,h7,h8⟩:=cY h6;obtain⟨rfl,rfl⟩:=iY h8;obtain⟨_,_,hm⟩:=vV h7;obtain⟨k1,k2⟩:=hb _ _ _ h3
 have hw:m.length<=l.length:=by
  unfold um at h1;split at h1
  ·obtain⟨n,q,g1,g2⟩:=cY h1;obtain⟨_,q2,g3,g4⟩:=cY g2;obtain⟨_,rfl⟩:=iY g4;have:=ku.len g1;have:=(cq bg).len g3;omega
  ·obtain⟨_,rfl⟩:=iY h1;exact Nat.le_refl _
 have hy:(ys=[]/\m3=m2)\/∃y,ys=[y]/\y.thin/\y.depth+m3.length<=m2.length:=by
  unfold qj at h5;split at h5
  ·obtain⟨_,q,g1,g2⟩:=cY h5;obtain⟨y,q2,g3,g4⟩:=cY g2;obtain⟨rfl,rfl⟩:=iY g4;obtain⟨a1,a2⟩:=hb _ _ _ g3;have:=(cq bg).len g1;exact .inr ⟨y,rfl,a1,by omega⟩
  ·obtain⟨rfl,rfl⟩:=iY h5;exact .inl ⟨rfl,rfl⟩
 rcases hy with ⟨rfl,rfl⟩|⟨y,rfl,a1,a2⟩
 ·refine⟨by unfold Tr.thin;exact⟨by simp,k1,trivial⟩,?_⟩;simp only[Tr.depth,Tr.ko];omega
 ·refine⟨by unfold Tr.thin;exact⟨by simp,k1,a1,trivial⟩,?_⟩;simp only[Tr.depth,Tr.ko];omega
variable{t:Tr}
theorem FB(h:t.thin)(hd:t.depth=1)(hr:r.length < l.length):t.thin/\t.depth+r.length<=l.length:=⟨h,by omega⟩
theorem xw (op:Int)(v:Val)(n:ByteArray)(k:Int):(Tr.mk op v n k []).thin:=by unfold Tr.thin;exact⟨by simp,trivial⟩
theorem uJ (op:Int)(v:Val)(n:ByteArray)(k:Int):(Tr.mk op v n k []).depth=1:=by simp[Tr.depth,Tr.ko]
theorem X7(hb:TQ whole)(op:Int):TQ (po whole op):=by
 intro l t r h;unfold po at h;split at h
 ·obtain⟨b,m,h1,h2⟩:=cY h;rcases FA h1 with ⟨rfl,_,_,hl⟩|⟨rfl,_,rfl⟩
  ·obtain⟨_,m2,h3,h4⟩:=cY h2;obtain⟨rfl,rfl⟩:=iY h4;obtain⟨_,_,hm⟩:=vV h3;exact FB (xw _ _ _ _) (uJ _ _ _ _) Taa
  ·exact Ng hb 22 _ _ _ h2
 ·exact Ng hb op _ _ _ h
theorem Uj(hb:TQ whole):TQ (kT whole):=by
 intro l t r h;obtain⟨n,m,h1,h2⟩:=cY h
 have hn:m.length < l.length:=by
  unfold ct at h1;split at h1
  ·cases h1
  ·split at h1
   ·injection h1 with h1;injection h1 with _ h1;subst h1;simp
   ·cases h1
 have h2:(if ar bp m then(match kL n with | none=> .error m.length | some op=>po whole op m.tail)else .ok (ui n,m):Except Nat (Tr×aF))=_:=h2;split at h2
 ·rename_i hh
  cases e:kL n with
  | none=>rw[e] at h2;cases h2
  | some op=>rw[e] at h2;obtain⟨k1,k2⟩:=X7 hb op _ _ _ h2;exact⟨k1,by simp at k2;omega⟩
 ·injection h2 with h2;injection h2 with h3 h4;subst h3;subst h4;exact FB (xw _ _ _ _) (uJ _ _ _ _) hn
theorem XY(hb:TQ whole):TQ (ek whole):=by
 intro l t r h
 match l with
 | []=>cases h
 | a::q=>
   simp only[ek] at h;have lf:∀v,(.ok (oM v,q):Except Nat (Tr×aF))=.ok (t,r)->t.thin/\t.depth+r.length<=(a::q).length:=by intro v e;injection e with e;injection e with e1 e2;subst e1;subst e2;exact FB (xw _ _ _ _) (uJ _ _ _ _) Tae
   split at h
   ·exact lf _ h
   split at h
   ·exact lf _ h
   split at h
   ·exact lf _ h
   split at h
   ·exact lf _ h
   split at h
   ·exact lf _ h
   split at h
   ·obtain⟨x,m,h1,h2⟩:=cY h;obtain⟨_,m2,h3,h4⟩:=cY h2;obtain⟨rfl,rfl⟩:=iY h4;obtain⟨k1,k2⟩:=hb _ _ _ h1;obtain⟨_,_,hm⟩:=vV h3;exact⟨k1,by simp;omega⟩
   ·exact Uj hb _ _ _ h
theorem Uk:TQ wM:=by intro l t r h;cases h
theorem sr:∀f lv,TQ (pE f lv)
 | 0,lv=>by unfold pE;exact Uk
 | f+1,0=>by unfold pE;exact zk (sr f 1) 0
 | f+1,1=>by unfold pE;exact zk (sr f 2) 1
 | f+1,2=>by unfold pE;exact E1 (sr f 2) (sr f 3) _ _
 | f+1,3=>by unfold pE;exact X6 (sr f 4)
 | f+1,4=>by unfold pE;exact zk (sr f 5) 4
 | f+1,5=>by unfold pE;exact zk (sr f 6) 5
 | f+1,6=>by unfold pE;exact E1 (sr f 6) (sr f 7) _ _
 | f+1,lv+7=>by unfold pE;exact XY (sr f 0)
theorem XZ:TQ ey:=λ l t r h=>sr _ _ l t r h
end Go.Proofs.YtehhdlgjfdnafaaGreatDoor
