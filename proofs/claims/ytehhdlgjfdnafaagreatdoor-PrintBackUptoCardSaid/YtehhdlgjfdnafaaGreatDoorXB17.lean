/- Parts of the proof. -/
import Derived.Test.YtehhdlgjfdnafaaGreatDoorXB9
namespace Go.Proofs.YtehhdlgjfdnafaaGreatDoor
open List
set_option maxHeartbeats 90000000
set_option maxRecDepth 100000
set_option linter.unusedSimpArgs false
set_option linter.unusedVariables false
variable{α β:Type}{f:α->Ps β}{l r:aI}{y:β}
theorem dn{p:Ps α}   (h:(p >>= f) l=.ok (y,r)):∃x m,p l=.ok (x,m)/\f x m=.ok (y,r):=by
 rw[gS] at h
 cases e:p l with
 | error n=>rw[e] at h;cases h
 | ok z=>rw[e] at h;exact⟨z.1,z.2,rfl,h⟩
theorem jx{x y:α} (h:(pure x:Ps α) l=.ok (y,r)):y=x/\r=l:=by have h:(Except.ok (x,l):Except Nat (α×aI))=.ok (y,r):=h;injection h with h;injection h with h1 h2;exact⟨h1.symm,h2.symm⟩
variable{s:List UInt8}{b:Bool}
theorem ID(h:may s l=.ok (b,r)):(b=true/\ar s l=true/\r=l.tail/\r.length+1=l.length)\/(b=false/\ar s l=false/\r=l):=by
 unfold may at h;split at h
 ·rename_i hh;injection h with h;injection h with h1 h2;obtain⟨t,q,rfl,_⟩:=eK hh;exact .inl ⟨h1.symm,hh,h2.symm,by rw[<- h2];simp⟩
 ·rename_i hh;injection h with h;injection h with h1 h2;exact .inr ⟨h1.symm,by simpa using hh,h2.symm⟩
theorem xN(h:must s l=.ok ((),r)):ar s l=true/\r=l.tail/\r.length+1=l.length:=by
 unfold must at h;split at h
 ·rename_i hh;injection h with h;injection h with h1 h2;obtain⟨t,q,rfl,_⟩:=eK hh;exact⟨hh,h2.symm,by rw[<- h2];simp⟩
 ·cases h
def TQ (p:Ps Tr):Prop:=∀l t r,p l=.ok (t,r)->t.thin/\t.depth+r.length<=l.length
theorem FR (op:Int)(x:Tr):(nr op [x]).depth=x.depth+1:=by simp[nr,Tr.depth,Tr.ly]
theorem FT (op:Int)(x y:Tr):(nr op [x,y]).depth=max x.depth y.depth+1:=by simp[nr,Tr.depth,Tr.ly]
variable{op:Int}{x:Tr}
theorem La(h:x.thin):(nr op [x]).thin:=by unfold nr Tr.thin;exact⟨by simp,h,trivial⟩
theorem Lb{y:Tr}(h:x.thin)(k:y.thin):(nr op [x,y]).thin:=by unfold nr Tr.thin;exact⟨by simp,h,k,trivial⟩
variable{below:Ps Tr}
theorem Lc(hb:TQ below)(lv:Nat):∀(f:Nat) (x:Tr) (n:Nat) (l:aI) (t:Tr) (r:aI),x.thin->x.depth+l.length<=n->lr below lv f x l=.ok (t,r)->t.thin/\t.depth+r.length<=n
 | 0,x,n,l,t,r,hx,hn,h=>by obtain⟨rfl,rfl⟩:=jx h;exact⟨hx,hn⟩
 | f+1,x,n,l,t,r,hx,hn,h=>by
   simp only[lr] at h;cases e:eR (opsL lv) l with
   | none=>rw[e] at h;injection h with h;injection h with h1 h2;subst h1;subst h2;exact⟨hx,hn⟩
   | some o=>rw[e] at h;obtain⟨y,m,h1,h2⟩:=dn h;obtain⟨k1,k2⟩:=hb _ _ _ h1;obtain⟨s,_,hs⟩:=kG e;obtain⟨w,q,rfl,_⟩:=eK hs;simp only[tail_cons,length_cons] at*;refine Lc hb lv f _ n _ _ _ (Lb hx k1) ?_ h2;rw[FT];omega
theorem Bu(hb:TQ below)(lv:Nat):TQ (kD below lv):=by intro l t r h;obtain⟨x,m,h1,h2⟩:=dn h;obtain⟨k1,k2⟩:=hb _ _ _ h1;exact Lc hb lv _ x _ m t r k1 k2 h2
variable{same:Ps Tr}
theorem acI(hs:TQ same)(hb:TQ below)(s:List UInt8)(op:Int):TQ (Kn s op same below):=by
 intro l t r h;obtain⟨b,m,h1,h2⟩:=dn h;rcases ID h1 with ⟨rfl,_,_,hl⟩|⟨rfl,_,rfl⟩
 ·obtain⟨x,m2,h3,h4⟩:=dn h2;obtain⟨rfl,rfl⟩:=jx h4;obtain⟨k1,k2⟩:=hs _ _ _ h3;exact⟨La k1,by rw[FR];omega⟩
 ·exact hb _ _ _ h2
theorem aeV(hb:TQ below):TQ (sj below):=by
 intro l t r h;obtain⟨x,m,h1,h2⟩:=dn h;obtain⟨k1,k2⟩:=hb _ _ _ h1;obtain⟨b,m2,h3,h4⟩:=dn h2;rcases ID h3 with ⟨rfl,_,_,hl⟩|⟨rfl,_,rfl⟩
 ·obtain⟨n,m3,h5,h6⟩:=dn h4;obtain⟨_,m4,h7,h8⟩:=dn h6;obtain⟨rfl,rfl⟩:=jx h8;have:=(iQ ei).len h5;obtain⟨_,_,hm⟩:=xN h7;exact⟨La k1,by rw[FR];omega⟩
 ·have h4:yX below x m2=_:=h4;unfold yX at h4
  cases e:eR (opsL 3) m2 with
  | none=>rw[e] at h4;injection h4 with h4;injection h4 with h5 h6;subst h5;subst h6;exact⟨k1,k2⟩
  | some o=>rw[e] at h4;obtain⟨y,m3,h5,h6⟩:=dn h4;obtain⟨rfl,rfl⟩:=jx h6;obtain⟨k3,k4⟩:=hb _ _ _ h5;obtain⟨s,_,hs⟩:=kG e;obtain⟨w,q,rfl,_⟩:=eK hs;simp only[tail_cons,length_cons] at*;exact⟨Lb k1 k3,by rw[FT];omega⟩
variable{whole:Ps Tr}
theorem QK(hb:TQ whole)(op:Int):TQ (rT whole op):=by
 intro l t r h;obtain⟨width,m,h1,h2⟩:=dn h;obtain⟨x,m2,h3,h4⟩:=dn h2;obtain⟨ys,m3,h5,h6⟩:=dn h4;obtain⟨_,m4,h7,h8⟩:=dn h6;obtain⟨rfl,rfl⟩:=jx h8;obtain⟨_,_,hm⟩:=xN h7;obtain⟨k1,k2⟩:=hb _ _ _ h3
 have hw:m.length<=l.length:=by
  unfold vP at h1;split at h1
  ·obtain⟨n,q,g1,g2⟩:=dn h1;obtain⟨_,q2,g3,g4⟩:=dn g2;obtain⟨_,rfl⟩:=jx g4;have:=lF.len g1;have:=(cB bk).len g3;omega
  ·obtain⟨_,rfl⟩:=jx h1;exact Nat.le_refl _
 have hy:(ys=[]/\m3=m2)\/∃y,ys=[y]/\y.thin/\y.depth+m3.length<=m2.length:=by
  unfold rv at h5;split at h5
  ·obtain⟨_,q,g1,g2⟩:=dn h5;obtain⟨y,q2,g3,g4⟩:=dn g2;obtain⟨rfl,rfl⟩:=jx g4;obtain⟨a1,a2⟩:=hb _ _ _ g3;have:=(cB bk).len g1;exact .inr ⟨y,rfl,a1,by omega⟩
  ·obtain⟨rfl,rfl⟩:=jx h5;exact .inl ⟨rfl,rfl⟩
 rcases hy with ⟨rfl,rfl⟩|⟨y,rfl,a1,a2⟩
 ·refine⟨by unfold Tr.thin;exact⟨by simp,k1,trivial⟩,?_⟩;simp only[Tr.depth,Tr.ly];omega
 ·refine⟨by unfold Tr.thin;exact⟨by simp,k1,a1,trivial⟩,?_⟩;simp only[Tr.depth,Tr.ly];omega
variable{t:Tr}
theorem IE(h:t.thin)(hd:t.depth=1)(hr:r.length < l.length):t.thin/\t.depth+r.length<=l.length:=⟨h,by omega⟩
theorem zy (op:Int)(v:Val)(n:ByteArray)(k:Int):(Tr.mk op v n k []).thin:=by unfold Tr.thin;exact⟨by simp,trivial⟩
theorem wu (op:Int)(v:Val)(n:ByteArray)(k:Int):(Tr.mk op v n k []).depth=1:=by simp[Tr.depth,Tr.ly]
theorem aeW(hb:TQ whole)(op:Int):TQ (pV whole op):=by
 intro l t r h;unfold pV at h;split at h
 ·obtain⟨b,m,h1,h2⟩:=dn h;rcases ID h1 with ⟨rfl,_,_,hl⟩|⟨rfl,_,rfl⟩
  ·obtain⟨_,m2,h3,h4⟩:=dn h2;obtain⟨rfl,rfl⟩:=jx h4;obtain⟨_,_,hm⟩:=xN h3;exact IE (zy _ _ _ _) (wu _ _ _ _) Taa
  ·exact QK hb 22 _ _ _ h2
 ·exact QK hb op _ _ _ h
theorem YF(hb:TQ whole):TQ (ma whole):=by
 intro l t r h;obtain⟨n,m,h1,h2⟩:=dn h
 have hn:m.length < l.length:=by
  unfold cD at h1;split at h1
  ·cases h1
  ·split at h1
   ·injection h1 with h1;injection h1 with _ h1;subst h1;simp
   ·cases h1
 have h2:(if ar bz m then(match lW n with | none=> .error m.length | some op=>pV whole op m.tail)else .ok (vN n,m):Except Nat (Tr×aI))=_:=h2;split at h2
 ·rename_i hh
  cases e:lW n with
  | none=>rw[e] at h2;cases h2
  | some op=>rw[e] at h2;obtain⟨k1,k2⟩:=aeW hb op _ _ _ h2;exact⟨k1,by simp at k2;omega⟩
 ·injection h2 with h2;injection h2 with h3 h4;subst h3;subst h4;exact IE (zy _ _ _ _) (wu _ _ _ _) hn
theorem Y6(hb:TQ whole):TQ (eD whole):=by
 intro l t r h
 match l with
 | []=>cases h
 | a::q=>
   simp only[eD] at h;have lf:∀v,(.ok (pG v,q):Except Nat (Tr×aI))=.ok (t,r)->t.thin/\t.depth+r.length<=(a::q).length:=by intro v e;injection e with e;injection e with e1 e2;subst e1;subst e2;exact IE (zy _ _ _ _) (wu _ _ _ _) Tae
   split at h
   ·exact lf _ h
   split at h
   ·exact lf _ h
   split at h
   ·exact lf _ h
   split at h
   ·exact lf _ h
   split at h
   ·exact lf _ h
   split at h
   ·obtain⟨x,m,h1,h2⟩:=dn h;obtain⟨_,m2,h3,h4⟩:=dn h2;obtain⟨rfl,rfl⟩:=jx h4;obtain⟨k1,k2⟩:=hb _ _ _ h1;obtain⟨_,_,hm⟩:=xN h3;exact⟨k1,by simp;omega⟩
   ·exact YF hb _ _ _ h
theorem YG:TQ yV:=by intro l t r h;cases h
theorem tI:∀f lv,TQ (pE f lv)
 | 0,lv=>by unfold pE;exact YG
 | f+1,0=>by unfold pE;exact Bu (tI f 1) 0
 | f+1,1=>by unfold pE;exact Bu (tI f 2) 1
 | f+1,2=>by unfold pE;exact acI (tI f 2) (tI f 3) _ _
 | f+1,3=>by unfold pE;exact aeV (tI f 4)
 | f+1,4=>by unfold pE;exact Bu (tI f 5) 4
 | f+1,5=>by unfold pE;exact Bu (tI f 6) 5
 | f+1,6=>by unfold pE;exact acI (tI f 6) (tI f 7) _ _
 | f+1,lv+7=>by unfold pE;exact Y6 (tI f 0)
theorem Y7:TQ eJ:=λ l t r h=>tI _ _ l t r h
end Go.Proofs.YtehhdlgjfdnafaaGreatDoor
