/- Parts of the proof. -/
import Derived.Test.YtehhdlgjfdnafaaGreatDoorXF9
namespace Go.Proofs.YtehhdlgjfdnafaaGreatDoor
open List
set_option maxHeartbeats 90000000
set_option maxRecDepth 100000
set_option linter.unusedSimpArgs false
set_option linter.unusedVariables false
variable{α β:Type}{f:α->Ps β}{l r:aK}{y:β}
theorem dE{p:Ps α}   (h:(p >>= f) l=.ok (y,r)):∃x m,p l=.ok (x,m)/\f x m=.ok (y,r):=by
 rw[gP] at h
 cases e:p l with
 | error n=>rw[e] at h;cases h
 | ok z=>rw[e] at h;exact⟨z.1,z.2,rfl,h⟩
theorem jL{x y:α} (h:(pure x:Ps α) l=.ok (y,r)):y=x/\r=l:=by have h:(Except.ok (x,l):Except Nat (α×aK))=.ok (y,r):=h;injection h with h;injection h with h1 h2;exact⟨h1.symm,h2.symm⟩
variable{s:List UInt8}{b:Bool}
theorem Jy(h:may s l=.ok (b,r)):(b=true/\ar s l=true/\r=l.tail/\r.length+1=l.length)\/(b=false/\ar s l=false/\r=l):=by
 unfold may at h;split at h
 ·rename_i hh;injection h with h;injection h with h1 h2;obtain⟨t,q,rfl,_⟩:=eU hh;exact .inl ⟨h1.symm,hh,h2.symm,by rw[<- h2];simp⟩
 ·rename_i hh;injection h with h;injection h with h1 h2;exact .inr ⟨h1.symm,by simpa using hh,h2.symm⟩
theorem yB(h:must s l=.ok ((),r)):ar s l=true/\r=l.tail/\r.length+1=l.length:=by
 unfold must at h;split at h
 ·rename_i hh;injection h with h;injection h with h1 h2;obtain⟨t,q,rfl,_⟩:=eU hh;exact⟨hh,h2.symm,by rw[<- h2];simp⟩
 ·cases h
def TQ (p:Ps Tr):Prop:=∀l t r,p l=.ok (t,r)->t.thin/\t.depth+r.length<=l.length
theorem GH (op:Int)(x:Tr):(lO op [x]).depth=x.depth+1:=by simp[lO,Tr.depth,Tr.mb]
theorem GI (op:Int)(x y:Tr):(lO op [x,y]).depth=max x.depth y.depth+1:=by simp[lO,Tr.depth,Tr.mb]
variable{op:Int}{x:Tr}
theorem LQ(h:x.thin):(lO op [x]).thin:=by unfold lO Tr.thin;exact⟨by simp,h,trivial⟩
theorem LR{y:Tr}(h:x.thin)(k:y.thin):(lO op [x,y]).thin:=by unfold lO Tr.thin;exact⟨by simp,h,k,trivial⟩
variable{below:Ps Tr}
theorem LS(hb:TQ below)(lv:Nat):∀(f:Nat) (x:Tr) (n:Nat) (l:aK) (t:Tr) (r:aK),x.thin->x.depth+l.length<=n->jE below lv f x l=.ok (t,r)->t.thin/\t.depth+r.length<=n
 | 0,x,n,l,t,r,hx,hn,h=>by obtain⟨rfl,rfl⟩:=jL h;exact⟨hx,hn⟩
 | f+1,x,n,l,t,r,hx,hn,h=>by
   simp only[jE] at h;cases e:eB (opsL lv) l with
   | none=>rw[e] at h;injection h with h;injection h with h1 h2;subst h1;subst h2;exact⟨hx,hn⟩
   | some o=>rw[e] at h;obtain⟨y,m,h1,h2⟩:=dE h;obtain⟨k1,k2⟩:=hb _ _ _ h1;obtain⟨s,_,hs⟩:=lF e;obtain⟨w,q,rfl,_⟩:=eU hs;simp only[tail_cons,length_cons] at*;refine LS hb lv f _ n _ _ _ (LR hx k1) ?_ h2;rw[GI];omega
theorem Cg(hb:TQ below)(lv:Nat):TQ (jZ below lv):=by intro l t r h;obtain⟨x,m,h1,h2⟩:=dE h;obtain⟨k1,k2⟩:=hb _ _ _ h1;exact LS hb lv _ x _ m t r k1 k2 h2
variable{same:Ps Tr}
theorem adU(hs:TQ same)(hb:TQ below)(s:List UInt8)(op:Int):TQ (IQ s op same below):=by
 intro l t r h;obtain⟨b,m,h1,h2⟩:=dE h;rcases Jy h1 with ⟨rfl,_,_,hl⟩|⟨rfl,_,rfl⟩
 ·obtain⟨x,m2,h3,h4⟩:=dE h2;obtain⟨rfl,rfl⟩:=jL h4;obtain⟨k1,k2⟩:=hs _ _ _ h3;exact⟨LQ k1,by rw[GH];omega⟩
 ·exact hb _ _ _ h2
theorem agr(hb:TQ below):TQ (qU below):=by
 intro l t r h;obtain⟨x,m,h1,h2⟩:=dE h;obtain⟨k1,k2⟩:=hb _ _ _ h1;obtain⟨b,m2,h3,h4⟩:=dE h2;rcases Jy h3 with ⟨rfl,_,_,hl⟩|⟨rfl,_,rfl⟩
 ·obtain⟨n,m3,h5,h6⟩:=dE h4;obtain⟨_,m4,h7,h8⟩:=dE h6;obtain⟨rfl,rfl⟩:=jL h8;have:=(jg eC).len h5;obtain⟨_,_,hm⟩:=yB h7;exact⟨LQ k1,by rw[GH];omega⟩
 ·have h4:wQ below x m2=_:=h4;unfold wQ at h4
  cases e:eB (opsL 3) m2 with
  | none=>rw[e] at h4;injection h4 with h4;injection h4 with h5 h6;subst h5;subst h6;exact⟨k1,k2⟩
  | some o=>rw[e] at h4;obtain⟨y,m3,h5,h6⟩:=dE h4;obtain⟨rfl,rfl⟩:=jL h6;obtain⟨k3,k4⟩:=hb _ _ _ h5;obtain⟨s,_,hs⟩:=lF e;obtain⟨w,q,rfl,_⟩:=eU hs;simp only[tail_cons,length_cons] at*;exact⟨LR k1 k3,by rw[GI];omega⟩
variable{whole:Ps Tr}
theorem RA(hb:TQ whole)(op:Int):TQ (nY whole op):=by
 intro l t r h;obtain⟨width,m,h1,h2⟩:=dE h;obtain⟨x,m2,h3,h4⟩:=dE h2;obtain⟨ys,m3,h5,h6⟩:=dE h4;obtain⟨_,m4,h7,h8⟩:=dE h6;obtain⟨rfl,rfl⟩:=jL h8;obtain⟨_,_,hm⟩:=yB h7;obtain⟨k1,k2⟩:=hb _ _ _ h3
 have hw:m.length<=l.length:=by
  unfold rY at h1;split at h1
  ·obtain⟨n,q,g1,g2⟩:=dE h1;obtain⟨_,q2,g3,g4⟩:=dE g2;obtain⟨_,rfl⟩:=jL g4;have:=mh.len g1;have:=(cI bt).len g3;omega
  ·obtain⟨_,rfl⟩:=jL h1;exact Nat.le_refl _
 have hy:(ys=[]/\m3=m2)\/∃y,ys=[y]/\y.thin/\y.depth+m3.length<=m2.length:=by
  unfold ot at h5;split at h5
  ·obtain⟨_,q,g1,g2⟩:=dE h5;obtain⟨y,q2,g3,g4⟩:=dE g2;obtain⟨rfl,rfl⟩:=jL g4;obtain⟨a1,a2⟩:=hb _ _ _ g3;have:=(cI bt).len g1;exact .inr ⟨y,rfl,a1,by omega⟩
  ·obtain⟨rfl,rfl⟩:=jL h5;exact .inl ⟨rfl,rfl⟩
 rcases hy with ⟨rfl,rfl⟩|⟨y,rfl,a1,a2⟩
 ·refine⟨by unfold Tr.thin;exact⟨by simp,k1,trivial⟩,?_⟩;simp only[Tr.depth,Tr.mb];omega
 ·refine⟨by unfold Tr.thin;exact⟨by simp,k1,a1,trivial⟩,?_⟩;simp only[Tr.depth,Tr.mb];omega
variable{t:Tr}
theorem Jz(h:t.thin)(hd:t.depth=1)(hr:r.length < l.length):t.thin/\t.depth+r.length<=l.length:=⟨h,by omega⟩
theorem zY (op:Int)(v:Val)(n:ByteArray)(k:Int):(Tr.mk op v n k []).thin:=by unfold Tr.thin;exact⟨by simp,trivial⟩
theorem xj (op:Int)(v:Val)(n:ByteArray)(k:Int):(Tr.mk op v n k []).depth=1:=by simp[Tr.depth,Tr.mb]
theorem ags(hb:TQ whole)(op:Int):TQ (ou whole op):=by
 intro l t r h;unfold ou at h;split at h
 ·obtain⟨b,m,h1,h2⟩:=dE h;rcases Jy h1 with ⟨rfl,_,_,hl⟩|⟨rfl,_,rfl⟩
  ·obtain⟨_,m2,h3,h4⟩:=dE h2;obtain⟨rfl,rfl⟩:=jL h4;obtain⟨_,_,hm⟩:=yB h3;exact Jz (zY _ _ _ _) (xj _ _ _ _) Taa
  ·exact RA hb 22 _ _ _ h2
 ·exact RA hb op _ _ _ h
theorem ZB(hb:TQ whole):TQ (kU whole):=by
 intro l t r h;obtain⟨n,m,h1,h2⟩:=dE h
 have hn:m.length < l.length:=by
  unfold cC at h1;split at h1
  ·cases h1
  ·split at h1
   ·injection h1 with h1;injection h1 with _ h1;subst h1;simp
   ·cases h1
 have h2:(if ar bG m then(match lB n with | none=> .error m.length | some op=>ou whole op m.tail)else .ok (rV n,m):Except Nat (Tr×aK))=_:=h2;split at h2
 ·rename_i hh
  cases e:lB n with
  | none=>rw[e] at h2;cases h2
  | some op=>rw[e] at h2;obtain⟨k1,k2⟩:=ags hb op _ _ _ h2;exact⟨k1,by simp at k2;omega⟩
 ·injection h2 with h2;injection h2 with h3 h4;subst h3;subst h4;exact Jz (zY _ _ _ _) (xj _ _ _ _) hn
theorem aaS(hb:TQ whole):TQ (dZ whole):=by
 intro l t r h
 match l with
 | []=>cases h
 | a::q=>
   simp only[dZ] at h;have lf:∀v,(.ok (mI v,q):Except Nat (Tr×aK))=.ok (t,r)->t.thin/\t.depth+r.length<=(a::q).length:=by intro v e;injection e with e;injection e with e1 e2;subst e1;subst e2;exact Jz (zY _ _ _ _) (xj _ _ _ _) Tad
   split at h
   ·exact lf _ h
   split at h
   ·exact lf _ h
   split at h
   ·exact lf _ h
   split at h
   ·exact lf _ h
   split at h
   ·exact lf _ h
   split at h
   ·obtain⟨x,m,h1,h2⟩:=dE h;obtain⟨_,m2,h3,h4⟩:=dE h2;obtain⟨rfl,rfl⟩:=jL h4;obtain⟨k1,k2⟩:=hb _ _ _ h1;obtain⟨_,_,hm⟩:=yB h3;exact⟨k1,by simp;omega⟩
   ·exact ZB hb _ _ _ h
theorem ZC:TQ tS:=by intro l t r h;cases h
theorem uj:∀f lv,TQ (pE f lv)
 | 0,lv=>by unfold pE;exact ZC
 | f+1,0=>by unfold pE;exact Cg (uj f 1) 0
 | f+1,1=>by unfold pE;exact Cg (uj f 2) 1
 | f+1,2=>by unfold pE;exact adU (uj f 2) (uj f 3) _ _
 | f+1,3=>by unfold pE;exact agr (uj f 4)
 | f+1,4=>by unfold pE;exact Cg (uj f 5) 4
 | f+1,5=>by unfold pE;exact Cg (uj f 6) 5
 | f+1,6=>by unfold pE;exact adU (uj f 6) (uj f 7) _ _
 | f+1,lv+7=>by unfold pE;exact aaS (uj f 0)
theorem aaT:TQ eD:=λ l t r h=>uj _ _ l t r h
end Go.Proofs.YtehhdlgjfdnafaaGreatDoor
