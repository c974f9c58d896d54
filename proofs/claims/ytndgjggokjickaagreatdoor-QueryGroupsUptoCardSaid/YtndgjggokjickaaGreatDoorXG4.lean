/- Parts of the proof. -/
import Derived.Laws.CopyOwn
import Derived.Lib.ItoaLen
import Derived.Lib.AppendZeros
import Derived.Lib.ParseIntB
import Derived.Lib.Case
import Derived.Test.YtndgjggokjickaaGreatDoorXG3
namespace Go.Proofs.YtndgjggokjickaaGreatDoor
open List
variable{p:Prop}
set_option maxHeartbeats 90000000
set_option maxRecDepth 100000
open Go.RowKit
set_option linter.unusedVariables false
def nG (u:Nat->Value)(M:List Nat)(σ:Nat->Option Value)(i:Nat)(_:rQ)(v:Value):Prop:=if i∈M then σ i=some v else v=u i
def gX (σ:Nat->Option Value)(i:Nat)(v:Value):Nat->Option Value:=λ j=>if j=i then some v else σ j
theorem FC (σ:Nat->Option Value)(i:Nat)(v:Value):gX σ i v i=some v:=by simp[gX]
variable{j:Nat}
theorem acr(σ:Nat->Option Value) {i:Nat}(v:Value)(h:j≠i):gX σ i v j=σ j:=by simp[gX,h]
def afH (P:Program)(l:List Oper)(u:Nat->Value)(M:List Nat)(G:(Nat->Option Value)->rQ->Prop)(a0:Act)(i:Nat)(o:Oper):Prop:=
 ∀ρ w σ,oG ρ->G σ w->lO l (nG u M σ) a0.eval ρ w o (tmpsOf o)->(∀e∈ft o,e∈M->(σ e).isSome=true)->(i∈M->σ i=none)->o.guard=none/\
  if i∈M then xq P o ρ w λ v w'=>G (gX σ i v) w' else(execOp ρ o).run P w=.ok (.value (u i)) w
def Pt (P:Program)(l:List Oper)(u:Nat->Value)(M:List Nat)(G:(Nat->Option Value)->rQ->Prop)(a0:Act):List Oper->Nat->Prop
 | [],_=>True
 | o::rest,i=>afH P l u M G a0 i o/\Pt P l u M G a0 rest (i+1)
variable{P:Program}{L:List Oper}{u:Nat->Value}{M:List Nat}{G:(Nat->Option Value)->rQ->Prop}{a0:Act}
theorem FD:∀ {l:List Oper} {k:Nat},Pt P L u M G a0 l k->∀i o,l[i]?=some o->afH P L u M G a0 (k+i) o
 | [],_,_,i,o,h=>by simp at h
 | x::l,k,hs,0,o,h=>by simp at h;subst h;exact hs.1
 | x::l,k,hs,i+1,o,h=>by have:=FD hs.2 i o Tai;rwa [show k+1+i=k+(i+1) by omega] at this
section
variable {P:Program} {l zs:List Oper} {Q:yD} {u:Nat->Value} {M:List Nat} {G:(Nat->Option Value)->rQ->Prop} {a0:Act} {w0:rQ} {V:Nat->rQ->Value->Prop}
theorem zbR.Kan(h:p:=by
 have hK:=xr (V:=V) (λ d=>a.eval (.tmp d)) l 0 a0 (λ i o d hi hd=>by
  rw[Nat.zero_add]
  have rW:i < l.length:=by
   rcases Nat.lt_or_ge i l.length with h' | h'
   ·exact h'
   ·rw[getElem?_eq_none h'] at hi;cases hi
  exact I.new i o d hi (hall i rW) hd) hf
 rw[<- ha] at hK;exact Zbh):p:=h
theorem FE {N:Nat}(aZ:dP l N l 0=true)(hz:eU (l++zs) zs l.length=true) {listed:Array Bool} {a:Act} {w:rQ}(hf:bA V (λ a w=>wpList P (l++zs).toArray Q zs a w) l 0 a0 w)(I:Inv l V (λ _ _=>True) a0 w0 (l++zs).length listed a w)
  (h0:bu l.length listed=0):wpAny P .any (l++zs).toArray Q zs.length listed a w:=by
 open zbR in exact ZaC
theorem ze6.Kbd(h:p:=by
 by_cases hjm:i∈M
 ·rw[if_pos hjm] at hstep;refine jH hstep ?_;intro v w' Sj;have hne:∀Kx,Kx≠i->gX σ i v Kx=σ Kx:=λ Kx hi=>acr σ v hi
  have I':Inv l (nG u M (gX σ i v)) (λ _ _=>True) a0 w0 (l++zs).length listed a w:=I.imp (λ Kx w x h=>by
   unfold nG at*
   by_cases Sh:Kx∈M
   ·rw[if_pos Sh] at h ⊢
    rw[hne Kx (λ e=>by subst e;rw[hnone Sh] at h;cases h)]
    exact h
   ·rw[if_neg Sh] at h ⊢;exact h)
  refine ih _ _ _ (gX σ i v) (I'.step aZ (λ _ _ _ _ h _=>h) (λ _ _ _ _ _=>trivial) vg xt Bg fu trivial ?_) Sj ?_ ZE
  ·unfold nG;rw[if_pos hjm];exact FC σ i v
  ·intro k hk;rw[eO _ _ _ ZC];by_cases hkj:k=i
   ·subst hkj;rw[FC];simp
   ·rw[if_neg hkj,hne k hkj];exact cL k hk
 ·rw[if_neg hjm] at hstep;refine jH (T:=λ v w'=>v=u i/\w'=w) (aq hstep ⟨rfl,rfl⟩) ?_;rintro v w' ⟨rfl,rfl⟩;refine ih _ _ _ σ (I.step aZ (λ _ _ _ _ h _=>h) (λ _ _ _ _ _=>trivial) vg xt Bg fu trivial ?_) hg ?_ ZE
  ·unfold nG;rw[if_neg hjm]
  ·intro k hk;rw[eO _ _ _ ZC,if_neg (λ e:k=i=>hjm (by rw[<- e];exact hk))];exact cL k hk):p:=h
theorem zao.KW(h:p:=by
 have hst:=FD hs i oj vg;rw[Nat.zero_add] at hst;have XP:=Inv.reads aZ I vg Bg fu (tmpsOf oj) (λ _ h=>h)
 have hnone:i∈M->σ i=none:=λ hjm=>by
  cases kx:σ i with
  | none=>rfl
  | some v=>have:=(cL i hjm).2 (by rw[kx];rfl);rw[Bg] at this;cases this
 obtain⟨hgd,hstep⟩:=hst a.eval w σ (mJ a) hg XP (λ e he hem=>(cL e hem).1 (fu e he)) hnone;open ze6 in exact Zc3):p:=h
theorem mU {id:Nat} {ops:List Oper}(zs:List Oper)(l:List Oper)(kP:ops=l++zs)(u:Nat->Value)(M:List Nat)(G:(Nat->Option Value)->rQ->Prop)(nT:∀σ w,G σ w->G σ w.drew)(hG:G (λ _=>none) w0)
  (hm:P.follows .mixedOrders=true) (aZ:dP l a0.tmps.size l 0=true) (hz:eU (l++zs) zs l.length=true) (Ks:M.all (λ Kx=>decide (Kx < l.length))=true)
  (hs:Pt P l u M G a0 l 0) (hf:∀σ w,(∀Kx∈M,(σ Kx).isSome=true)->G σ w->bA (nG u M σ) (λ a w=>wpList P ops.toArray Q zs a w) l 0 a0 w):(Code.region id ops.toArray true).wp P Q a0 w0:=by
 subst kP
 have main:∀(fuel:Nat) (listed:Array Bool) (a:Act) (w:rQ) (σ:Nat->Option Value),Inv l (nG u M σ) (λ _ _=>True) a0 w0 (l++zs).length listed a w->G σ w->(∀Kx∈M,(listed.getD Kx false=true↔(σ Kx).isSome=true))->fuel=bu l.length listed+zs.length->wpAny P .any (l++zs).toArray Q fuel listed a w:=by
  intro fuel
  induction fuel with
  | zero=>
    intro listed a w σ I hg cL hfu;have h0:bu l.length listed=0:=by omega
    have hz0:zs.length=0:=by omega
    have hall:=eh h0;have:=FE aZ hz (hf σ w (λ Kx hi=>(cL Kx hi).1 (hall Kx (of_decide_eq_true (List.all_eq_true.1 Ks Kx hi)))) hg) I h0;rwa [hz0] at this
  | succ fuel ih=>
    intro listed a w σ I hg cL hfu;by_cases h0:bu l.length listed=0
    ·have hall:=eh h0;have:=FE aZ hz (hf σ w (λ Kx hi=>(cL Kx hi).1 (hall Kx (of_decide_eq_true (List.all_eq_true.1 Ks Kx hi)))) hg) I h0;exact Zfa
    ·open zao in exact Zad
 refine wp_region_any hm ?_;have:=main (l++zs).toArray.size (Array.replicate (l++zs).toArray.size false) a0 w0.drew (λ _=>none) ⟨trivial,rfl,rfl,λ _ _=>rfl,(λ Kx o d _ h=>by rw[bh] at h;cases h),(λ Kx o _ h=>by rw[bh] at h;cases h),by simp,λ Kx _=>bh _ _⟩ (nT _ _ hG) (λ Kx _=>by rw[bh];simp) (by
  have:bu l.length (Array.replicate (l++zs).toArray.size false)=l.length:=by
   unfold bu
   rw[List.filter_eq_self.2 (λ Kx _=>by rw[bh];rfl),length_range]
  rw[this];simp)
 exact this
end
open Go.ChangeShapes Go.WideShapes Go.ChangeAt
structure Cel where
 i:Nat
 T:TypeId
 c:x_
 s:Nat
 d:x_
section
variable {P:Program} {Q:yD} {a0:Act} {w0:rQ}
end
section
variable {P:Program} {l:List Oper} {u:Nat->Value} {X:List Cel} {CL:List Nat} {a0:Act} {B:Nat} {w0:rQ} {i:Nat} {o:Oper}
end
variable{q:Nat}{old:x_}
theorem ahR{w:rQ}  {T:TypeId} (h:aB w q T old)(cs:x_):aB (w.setRow q cs) q T cs:=setRow_heap w q old cs T (0,0) h
variable{w':rQ}{B:Nat}
theorem ZG{w:rQ} (h:Below B w w')(hq:B<=q)(cs:x_):Below B w (w'.setRow q cs):=below_setRow h hq cs
set_option linter.unusedSimpArgs false
def xI (w:rQ):Prop:=Lib.TabIs Tryz.prog w "internal/strconv.uint64pow10" .u64 Lib.pow10Tab
theorem xI.later{w:rQ}(h:xI w)(hb:aj w w'):xI w':=by
 unfold xI Lib.TabIs World.var? at*
 cases hg:Tryz.prog.globalNamed "internal/strconv.uint64pow10" with
 | none=>rw[hg] at h;simp at h
 | some g=>
   rw[hg] at h;simp only[Option.bind_some] at h ⊢
   have:g < w.heap.size:=by
    rcases Nat.lt_or_ge g w.heap.size with hlt | vp
    ·exact hlt
    ·rw[Array.getElem?_eq_none vp] at h;simp at h
   rw[hb.block g this];exact h
theorem mV (w:rQ):∀k,aj w (w.drewN k)
 | 0=>Below.refl _ _
 | k+1=>(mV w k).drew
theorem Pu (w:rQ)(k:Nat)(os:Array Obj):aj w («Sort».grow (w.drewN k) os):=by
 have h:=mV w k;refine⟨h.os,h.tape,h.output,?_,λ i hi=>?_⟩
 ·have:=h.size;simp[«Sort».grow]
 ·rw[<- h.block i hi];have:=h.size;simp only[«Sort».grow];rw[Array.getElem?_append_left TD]
theorem xJ (a b:Int)(w:rQ):ar 97 #[ag a,ag b] w λ e w'=>e=.returned (.bool (cf a b))/\aj w w':=by
 have hb:=Below.refl w.heap.size w;unfold cf;by_cases h1:a=0
 ·subst h1;go_enter Tryz.func97,Tryz.ntmps97;exact Zey
 have t1:(a==0)=false:=by simp[h1]
 have t1':decide (a=0)=false:=by simp[h1]
 have T1:=aa t1;by_cases h2:b=0
 ·subst h2;clear h1;go_enter Tryz.func97,Tryz.ntmps97;go_wp2_with fail;go_ret;exact⟨by rw[T1.ae];rfl,hb⟩
 have t2:(b==0)=false:=by simp[h2]
 have t2':decide (b=0)=false:=by simp[h2]
 have T2:=aa t2;clear h1 h2;go_enter Tryz.func97,Tryz.ntmps97;go_wp2_with fail;go_ret;exact⟨by rw[T1.ae,T2.ae];simp,hb⟩
def nH (r:Int×Int):Int:=if r.2=0/\cf r.1 1=false then 40 else r.2
variable{t:Int}
theorem FH:nH (t,0)=if cf t 1=false then 40 else 0:=by
 unfold nH;by_cases h:cf t 1=false
 ·rw[if_pos h,if_pos ⟨rfl,h⟩]
 ·rw[if_neg h,if_neg (λ h2=>h h2.2)]
variable{e:Int}
theorem BP(h:e≠0):nH (t,e)=e:=if_neg (λ h2=>h h2.1)
theorem uh (t e:Int)(w:rQ):ar 58 #[ag t,af e] w λ e_ w'=>e_=.returned (af (nH (t,e)))/\aj w w':=by
 obtain⟨r,hr⟩:∃r,r=nH (t,e):=⟨_,rfl⟩;rw[<- hr];by_cases h1:e=0
 ·subst h1;rw[FH] at hr;have hg:=xJ t 1;cases hv:cf t 1
  ·rw[hv] at hg hr;have hr2:r=40:=hr;exact Ze0
  ·rw[hv] at hg hr;have hr2:r=0:=hr;exact Ze0
 ·rw[BP h1] at hr;subst hr;have t1:(r==0)=false:=by simp[h1]
  have t1':decide (r=0)=false:=by simp[h1]
  have hb:=Below.refl w.heap.size w;clear h1;go_enter Tryz.func58,Tryz.ntmps58;exact Zey
def di (k:Int):t_:=⟨#[35]⟩++⟨(Lib.itoa k).toArray⟩
def Lu (k:Int):Ex:=⟨2,⟨0,0,⟨#[]⟩⟩,di k,0,none,0,0⟩
theorem zba.Kag(h:p:=by exact bodyPost_ret (v:=.agg #[ag 2,ag 0,af 0,au,.string (({ data:= #[35] }:t_)++ { data:=(Lib.itoa k).toArray }),af 0,ay]) (by simp[results,Tryz.results60,go_sem,z0,z1,x2,x3,x4,x5,x6];done) rfl ⟨rfl,hb3⟩):p:=h
theorem zeV.Ka9(h:p:=by
 have wC:=aa hg;clear hg;go_wp2_with fail;refine(Tryz.strconv_Itoa k HK.ae.1 HK.ae.2 W1 HE.ae).mono ?_;rintro e w1 ⟨rfl,kk,os,rfl⟩;have b1:=Pu W1 kk os;generalize «Sort».grow (W1.drewN kk) os=Kx at*;have H2:=aa (HX.later b1);have HB:=aa (ai.then bb b1);have hgb:w.heap.size<=g:=by rw[wC.ae];exact Nat.le_refl _
 have yU:=aa hgb;have EXI:(Tryz.prog.info? 46).map (·.size)=some 7:=by kernel_rfl
 have HEX:=aa EXI;clear HX bb b1 hgb EXI;go_wp2_with (refine wpList_store_row rfl 46 (.tmp 2) (.tmp 6) rfl g #[ag 2,ag 0,af 0,au,.string (({ data:= #[35] }:t_)++ { data:=(Lib.itoa k).toArray }),af 0,ay] rfl rfl 46 dt H2.ae HEX.ae rfl WC ?_);rotate_left
 ·simp only[Act.put];have k1:=ahR H2.ae #[ag 2,ag 0,af 0,au,.string (({ data:= #[35] }:t_)++ { data:=(Lib.itoa k).toArray }),af 0,ay];have hb3:=ZG HB.ae yU.ae #[ag 2,ag 0,af 0,au,.string (({ data:= #[35] }:t_)++ { data:=(Lib.itoa k).toArray }),af 0,ay];generalize World.setRow _ _ _=W2 at*;open zba in exact Zau
 ·exfalso;have:=Lib.itoa_length_le k HK.ae.1 HK.ae.2;omega):p:=h
theorem oZ (k:Int)(h0: -9223372036854775808<=k)(h1:k<=9223372036854775807)(w:rQ)(hE:xI w):ar 60 #[af k] w λ e w'=>e=.returned (mD (Lu k))/\aj w w':=by have bb:=ah w (.cells dt 46);have HX:=aB.new w 46 dt;have HE:=aa (hE.later bb);have HK:=aa (And.intro h0 h1);clear hE h0 h1;go_enter Tryz.func60,Tryz.ntmps60;open zeV in exact ZcL
mutual
def Tr.depth:Tr->Int
 | .mk op v name width args=>RowKit.wrap64 (Tr.iP args+1)
def Tr.iP:uF->Int
 | []=>0
 | t::ts=>max t.depth (Tr.iP ts)
end
def ahT (f:FuncId)(w:rQ)(y:Ex)(b:Int):Prop:=∀W,aj w W->ar f #[.agg (az y)] W λ e w'=>e=.returned (af b)/\aj W w'
def zV:List Int->Int
 | []=>0
 | a::l=>max a (zV l)
theorem xK:∀(l:List Int) (a:Int),zV (l++ [a])=max (zV l) a
 | [],a=>by simp only[nil_append,zV];omega
 | b::l,a=>by simp only[cons_append,zV,xK l a];omega
theorem yV:∀ts:uF,Tr.iP ts=zV (ts.map Tr.depth)
 | []=>by simp[Tr.iP,zV]
 | t::ts=>by simp[Tr.iP,zV,yV ts]
theorem zcD.Kay(h:p:=by
 generalize hm:zV ((args.take k).map (·.2))=m;have HM:=aa hm;clear hm;by_cases hmd:m < v
 ·exact Zb3
 ·exact Zb3):p:=h
theorem zfV.Kbx(h:p:=by
 clear x6;go_loopw [3,9] (λ m iv wr=>∃k:Nat,k<=args.length/\iv=af k/\m=af (zV ((args.take k).map (·.2)))/\aj W wr) (λ _ iv _=>args.length - (intOf iv).toNat);case atStart=>exact Zf0
 case round=>
  obtain⟨k,hi,rfl,rfl,hW⟩:=hrel;have x6:=(HX.later hW).cell 6;simp only[Uaa] at x6;by_cases hlt:k < args.length
  ·obtain⟨b,off,rfl,kM,hex⟩:=(HA.ae.below (ai.then HB.ae hW)).at_ (show k <(args.map (·.1)).length by simpa using hlt);have jC:(args.map (·.1))[k]' Tan=args[k].1:=by simp
   open zcD in exact Za8
  ·obtain rfl:k=args.length:=by omega
   have lT:args.take args.length=args:=take_length;rw[lT];generalize hmx:zV (args.map (·.2))=m;have HMX:=aa hmx;clear hmx;exact ZgS):p:=h
theorem Pv (Kc:Int)(Kx:Val)(lj:t_)(ir:Int)(A:z_)(c:Nat)(args:List (Ex×Int))(w:rQ)(hl:args.length<=1599289640356)(hA:RE w w.heap.size A (args.map (·.1)))(hE:∀a∈args,ahT 57 w a.1 a.2):ar 57 #[.agg #[ag Kc,ag Kx.k,af Kx.n,.string Kx.s,.string lj,af ir,.slice A args.length c]] w λ e w'=>e=.returned (af (wrap64 (zV (args.map (·.2))+1)))/\aj w w':=by have HA:=aa hA;have HE:=aa hE;clear hA hE;have HX:=aB.new w 46 #[ag Kc,ag Kx.k,af Kx.n,.string Kx.s,.string lj,af ir,.slice A args.length c];have hb0:=ah w (.cells #[ag Kc,ag Kx.k,af Kx.n,.string Kx.s,.string lj,af ir,.slice A args.length c] 46);go_enter Tryz.func57,Tryz.ntmps57;go_upto_region 1 with fail;generalize w.alloc _=W at*;have HB:=aa hb0;clear hb0;open zfV in exact Zd2
theorem Tr.ZH (t:Tr)(y:Ex)(w:rQ)(aZ:t.ok)(hat:t.at_ w (Old w) y):∀W,aj w W->ar 57 #[mD y] W λ e w'=>e=.returned (af t.depth)/\aj W w':=by refine Tr.tell Tr.depth (λ _=>True) (λ W y r=>ar 57 #[mD y] W λ e w'=>e=.returned (af r)/\aj W w') (λ _ _ _ _ _ _ _ _=>trivial) ?_ t y w aZ trivial hat;intro op v name width ts A c args w aZ _ hlen hm hA _ hE;have k:=Pv op v name width A c args w (by unfold Tr.ok at aZ;rw[hlen];exact aZ.2.1) hA hE;unfold Tr.depth;rw[yV,<- hm];exact k
def t5V (y:Ex)(gp:Nat)(cV:Value)(t e:Int):Nat->rQ->Value->Prop
 | 0,_,v=>v=.agg (az y)
 | 1,_,v=>v=aw gp
 | 2,_,v=>v=aw gp
 | 3,_,v=>v=bc gp 8
 | 4,_,v=>v=cV
 | 5,_,v=>v=.tuple #[ag t,af e]
 | 6,_,v=>v=.tuple #[ag t,af e]
 | 7,_,v=>v=ag t
 | 8,_,v=>v=af e
 | 9,_,v=>v=ag t
 | 10,_,v=>v=af e
 | _,_,_=>False
theorem xL (y:Ex)(gp:Nat)(cV:Value)(t e:Int):∀i w w' v,t5V y gp cV t e i w v->ai w w'->t5V y gp cV t e i w' v:=by exact Zdj
theorem zg9.Kb1(h:p:=by
 replace q5: .tuple #[ag bt,af er]=a5:=Eq.symm q5;subst q5;replace q6: .tuple #[ag bt,af er]=a6:=Eq.symm q6;subst q6;replace q7: ag bt=a7:=Eq.symm q7;subst q7;replace q8: af er=a8:=Eq.symm q8;subst q8;replace q3: ag bt=a9:=Eq.symm q3;subst q3;replace Vn: af er=FI:=Eq.symm Vn;subst Vn;simp only[bA,Act.put,Uac];have eI:=ai.then hB (ai.then hb (ai.then MK hL));have t1:(er != 0)=true:=by have:=OL.ae;simpa using this
 have t2:decide (er=0)=false:=by have:=OL.ae;simpa using this
 clear xj k1 Oi QP MK hL hb hB;go_wp2_with fail;exact bodyPost_ret (v:=.tuple #[ag 0,af er]) Tao rfl ⟨rfl,eI⟩):p:=h
theorem zfP.Kbv(h:p:=by
 refine bz 11 (t5V y gp cV bt er) (xL _ _ _ _ _) WC WC WC ?_ ?_
 ·exact ZaS
 open zg9 in exact Zfr):p:=h
theorem zeS.Ka8(h:p:=by clear Ig;generalize bad=y at*;unfold cg at hex;open zfP in exact ZdZ):p:=h
theorem zdd.KaD(h:p:=by
 go_loopw [6,15] (λ kv i wr=>∃k:Nat,k<=args.length/\i=af k/\aH dR 5 1 wr W1.heap.size kv ((args.take k).map (·.2))/\aj W1 wr) (λ _ i _=>args.length - (intOf i).toNat);case atStart=>exact Zcz
 case round=>
  obtain⟨k,hk,rfl,hp,hb⟩:=hrel;have HP:=aa hp;clear hp;rcases Nat.lt_or_ge k args.length with hlt | vp
  ·have ua:k < n:=by have:=HN.ae;omega
   obtain⟨b,off,rfl,kM,hex⟩:=(HA.ae.below hb).at_ (show k <(args.map (·.1)++bad::post).length by simp;omega);have jC:(args.map (·.1)++bad::post)[k]' Tab=args[k].1:=by rw[getElem_append_left Tan];simp
   exact Zas
  ·open zeS in exact ZcK):p:=h
theorem Vl (gp:Nat)(cV:Value)(op:Int)(xv:Val)(name:t_)(width:Int)(A:z_)(n c:Nat)(args:List (Ex×Int))(bad:Ex)(bt er:Int)(post:u_)(w:rQ)(sy:gp < w.heap.size)(ZI:w.cell? ⟨gp,8,none⟩=some cV)(hn:args.length+1+post.length=n)(hl:n<=1599289640356)(hA:RE w w.heap.size A (args.map (·.1)++bad::post))(hE:∀a∈args,oO w cV a.1 a.2 0)(kq:oO w cV bad bt er)(her:er≠0):
  ar 153 #[aw gp,.agg #[ag op,ag xv.k,af xv.n,.string xv.s,.string name,af width,.slice A n c]] w λ en w'=>en=.returned (.tuple #[ag 0,af er])/\aj w w':=by have HN:=aa hn;have Ig:=aa kq;have OL:=aa her;clear hn kq her;open zdd in exact Zbg
def RK (w:rQ)(B:Nat)(A:z_)(l:List Int):Prop:=l=[]\/∃g,A=some ⟨g,0,none⟩/\g < B/\∀(i:Nat) x,l[i]?=some x->w.cell? ⟨g,i,none⟩=some (ag x)
variable{l:List Int}
theorem ZM{w:rQ} {A:z_} (h:l=[]\/∃g,A=some ⟨g,0,none⟩/\g < w.heap.size/\∀i x j u,l[i]?=some x->j < 1->(dR x)[j]?=some u->w.cell? ⟨g,i*1+j,none⟩=some u):RK w w.heap.size A l:=by
 rcases h with h |⟨g,h1,h2,h3⟩
 ·exact .inl h
 ·exact .inr ⟨g,h1,h2,λ i x hx=>by have:=h3 i x 0 _ hx TD rfl;simpa using this⟩
theorem RK.at_{w:rQ}  {A:z_} (h:RK w B A l) {k:Nat}(hk:k < l.length):∃g,A=some ⟨g,0,none⟩/\g < B/\w.cell? ⟨g,k,none⟩=some (ag l[k]):=by
 rcases h with h |⟨g,h1,h2,h3⟩
 ·subst h;simp at hk
 ·exact⟨g,h1,h2,h3 k _ (getElem?_eq_getElem hk)⟩
def jP (op:Int)(ks:List Int):Int×Int:=
 if (ks.length:Int)≠iN op then(0,21)
 else if (op=23\/op=26)/\cf (ks.getD 0 0) 2=false then(0,40)
 else if ks.length=2/\cf (ks.getD 1 0) 2=false then(0,40)
 else if ks.length=0\/op=23\/op=26\/op=22 then(2,0)
 else(ks.getD 0 0,0)
theorem Lv {op:Int}:iN op=0\/iN op=1\/iN op=2:=by
 unfold iN Io;repeat' split
 all_goals simp
theorem Lx{op:Int}(h:op=23\/op=26):iN op=1:=by
 rcases h with rfl | rfl <;> rfl
theorem Pw:iN 22=1:=rfl
theorem zhC.Kcd(h:p:=by clear iC;exact ZeG):p:=h
theorem zhD.Kcd(h:p:=by have c0':=(b3.cell (p:=⟨g0,0,none⟩) hg0).trans HC0.ae;clear iC;go_wp2_with fail;exact bodyPost_ret (v:=.tuple #[ag k0,af 0]) Tao rfl ⟨rfl,ai.then fY.ae b3⟩):p:=h
theorem zde.KaD(h:p:=by
 go_loopw [6,15] (λ kv i wr=>∃k:Nat,k<=args.length/\i=af k/\aH dR 5 1 wr W1.heap.size kv ((args.take k).map (·.2))/\aj W1 wr) (λ _ i _=>args.length - (intOf i).toNat);case atStart=>exact Zcz
 case round=>
  obtain⟨k,hk,rfl,hp,hb⟩:=hrel;have HP:=aa hp;clear hp;rcases Nat.lt_or_ge k args.length with hlt | vp
  ·have ua:k < n:=by have:=HN.ae;omega
   obtain⟨b,off,rfl,kM,hex⟩:=(HA.ae.below hb).at_ (show k <(args.map (·.1)).length by simpa using hlt);have jC:(args.map (·.1))[k]' Tan=args[k].1:=by simp
   exact Zas
  ·have lT:args.take k=args:=take_of_length_le vp;have ua:¬k < n:=by have:=HN.ae;omega
   rw[lT] at HP;obtain⟨A9,c9,hu9,hKC⟩:=dT (f:=dR) (size:=1) (λ _=>rfl) HP.ae;have tH:(args.map (·.2)).length=n:=by rw[length_map];exact HN.ae
   rw[tH] at hu9;have HRK:=aa (ZM hKC);subst hu9;have bw:=HX.later hb;have eI:=ai.then hB hb;have fY:=aa eI;generalize nV:args.map (·.2)=ks at*;have XS:=aa tH;clear hKC hB HX nV tH eI HP ZK BQ HA HE lT vp;have iC:=bw.cell 0;simp only[Uaa] at iC;go_upto_region 10 with fail
   obtain⟨sb,hsb⟩:∃sb:Bool,(sb=true->op=23\/op=26)/\(sb=false->op≠23/\op≠26):=by
    by_cases h:op=23\/op=26
    ·exact Zgl
    ·exact⟨false,λ h=> Tac,λ _=>⟨λ h2=>h (.inl h2),λ h2=>h (.inr h2)⟩⟩
   have sY:=aa hsb;clear hsb;go_cut [11] (λ sv wx=>sv=.bool sb/\wx=wr)
   case first=>
    cases sb
    ·obtain⟨h1,h2⟩:=sY.ae.2 rfl;have s1:(op==23)=false:=by simp[h1]
     have s2:(op==26)=false:=by simp[h2]
     have s3:decide (op=23)=false:=by simp[h1]
     have s4:decide (op=26)=false:=by simp[h2]
     clear h1 h2;exact Zgf
    ·rcases sY.ae.1 rfl with h1 | h1
     ·have s1:(op==23)=true:=by simp[h1]
      have s3:decide (op=23)=true:=by simp[h1]
      clear h1;exact Zgf
     ·have s1:(op==23)=false:=by simp[h1]
      have s2:(op==26)=true:=by simp[h1]
      have s3:decide (op=23)=false:=by simp[h1]
      have s4:decide (op=26)=true:=by simp[h1]
      clear h1;exact Zgf
   case rest=>
   obtain⟨rfl,rfl⟩:=hcut;have Vp:=Zu op;clear iC hb ua hk;by_cases UH:(n:Int)=iN op
   case neg=>
    have hr:rt=(0,21):=by rw[Lz.ae];unfold jP;rw[XS.ae];exact if_pos UH
    subst hr;obtain⟨ao,hao⟩:∃ao,ao=iN op:=⟨_,rfl⟩;rw[<- hao] at Vp UH;have t1:((n:Int) != ao)=true:=by simp[UH]
    have t2:decide ((n:Int)=ao)=false:=by simp[UH]
    have t3:((n:Int)==ao)=false:=by simp[UH]
    have IB:=aa Vp;have iC:=bw.cell 0;simp only[Uaa] at iC;clear Vp UH hao;go_wp2_with fail;refine(IB.ae _).mono ?_;rintro e w2 ⟨rfl,b3⟩;go_wp2_with fail;exact bodyPost_ret (v:=.tuple #[ag 0,af 21]) Tao rfl ⟨rfl,ai.then fY.ae b3⟩
   have Vq:=XS.ae;have HNA:=aa UH;rw[<- UH] at Vp;have qR:n=0\/n=1\/n=2:=by rcases @Lv op with h | h | h <;> omega
   have IB:=aa Vp;clear Vp UH;have iC:=bw.cell 0;simp only[Uaa] at iC;rcases qR with rfl | rfl | rfl
   ·have nV:ks=[]:=eq_nil_of_length_eq_zero Vq;subst nV;clear Vq;have hsb:sb=false:=by exact Zg2
    subst hsb;have hr:rt=(2,0):=by rw[Lz.ae];unfold jP;rw[if_neg (λ h=>h HNA.ae),if_neg (λ h=>by rcases sY.ae.2 rfl with ⟨a,b⟩;rcases h.1 with c | c;exact a c;exact b c),if_neg (λ h=>by cases h.1),if_pos (.inl rfl)]
    subst hr;go_wp2_with fail;refine(IB.ae _).mono ?_;rintro e w2 ⟨rfl,b3⟩;exact ZeG
   ·obtain⟨k0,rfl⟩:∃k0,ks=[k0]:=by
     match ks,Vq with
     | [k0],_=>exact⟨k0,rfl⟩
    clear Vq;obtain⟨g0,rfl,hg0,hc0⟩:=HRK.ae.at_ (show 0 < [k0].length by simp);have hc0:wc.cell? ⟨g0,0,none⟩=some (ag k0):=hc0;have HC0:=aa hc0;clear hc0;cases sb
    ·by_cases NY:op=22
     ·have hr:rt=(2,0):=by rw[Lz.ae];unfold jP;rw[if_neg (λ h=>h HNA.ae),if_neg (λ h=>by rcases sY.ae.2 rfl with ⟨a,b⟩;rcases h.1 with c | c;exact a c;exact b c),if_neg (λ h=>by cases h.1),if_pos (.inr (.inr (.inr NY)))]
      subst hr;have s1:(op==22)=true:=by simp[NY]
      have s2:decide (op=22)=true:=by simp[NY]
      open zhC in exact Zgd
     ·have hr:rt=(k0,0):=by rw[Lz.ae];unfold jP;rw[if_neg (λ h=>h HNA.ae),if_neg (λ h=>by rcases sY.ae.2 rfl with ⟨a,b⟩;rcases h.1 with c | c;exact a c;exact b c),if_neg (λ h=>by cases h.1),if_neg (λ h=>by rcases sY.ae.2 rfl with ⟨a,b⟩;rcases h with c | c | c | c;cases c;exact a c;exact b c;exact NY c)];rfl
      subst hr;have s1:(op==22)=false:=by simp[NY]
      have s2:decide (op=22)=false:=by simp[NY]
      open zhD in exact Zgd
    ·have hgo:=xJ k0 2;have acs:=sY.ae.1 rfl;cases hv:cf k0 2
     ·have hr:rt=(0,40):=by rw[Lz.ae];unfold jP;rw[if_neg (λ h=>h HNA.ae),if_pos ⟨acs,hv⟩]
      subst hr;rw[hv] at hgo;have XT:=aa hgo;clear hgo hv acs;go_wp2_with fail;refine(IB.ae _).mono ?_;rintro e w2 ⟨rfl,b3⟩;have c0':=(b3.cell (p:=⟨g0,0,none⟩) hg0).trans HC0.ae;exact ZcX
     ·have hr:rt=(2,0):=by rw[Lz.ae];unfold jP;rw[if_neg (λ h=>h HNA.ae),if_neg (λ h=>by have:=h.2;rw[show [k0].getD 0 0=k0 from rfl,hv] at this;cases this),if_neg (λ h=>by cases h.1),if_pos (by rcases acs with h | h;exact .inr (.inl h);exact .inr (.inr (.inl h)))]
      subst hr;rw[hv] at hgo;have XT:=aa hgo;clear hgo hv acs;go_wp2_with fail;refine(IB.ae _).mono ?_;rintro e w2 ⟨rfl,b3⟩;have c0':=(b3.cell (p:=⟨g0,0,none⟩) hg0).trans HC0.ae;clear iC;go_wp2_with fail;refine(XT.ae _).mono ?_;rintro e KK ⟨rfl,b2⟩;go_wp2_with fail;exact bodyPost_ret (v:=.tuple #[ag 2,af 0]) Tao rfl ⟨rfl,ai.then (ai.then fY.ae b3) b2⟩
   ·obtain⟨k0,Kx,rfl⟩:∃k0 Kx,ks=[k0,Kx]:=by
     match ks,Vq with
     | [k0,Kx],_=>exact⟨k0,Kx,rfl⟩
    clear Vq;have hsb:sb=false:=by exact Zg2
    subst hsb;have NY:op≠22:=λ h=>by have h1:=HNA.ae;rw[h,Pw] at h1;omega
    obtain⟨g0,rfl,hg0,hc0⟩:=HRK.ae.at_ (show 0 < [k0,Kx].length by simp);obtain⟨g1,hg1,_,hc1⟩:=HRK.ae.at_ (show 1 < [k0,Kx].length by simp);injection hg1 with hg1;injection hg1 with hg1 _ _;subst hg1;have hc0:wc.cell? ⟨g0,0,none⟩=some (ag k0):=hc0;have hc1:wc.cell? ⟨g0,1,none⟩=some (ag Kx):=hc1;have HC0:=aa hc0;have UL:=aa hc1;have s1:(op==22)=false:=by simp[NY]
    have s2:decide (op=22)=false:=by simp[NY]
    have H22:=aa NY;clear hc0 hc1 NY;have hgo:=xJ Kx 2;cases hv:cf Kx 2
    ·have hr:rt=(0,40):=by rw[Lz.ae];unfold jP;rw[if_neg (λ h=>h HNA.ae),if_neg (λ h=>by rcases sY.ae.2 rfl with ⟨a,b⟩;rcases h.1 with c | c;exact a c;exact b c),if_pos ⟨rfl,hv⟩]
     subst hr;rw[hv] at hgo;have XT:=aa hgo;clear hgo hv;go_wp2_with fail;refine(IB.ae _).mono ?_;rintro e w2 ⟨rfl,b3⟩;have c1':=(b3.cell (p:=⟨g0,1,none⟩) hg0).trans UL.ae;exact ZcX
    ·have hr:rt=(k0,0):=by rw[Lz.ae];unfold jP;rw[if_neg (λ h=>h HNA.ae),if_neg (λ h=>by rcases sY.ae.2 rfl with ⟨a,b⟩;rcases h.1 with c | c;exact a c;exact b c),if_neg (λ h=>by have:=h.2;rw[show [k0,Kx].getD 1 0=Kx from rfl,hv] at this;cases this),if_neg (λ h=>by rcases sY.ae.2 rfl with ⟨a,b⟩;rcases h with c | c | c | c;cases c;exact a c;exact b c;exact H22.ae c)];rfl
     subst hr;rw[hv] at hgo;have XT:=aa hgo;clear hgo hv;go_wp2_with fail;refine(IB.ae _).mono ?_;rintro e w2 ⟨rfl,b3⟩;have c1':=(b3.cell (p:=⟨g0,1,none⟩) hg0).trans UL.ae;clear iC;go_wp2_with fail;refine(XT.ae _).mono ?_;rintro e KK ⟨rfl,b2⟩;have c10:=((bw.later b3).later b2).cell 0;simp only[Uaa] at c10;have c0':=(b2.cell (p:=⟨g0,0,none⟩) (Nat.lt_of_lt_of_le hg0 b3.size)).trans ((b3.cell (p:=⟨g0,0,none⟩) hg0).trans HC0.ae);clear c1';go_wp2_with fail;exact bodyPost_ret (v:=.tuple #[ag k0,af 0]) Tao rfl ⟨rfl,ai.then (ai.then fY.ae b3) b2⟩):p:=h
theorem Vo (gp:Nat)(cV:Value)(op:Int)(xv:Val)(name:t_)(width:Int)(A:z_)(n c:Nat)(args:List (Ex×Int))(w:rQ)(sy:gp < w.heap.size)(ZI:w.cell? ⟨gp,8,none⟩=some cV)(hn:args.length=n)(hl:n<=1599289640356)(hA:RE w w.heap.size A (args.map (·.1)))(hE:∀a∈args,oO w cV a.1 a.2 0):
  ar 153 #[aw gp,.agg #[ag op,ag xv.k,af xv.n,.string xv.s,.string name,af width,.slice A n c]] w λ en w'=>en=.returned (.tuple #[ag (jP op (args.map (·.2))).1,af (jP op (args.map (·.2))).2])/\aj w w':=by have HN:=aa hn;clear hn;obtain⟨rt,hrt⟩:∃rt,rt=jP op (args.map (·.2)):=⟨_,rfl⟩;rw[<- hrt];have Lz:=aa hrt;clear hrt;open zde in exact Zbg
def fZ (cols:List aV)(op:Int)(args:uF):Int×Int:=
 if gJ (Tr.types cols args)≠0 then(0,gJ (Tr.types cols args))else jP op ((Tr.types cols args).map (·.1))
variable{CA:z_}{cc:Nat}
theorem Tr.LB{cols:List aV}  (cL:cols.length<=140737488355328)(gp:Nat):∀(t:Tr) (y:Ex) (w:rQ),t.ok->t.at_ w (Old w) y->RC w w.heap.size CA cols->gp < w.heap.size->w.cell? ⟨gp,8,none⟩=some (.slice CA cols.length cc)->
  ar 153 #[aw gp,mD y] w λ e w'=>e=.returned (.tuple #[ag (fZ cols t.op t.args).1,af (fZ cols t.op t.args).2])/\aj w w'
 | .mk op v name width ts,y,w,aZ,hat,hC,sy,ZI=>by
   unfold Tr.at_ at hat;obtain⟨h1,h2,h3,h4,h5,ys,h6,h7⟩:=hat;unfold Tr.ok at aZ;obtain⟨l,fJ,hl2,ud⟩:=Tr.Bz cols CA cc cL ts ys w aZ.2.2.2.2.2 h7 hC;obtain⟨Kc,yv,lj,ir,yA,yn,yc⟩:=y;dsimp only at h1 h2 h3 h4 h5 h6;subst h1 h2 h3 h4 h5;have hlen:l.length=ts.length:=by
    have:(l.map (·.1)).length=ys.length:=by rw[fJ]
    rw[length_map,h7.length] at this;exact this
   have hA:RE w w.heap.size yA (l.map (·.1)):=by rw[fJ];exact h6.old
   have hn:=aZ.2.1;show ar 153 #[aw gp,.agg #[ag Kc,ag yv.k,af yv.n,.string yv.s,.string lj,af ir,.slice yA ts.length yc]] w λ e w'=>e=.returned (.tuple #[ag (fZ cols Kc ts).1,af (fZ cols Kc ts).2])/\aj w w'
   unfold fZ;rw[<- hl2];rcases oQ l with h0 |⟨pre,bad,post,rfl,Es,kq⟩
   ·have hf:gJ (l.map (·.2))=0:=qO λ a ha=>by obtain⟨z,hz,rfl⟩:=List.mem_map.1 ha;exact h0 z hz
    rw[if_neg (by rw[hf];decide)];have k:=Vo gp (.slice CA cols.length cc) Kc yv lj ir yA ts.length yc (l.map λ a=>(a.1,a.2.1)) w sy ZI (by rw[length_map];exact hlen) hn Tas (λ a ha=>by
     obtain⟨z,hz,rfl⟩:=List.mem_map.1 ha
     have:=ud z hz
     rw[h0 z hz] at this
     exact this)
    have hm:(l.map λ a=>(a.1,a.2.1)).map (·.2)=(l.map (·.2)).map (·.1):=by simp[Function.comp_def]
    rw[hm] at k;exact k
   ·have hbE:=ud bad Taa;have hf:gJ ((pre++bad::post).map (·.2))=bad.2.2:=by rw[map_append,map_cons];exact xA (λ a ha=>by obtain⟨z,hz',rfl⟩:=List.mem_map.1 ha;exact Es z hz') kq
    rw[if_pos (by rw[hf];exact kq),hf];exact Vl gp (.slice CA cols.length cc) Kc yv lj ir yA ts.length yc (pre.map λ a=>(a.1,a.2.1)) bad.1 bad.2.1 bad.2.2 (post.map (·.1)) w sy ZI (by rw[<- hlen];simp;omega) hn Tas (λ a ha=>by
     obtain⟨z,hz',rfl⟩:=List.mem_map.1 ha
     have:=ud z (by simp[hz'])
     rw[Es z hz'] at this
     exact this) hbE kq
def Qy.all (q:Qy):uF:=q.items.map (·.1)++(q.bF++q.aF++q.fK)++q.ord.map (·.1)
def ma (k:Nat):Tr:=.mk 2 aC (di k) 0 []
structure dp where
 aD:uF
 aF:List aV
def qT (cols:List aV)(v:Val)(name:t_)(width:Int)(n:Nat):Int:=
 let e:=(Tr.type cols (.mk 2 v name width (List.replicate n (.mk 1 aC ByteArray.empty 0 [])))).2
 if e≠0 then e else 42
mutual
def Tr.turn (aF:uF)(cols:List aV):Tr->dp->tE (Tr×dp)
 | .mk op v name width args,s=>
   match aF.findIdx? (λ g=>g.same (.mk op v name width args))with
   | some k=> .ok (ma k,s)
   | none=>
     if isAgg op=true then
      if (fZ cols op args).2≠0 then .error (fZ cols op args).2
      else .ok (ma s.aF.length,⟨s.aD++ [.mk op v name width args],s.aF++ [⟨di s.aF.length,(fZ cols op args).1⟩]⟩)
     else match Tr.turns aF cols args s with
      | .error e=> .error e
      | .ok (ys,s')=>
        if op=2 then .error (qT cols v name width ys.length)
        else if ((Tr.mk op v name width ys).type s'.aF).2≠0 then .error ((Tr.mk op v name width ys).type s'.aF).2
        else .ok (.mk op v name width ys,s')
def Tr.turns (aF:uF)(cols:List aV):uF->dp->tE (uF×dp)
 | [],s=> .ok ([],s)
 | t::ts,s=>match Tr.turn aF cols t s with
   | .error e=> .error e
   | .ok (y,s')=>match Tr.turns aF cols ts s' with
     | .error e=> .error e
     | .ok (ys,LC)=> .ok (y::ys,LC)
end
def mb (g:Bool)(aF:uF)(cols:List aV)(t:Tr)(s:dp):tE (Tr×Int×dp):=
 if g=false then(if (t.type cols).2≠0 then .error (t.type cols).2 else .ok (t,(t.type cols).1,s))
 else match t.turn aF cols s with
  | .error e=> .error e
  | .ok (y,s')=>if (y.type s'.aF).2≠0 then .error (y.type s'.aF).2 else .ok (y,(y.type s'.aF).1,s')
structure ix where
 aI:Bool
 head:List aV
 st:dp
 items:uF
 having:uF
 order:uF
def pd (cols:List aV):uF->tE Unit
 | []=> .ok ()
 | t::ts=>if nH (t.type cols)≠0 then .error (nH (t.type cols))else pd cols ts
def gM (cols:List aV):uF->Nat->tE (List aV)
 | [],_=> .ok []
 | t::ts,k=>if (t.type cols).2≠0 then .error (t.type cols).2 else match gM cols ts (k+1)with
   | .error e=> .error e
   | .ok l=> .ok (⟨di k,(t.type cols).1⟩::l)
def iD (t:Tr)(nm:t_):t_:=if nm.size=0/\t.op=2 then t.name else nm
def cC (g:Bool)(aF:uF)(cols:List aV):List (Tr×t_)->dp->tE (uF×List aV×dp)
 | [],s=> .ok ([],[],s)
 |(t,nm)::l,s=>match mb g aF cols t s with
  | .error e=> .error e
  | .ok (y,k,s')=>match cC g aF cols l s' with
    | .error e=> .error e
    | .ok (ys,hd,LC)=> .ok (y::ys,⟨iD t nm,k⟩::hd,LC)
def dm (g:Bool)(aF:uF)(cols:List aV):uF->dp->tE (uF×dp)
 | [],s=> .ok ([],s)
 | t::l,s=>match mb g aF cols t s with
   | .error e=> .error e
   | .ok (y,k,s')=>if cf k 1=false then .error 40 else match dm g aF cols l s' with
     | .error e=> .error e
     | .ok (ys,LC)=> .ok (y::ys,LC)
def dX (g:Bool)(aF:uF)(cols:List aV):List (Tr×Bool)->dp->tE (uF×dp)
 | [],s=> .ok ([],s)
 |(t,_)::l,s=>match mb g aF cols t s with
  | .error e=> .error e
  | .ok (y,_,s')=>match dX g aF cols l s' with
    | .error e=> .error e
    | .ok (ys,LC)=> .ok (y::ys,LC)
def dV (q:Qy)(cols:List aV):tE ix:=
 if 1 < q.bF.length\/1 < q.fK.length\/1 < q.lim.length\/(q.lim.length=1/\q.lim.getD 0 0 < 0)then .error 1
 else if q.all.any (λ t=>decide (32 < t.depth))=true then .error 1
 else match pd cols q.bF with
 | .error e=> .error e
 | .ok _=>match gM cols q.aF 0 with
 | .error e=> .error e
 | .ok gc=>if q.items=[]/\q.aI=true then .error 42
 else match cC q.aI q.aF cols q.items ⟨[],gc⟩with
 | .error e=> .error e
 | .ok (is,hd,s1)=>match dm q.aI q.aF cols q.fK s1 with
 | .error e=> .error e
 | .ok (hs,s2)=>match dX q.aI q.aF cols q.ord s2 with
 | .error e=> .error e
 | .ok (os,s3)=> .ok ⟨q.aI,if q.items=[] then cols else hd,s3,is,hs,os⟩
def br (cols:List aV)(row:v_)(l:uF):tE (v_):=
 if bQ (Tr.eP cols row l)≠0 then .error (bQ (Tr.eP cols row l))else .ok ((Tr.eP cols row l).map (·.1))
def eK (cols:List aV)(l:uF)(row:v_):Bool×Int:=match l with
 | []=>(true,0)
 | t::_=>vC (t.eval cols row)
def cT (cols:List aV)(l:uF)(rows:y_):y_×Int:=
 (rows.filter λ r=>(eK cols l r).2==0 &&(eK cols l r).1,bU (rows.map λ r=>(eK cols l r).2))
def FJ (c:aV)(v:Val):Bool:=good v &&(v.k==0 || v.k==c.t)
def iE:List aV->v_->Bool
 | [],[]=>true
 | c::cs,v::vs=>FJ c v && iE cs vs
 | _,_=>false
noncomputable def dG (s:St):Val×Int:=open Classical in if h:∃r:Val×Int,fM s r.1 r.2/\r.1.Ok then Classical.choose h else if h:∃r:Val×Int,fM s r.1 r.2 then Classical.choose h else(aC,0)
theorem vP{s:St}(h:∃v e,fM s v e):fM s (dG s).1 (dG s).2:=by
 obtain⟨v,e,hv⟩:=h;have h':∃r:Val×Int,fM s r.1 r.2:=⟨(v,e),hv⟩;by_cases h2:∃r:Val×Int,fM s r.1 r.2/\r.1.Ok
 ·unfold dG;rw[dif_pos h2];exact(Classical.choose_spec h2).1
 ·unfold dG;rw[dif_neg h2,dif_pos h'];exact Classical.choose_spec h'
theorem acu{s:St}(h:∃v e,fM s v e/\v.Ok):(dG s).1.Ok:=by obtain⟨v,e,hv⟩:=h;have h':∃r:Val×Int,fM s r.1 r.2/\r.1.Ok:=⟨(v,e),hv⟩;unfold dG;rw[dif_pos h'];exact(Classical.choose_spec h').2
def gh:uF->v_->List (Val×Val)
 | [],_=> []
 | t::ts,l=>(if 0 < t.args.length then l.getD 0 aC else aC,if 1 < t.args.length then l.getD 1 aC else aC)::gh ts (l.drop t.args.length)
def iF (l:y_):y_:=yR bR l
def eu (i:Nat)(l:List (v_×List (Val×Val)))(k:v_):List (Val×Val):=(l.filter λ r=>bR r.1 k==0).map λ r=>r.2.getD i (aC,aC)
noncomputable def cD (ops:List Int) (l:List (v_×List (Val×Val))) (k:v_):List (Val×Int):=(List.range ops.length).map λ i=>dG (cy (ops.getD i 0) (eu i l k))
noncomputable def jk (ng:Nat) (aD:uF) (l:y_):tE (y_):=
 let ps:=l.map λ r=>(r.take ng,gh aD (r.drop ng))
 let ks:=if ng=0 then [[]] else iF (ps.map (·.1))
 let e:=bU (ks.map λ k=>bQ (cD (aD.map Tr.op) ps k))
 if e≠0 then .error e else .ok (ks.map λ k=>k++(cD (aD.map Tr.op) ps k).map (·.1))
variable{α:Type}
def zW(l:List (tE α)):tE (List α):=
 if bU (l.map λ | .error e=>e | .ok _=>0)≠0 then .error (bU (l.map λ | .error e=>e | .ok _=>0))else .ok (l.filterMap λ | .ok x=>some x | .error _=>none)
structure fg where
 row:v_
 keys:v_
def ZN (d:Bool)(a b:Val):Int:=if d=true then -(bM a b)else bM a b
def vQ:List Bool->v_->v_->Int
 | [],_,_=>0
 | d::ds,a,b=>oB (ZN d (a.headD aC) (b.headD aC)) (vQ ds a.tail b.tail)
def BR (ds:List Bool)(a b:fg):Int:=oB (vQ ds a.keys b.keys) (bR a.row b.row)
def mf (ds:List Bool)(l:List fg):List fg:=ZF (BR ds) l
noncomputable def vR (q:Qy) (p:ix) (cols:List aV) (rows:y_):tE (y_):=
 if (cT cols q.bF rows).2≠0 then .error (cT cols q.bF rows).2
 else if p.aI=false then .ok (cT cols q.bF rows).1
 else match zW ((cT cols q.bF rows).1.map λ r=>br cols r (q.aF++p.st.aD.flatMap Tr.args))with
 | .error e=> .error e
 | .ok l=>match jk q.aF.length p.st.aD l with
   | .error e=> .error e
   | .ok gs=>if (cT p.st.aF p.having gs).2≠0 then .error (cT p.st.aF p.having gs).2 else .ok (cT p.st.aF p.having gs).1
def ie (p:ix)(cols:List aV):List aV:=if p.aI=true then p.st.aF else cols
def vS (p:ix)(r l:v_):fg:=⟨if p.items=[] then r else l.take p.items.length,l.drop p.items.length⟩
noncomputable def xM (p:ix) (cols:List aV) (rows:y_):tE (List fg):=
 zW (rows.map λ r=>match br (ie p cols) r (p.items++p.order)with | .error e=> .error e | .ok l=> .ok (vS p r l))
noncomputable def jx (q:Qy) (cols:List aV) (rows:y_):tE (List aV×y_):=
 match dV q cols with
 | .error e=> .error e
 | .ok p=>if rows.any (λ r=> !iE cols r)=true then .error 40
   else match vR q p cols rows with
   | .error e=> .error e
   | .ok left=>match xM p cols left with
     | .error e=> .error e
     | .ok ls=> .ok (p.head,((match q.lim with | []=>mf (q.ord.map λ o:Tr×Bool=>o.2) ls | n::_=>(mf (q.ord.map λ o:Tr×Bool=>o.2) ls).take n.toNat).map fg.row))
def acv (gb:Nat)(b e:Int)(w:rQ)(en:Ending)(w':rQ):Prop:=en=.returned (.bool (e==0))/\aB w' gb 84 #[af (jw b e)]/\w.grownBy w' (some gb)
theorem BS{b:Int}:jw b 0=b:=if_neg (λ h=>h.1 rfl)
theorem ZO(h:e≠0):jw 0 e=e:=if_pos ⟨h,.inl rfl⟩
theorem Vr{b:Int}(h:e≠0)(hb:b≠0):jw b e=if e < b then e else b:=by
 unfold jw;by_cases h1:e < b
 ·rw[if_pos ⟨h,.inr h1⟩,if_pos h1]
 ·rw[if_neg (λ h2=>h2.2.elim hb h1),if_neg h1]
theorem vT (gb:Nat)(b e:Int)(w:rQ)(h:aB w gb 84 #[af b]):ar 36 #[aw gb,af e] w (acv gb b e w):=by
 have hg:=aO (p:=gb) (Below.refl w.heap.size w);have hc:=h.cell 0;have hf:=h.frozen 0;simp only[getElem?_toArray,getElem?_cons_zero] at hc;by_cases h0:e=0
 ·subst h0;have H:=aa h;clear h;go_enter Tryz.func36,Tryz.ntmps36;go_wp2_with fail;go_ret;exact⟨rfl,by rw[BS];exact H.ae,hg⟩
 have t1:(e==0)=false:=by simp[h0]
 have t2:(e != 0)=true:=by simp[h0]
 have t3:decide (e=0)=false:=by simp[h0]
 by_cases hb:b=0
 ·subst hb;have H:=aa h;have HP:=aa (ZO h0);have T1:=aa t1;clear h h0;exact ZeW
 have u1:(b==0)=false:=by simp[hb]
 have u3:decide (b=0)=false:=by simp[hb]
 have hp:=Vr h0 hb;by_cases hl:e < b
 ·rw[if_pos hl] at hp;have v1:=decide_eq_true hl;have H:=aa h;have HP:=aa hp;have T1:=aa t1;clear h h0 hb hp hl;exact ZeW
 ·rw[if_neg hl] at hp;have v1:=decide_eq_false hl;have H:=aa h;have HP:=aa hp;have T1:=aa t1;clear h h0 hb hp hl;go_enter Tryz.func36,Tryz.ntmps36;go_wp2_with fail;go_ret;exact⟨by rw[T1.ae];rfl,by rw[HP.ae];exact H.ae,hg⟩
def cq (r:aX):wL:=[.slice r.A r.l.length r.c]
variable{base base':Nat}
theorem aH.down{f:α->wL} {e:TypeId} {size:Nat} {w:rQ}  {v:Value} {l:List α}(h:aH f e size w base v l)(hb:base'<=base):aH f e size w base' v l:=by
 obtain⟨h1,h2⟩:=h;refine⟨h1,?_⟩;rcases h2 with h2 |⟨g,cap,cur,h3,h4,h5⟩
 ·exact .inl h2
 ·exact .inr ⟨g,cap,cur,h3,Nat.le_trans hb h4,h5⟩
theorem qU:(Tryz.prog.info? 38).map (λ i=>(i.zero,i.size,i.bytes))=some (some (ay),1,24):=by exact ZgH
def jE (f:v_->Bool×Int)(rs:List aX):List aX:=rs.filter λ r=>(f r.l).2==0 &&(f r.l).1
theorem Px (f:v_->Bool×Int)(rs:List aX)(r:aX):jE f (rs++ [r])=jE f rs++(if ((f r.l).2==0 &&(f r.l).1)=true then [r] else []):=by unfold jE;rw[filter_append];congr 1;rw[filter_cons];rfl
theorem qV (l:List Int)(e:Int):bU (l++ [e])=jw (bU l) e:=by unfold bU;rw[foldl_append];rfl
variable{wr w2:rQ}
theorem dS{w:rQ} {g:Nat}(h:aj w wr)(hg:wr.grownBy w2 (some g))(hB:w.heap.size<=g):aj w w2:=
 h.trans ⟨hg.os,hg.tape,hg.output,hg.size,λ k hk=>hg.block k (Nat.lt_of_lt_of_le hk h.size) (λ e=>by injection e with e;omega)⟩
def acw (kv:Value)(gb:Nat)(le:Int):Nat->rQ->Value->Prop
 | 0,_,v=>v=kv
 | 1,_,v=>v=aw gb
 | 2,_,v=>v=af le
 | 3,_,v=>v=kv
 | 4,_,v=>v=af le
 | _,_,_=>False
theorem BU (kv:Value)(gb:Nat)(le:Int):∀i w w' v,acw kv gb le i w v->ai w w'->acw kv gb le i w' v:=by exact Zgv
theorem zhp.Kb9(h:p:=by have IC:=ai.then hb hL;have HK5:=HC.ae.later hL;go_wp2_with fail;exact bodyPost_ret (v:=.tuple #[u9,af FK]) (by simp[results,Tryz.results32,go_sem]) rfl ⟨_,by rw[NZ.ae],HK5.down (Nat.le_of_lt HS0.ae),IC⟩):p:=h
theorem ZP (lV cV:Value)(f:v_->Bool×Int)(rows:List aX)(RA:z_)(rc:Nat)(w:rQ)(hr:rows.length<=1000000)(hR:RR w w.heap.size RA rows)
  (hT:∀r∈rows,∀W1,aj w W1->ar 16 #[lV,cV,.slice r.A r.l.length r.c] W1 λ e w'=>e=.returned (.tuple #[.bool (f r.l).1,af (f r.l).2])/\aj W1 w'):
  ar 32 #[lV,cV,.slice RA rows.length rc] w λ e w'=>∃v,e=.returned (.tuple #[v,af (bU (rows.map λ r=>(f r.l).2))])/\aH cq 38 1 w' w.heap.size v (jE f rows)/\aj w w':=by
 have HR:=aa hR;have HT:=aa hT;clear hR hT;have HX:=aB.new w 84 #[af 0];have h2:=ah w (.cells #[af 0] 84);have HS0:=aa (show w.heap.size <(w.alloc (.cells #[af 0] 84)).heap.size by rw[World.size_alloc];omega);go_enter Tryz.func32,Tryz.ntmps32;go_upto_region 2 with fail;generalize w.alloc _=W1 at*;obtain⟨g,hg⟩:∃g,g=w.heap.size:=⟨_,rfl⟩;rw[<- hg] at HX ⊢;have wC:=aa hg;clear hg;have H1:=aa HX;have H2:=aa h2;clear HX h2;go_wp2_with fail;go_loopw [9,16] (λ kv i wr=>∃k:Nat,k<=rows.length/\i=af k/\aH cq 38 1 wr W1.heap.size kv (jE f (rows.take k))/\aB wr g 84 #[af (bU ((rows.take k).map λ r=>(f r.l).2))]/\aj w wr/\W1.heap.size<=wr.heap.size) (λ _ i _=>rows.length - (intOf i).toNat);case atStart=>exact⟨0,Nat.zero_le _,rfl,aH.nil,H1.ae,H2.ae,Nat.le_refl _⟩
 case round=>
  clear H1 H2;obtain⟨k,hk,rfl,hK,hL,hb,hs⟩:=hrel;have HC:=aa hK;have HK:=aa hL;clear hK hL;by_cases hlt:k < rows.length
  ·obtain⟨b,off,rfl,kM,hcell⟩:=(HR.ae.below hb).at_ hlt;have ht:=HT.ae rows[k] (getElem_mem hlt);have mW:=aa (show rows.take (k+1)=rows.take k++ [rows[k]] by rw[take_add_one,getElem?_eq_getElem hlt];rfl);generalize rows[k]=r at*;have nI:=aa (show jE f (rows.take (k+1))=jE f (rows.take k)++(if ((f r.l).2==0 &&(f r.l).1)=true then [r] else []) by rw[mW.ae,Px]);have Py:=aa (show bU ((rows.take (k+1)).map λ r=>(f r.l).2)=jw (bU ((rows.take k).map λ r=>(f r.l).2)) (f r.l).2 by rw[mW.ae,map_append];exact qV _ _);have tH:(jE f (rows.take k)).length<=1000000:=Nat.le_trans (length_filter_le _ _) TaU;generalize jE f (rows.take k)=ks at*;generalize bU ((rows.take k).map λ r=>(f r.l).2)=FK at*;clear mW;obtain⟨is,amX⟩:∃is,is=(f r.l).1:=⟨_,rfl⟩;obtain⟨er,her⟩:∃er,er=(f r.l).2:=⟨_,rfl⟩;rw[<- amX,<- her] at ht nI;rw[<- her] at Py;have oM:=aa ht;clear ht amX her;have ZQ:=hcell.1;clear hcell;go_wp2_with fail;refine(oM.ae _ hb).mono ?_;rintro e w1 ⟨rfl,b1⟩;have hb1:=ai.then hb b1;replace HC:=aa (HC.ae.later b1);replace HK:=aa (HK.ae.later b1);replace hs:=Nat.le_trans hs b1.size;clear b1 oM ZQ hb;go_wp2_with fail;refine(vT g FK er _ HK.ae).mono ?_;rintro e W2 ⟨rfl,hl2,hg2⟩;have hne:=HC.ae.other HK.ae V0;replace HC:=aa (HC.ae.grown hg2 hne);have hb2:=dS hb1 hg2 TaQ;replace hs:=Nat.le_trans hs hg2.size;replace HK:=aa hl2;clear hg2 hne hb1 hl2;by_cases he:er=0
   ·subst he;cases is
    ·go_wp2_with fail;go_roundw;case rel=>exact⟨k+1,hlt,by go_num,by rw[nI.ae];simpa using HC.ae,by rw[Py.ae];exact HK.ae,hb2,hs⟩
     case measure=>exact ZaU
    ·go_upto_region 8 with fail;have hB:=ah W2 (.cells #[.slice r.A r.l.length r.c] 38);have hG:=aB.new W2 38 #[.slice r.A r.l.length r.c];have hb3:=ai.then hb2 hB
     replace HC:=aa (HC.ae.later hB);replace HK:=aa (HK.ae.later hB);have hbase:=Nat.le_trans hs hB.size;have HG:=aa hG;have hne:=HC.ae.other HK.ae V0;have nO:=aa hne;have HS:=aa hbase;clear hG hB hne;go_wp2_with (first
      |(at_builtin
        refine aS rfl (.tmp 32) (.tmp 34) 29 rfl _ 24 Tryz.underlying29 qU rfl TD r rfl TaA rfl HC.ae W2.heap.size rfl HG.ae TD TD hbase ?_
        intro v4 w4 o4 g4
        have b4:=bj HC.ae g4 hbase
        have L4:=aa (HK.ae.grown g4 (Ne.symm nO.ae))
        have s4:=Nat.le_trans HS.ae g4.size
        have O4:=aa o4
        clear o4 g4 HC HG HK))
     go_roundw;case rel=>exact⟨k+1,hlt,by go_num,by rw[nI.ae];simpa using O4.ae,by rw[Py.ae];exact L4.ae,hb3.trans (b4.mono (Nat.le_of_lt HS0.ae)),s4⟩
     case measure=>exact ZaU
   ·have t1:(er==0)=false:=by simp[he]
    have T1:=aa t1;clear he;go_wp2_with fail;go_roundw;case rel=>exact⟨k+1,hlt,by go_num,by rw[nI.ae,T1.ae];simpa using HC.ae,by rw[Py.ae];exact HK.ae,hb2,hs⟩
    case measure=>exact ZaU
  ·have lT:rows.take k=rows:=take_of_length_le TD;rw[lT] at HC HK;have Lz:=aa (show bU (rows.map λ r=>(f r.l).2)=bU (rows.map λ r=>(f r.l).2)from rfl);generalize hle:bU (rows.map λ r=>(f r.l).2)=FK at*;clear Lz;have NZ:=aa hle;clear hle;go_upto_region 10 with fail;refine bz 5 (acw u9 g FK) (BU _ _ _) WC WC WC ?_ ?_
   ·exact Zeu
   intro W3 hL;simp only[Uab];rintro a0 - a1 - a2 - a3 q3 FI Vn;replace q3:u9=a3:=Eq.symm q3;open zhp in exact Zf9
def bD (y:Ex):wL:=[ag y.op,ag y.v.k,af y.v.n,.string y.v.s,.string y.name,af y.width,.slice y.A y.n y.c]
theorem gC:(Tryz.prog.info? 46).map (λ i=>(i.zero,i.size,i.bytes))=some (some (.agg dt),7,88):=by exact ZgH
theorem ZR (n:Nat)(hn:n<=1000000)(w:rQ):ar 69 #[ay,af n] w λ e w'=>∃v,e=.returned v/\aH bD 46 7 w' w.heap.size v []/\aj w w':=by
 have hb:=Below.refl w.heap.size w;by_cases h0:n=0
 ·subst h0;go_enter Tryz.func69,Tryz.ntmps69;go_wp2_with fail;go_ret;exact⟨_,rfl,aH.nil,hb⟩
 obtain⟨i0,kL,hz0,hz1,hz2⟩:=info_parts gC;have hrun:=Lib.run_append_nil_zeros (P:=Tryz.prog) w 23 3 23 46 i0 _ .i64 .i64 Tryz.underlying23 Tryz.underlying3 kL hz0 n TD (by rw[hz1];decide) TD (by rw[hz2];omega);have vp:=grownCap_ge w n 0 46;have hle:=grownCap_le_maxLen w n 0 46 Tak
 have hown:aH bD 46 7 (w.drew.alloc (.cells (Builtin.zeroCells (Value.agg dt).cells n++Builtin.zeroCells (Value.agg dt).cells (grownCap w n 0 46 - n)) 46)) w.heap.size (aL w.heap.size 0 (grownCap w n 0 46)) []:=by
  refine⟨by simp,.inr ⟨w.heap.size,_,_,rfl,Nat.le_refl _,heap_alloc_new w.drew _,Nat.zero_le _,hle,?_,by simp⟩⟩;rw[Array.size_append,size_zeroCells,size_zeroCells];have e:(Value.agg dt).cells.size=7:=by kernel_rfl
  rw[e,<- Nat.add_mul];congr 1;omega
 have hb2:aj w (w.drew.alloc (.cells (Builtin.zeroCells (Value.agg dt).cells n++Builtin.zeroCells (Value.agg dt).cells (grownCap w n 0 46 - n)) 46)):=hb.drew.alloc (Nat.le_refl _) _;generalize World.alloc w.drew _=W at*;generalize grownCap w n 0 46=cp at*;have hnp:decide ((0:Int)<(n:Int))=true:=decide_eq_true TD;have aCa:decide (0 < n)=true:=decide_eq_true TD;have aus:=aa hrun;have aut:=aa hown;have fY:=aa hb2;clear hrun hown hb2 h0 hb;go_enter Tryz.func69,Tryz.ntmps69;go_wp2_with (first
  |(at_builtin
    refine Lib.wpList_append_run _ rfl (.tmp 20) (.tmp 21) 23 3 rfl _ _ rfl rfl _ _ aus.ae ?_))
 go_ret;exact⟨_,rfl,aut.ae,fY.ae⟩
end Go.Proofs.YtndgjggokjickaaGreatDoor
namespace Go.Proofs.YtndgjggokjickaaGreatDoor.R
open List
variable{p:Prop}
set_option maxHeartbeats 90000000
set_option maxRecDepth 100000
set_option linter.unusedSimpArgs false
set_option linter.unusedVariables false
def gD (c:UInt8):Bool:=(decide (97<=c)&& decide (c<=122))||(decide (65<=c)&& decide (c<=90))|| c==95
def bB (c:UInt8):Bool:=decide (48<=c)&& decide (c<=57)
def fh (c:UInt8):Bool:=gD c || bB c
def qW (c:UInt8):Bool:=c==32 || c==9 || c==10 || c==13
def ID (c:UInt8):Bool:=decide (65<=c)&& decide (c<=90)
def vU (c:UInt8):UInt8:=if ID c then c+32 else c
def cE:Bool->w_->w_
 | _,[]=> []
 | true,c::r=>if c=10 then cE false r else cE true r
 | false,c::r=>if qW c then cE false r else if c=45/\r.head?=some 45 then cE true r else c::r
def lB (l:w_):Nat:=l.foldl (λ v c=>v*10+(c.toNat - 48)) 0
def vV (l:w_):Bool:=(decide (l.length<=1)|| !(l.head?==some 48))&& decide (lB l<=9223372036854775807)
def gF:w_->Option (w_×w_)
 | []=>none
 | [c]=>if c=39 then some ([],[])else none
 | c::d::r=>if c=39 then(if d=39 then(gF r).map λ x=>(39::x.1,x.2)else some ([],d::r))else(gF (d::r)).map λ x=>(c::x.1,x.2)
def signs:List (w_):=[[60,62],[60,61],[62,61],[40],[41],[44],[42],[43],[45],[47],[37],[61],[60],[62],[59]]
def kS:List (w_)->w_->Option (w_)
 | [],_=>none
 | s::l,r=>if s.isPrefixOf r then some s else kS l r
structure Wd where
 k:Nat
 s:w_
 n:Int
deriving DecidableEq
structure qX where
 w:Wd
 p:Nat
deriving DecidableEq
def iG:w_->Except Nat (Wd×w_)
 | []=> .error 30
 | c::r=>
   if gD c then(if ((c::r).takeWhile fh).length<=32 then .ok (⟨1,((c::r).takeWhile fh).map vU,0⟩,(c::r).dropWhile fh)else .error 2)
   else if bB c then(if vV ((c::r).takeWhile bB)&& !(((c::r).dropWhile bB).head?.any gD)then .ok (⟨2,[],lB ((c::r).takeWhile bB)⟩,(c::r).dropWhile bB)else .error 30)
   else if c=39 then(match gF r with
    | some (t,rest)=> .ok (⟨3,t,0⟩,rest)
    | none=> .error 30)
   else match kS signs (c::r)with
    | some s=> .ok (⟨4,s,0⟩,(c::r).drop s.length)
    | none=> .error 30
def xN (n:Nat):Nat->w_->Except (Nat×Nat) (List qX)
 | 0,_=> .error (0,30)
 | f+1,r=>match cE false r with
   | []=> .ok [⟨⟨0,[],0⟩,n⟩]
   | c::r'=>match iG (c::r')with
     | .error e=> .error (n - (c::r').length,e)
     | .ok (w,rest)=>match xN n f rest with
       | .error e=> .error e
       | .ok l=> .ok (⟨w,n - (c::r').length⟩::l)
def zY (s:w_):Except (Nat×Nat) (List qX):=if 4096 < s.length then .error (0,2)else xN s.length (s.length+1) s
def nJ:List (w_):=[[97,110,100],[97,115],[98,121],[99,97,108,108],[99,114,101,97,116,101],[100,101,108,101,116,101],[100,101,115,99],[100,114,111,112],[102,97,108,115,101],[102,114,111,109],[103,114,111,117,112],[104,97,118,105,110,103],[105,110,115,101,114,116],[105,110,116,111],[105,115],[108,105,109,105,116],[110,111,116],[110,117,108,108],[111,110,108,121],[111,114],[111,114,100,101,114],[115,101,108,101,99,116],[115,101,116],[116,114,117,101],[117,112,100,97,116,101],[118,97,108,117,101,115],[119,104,101,114,101]]
def td (s:w_):Bool:=nJ.contains s
theorem ky:∀(b:Bool) (r:w_),(cE b r).length<=r.length
 | _,[]=>by simp[cE]
 | true,c::r=>by have h1:=ky false r;have h2:=ky true r;simp only[cE];split <;> simp only[length_cons] <;> omega
 | false,c::r=>by
   have h1:=ky false r;have h2:=ky true r;simp only[cE];split
   ·simp only[length_cons];omega
   ·split <;> simp only[length_cons] <;> omega
theorem qY:∀(r:w_) (t rest:w_),gF r=some (t,rest)->∃b,r=b++rest/\b≠ []
 | [],t,rest,h=>by simp[gF] at h
 | [c],t,rest,h=>by
   simp only[gF] at h;split at h
   ·rename_i hc;injection h with h;injection h with h1 h2;subst h1 h2 hc;exact⟨[39],rfl,by simp⟩
   ·cases h
 | c::d::r,t,rest,h=>by
   simp only[gF] at h;split at h
   ·rename_i hc;subst hc;split at h
    ·rename_i hd;subst hd;cases hr:gF r with
     | none=>rw[hr] at h;cases h
     | some x=>obtain⟨t',rest'⟩:=x;rw[hr] at h;simp only[Option.map_some,Option.some.injEq,Prod.mk.injEq] at h;obtain⟨rfl,rfl⟩:=h;obtain⟨b,hb,_⟩:=qY r t' _ hr;exact⟨39::39::b,by rw[hb];rfl,by simp⟩
    ·injection h with h;injection h with h1 h2;subst h1 h2;exact⟨[39],rfl,by simp⟩
   ·cases hr:gF (d::r)with
    | none=>rw[hr] at h;cases h
    | some x=>obtain⟨t',rest'⟩:=x;rw[hr] at h;simp only[Option.map_some,Option.some.injEq,Prod.mk.injEq] at h;obtain⟨rfl,rfl⟩:=h;obtain⟨b,hb,_⟩:=qY (d::r) t' _ hr;exact⟨c::b,by rw[hb];rfl,by simp⟩
theorem qZ:∀ {l:List (w_)} {r s:w_},kS l r=some s->s∈l/\s <+: r
 | [],r,s,h=>by simp[kS] at h
 | x::l,r,s,h=>by
   simp only[kS] at h;split at h
   ·rename_i hp;injection h with h;subst h;exact⟨mem_cons_self,by simpa using hp⟩
   ·obtain⟨h1,h2⟩:=qZ h;exact⟨mem_cons_of_mem _ h1,h2⟩
variable{r rest:w_}
theorem BV{w:Wd}(h:iG r=.ok (w,rest)):∃b,r=b++rest/\b≠ []:=by
 match r with
 | []=>simp[iG] at h
 | c::r=>
   simp only[iG] at h;split at h
   ·rename_i hc;split at h
    ·injection h with h;injection h with h1 h2;subst h1 h2;refine⟨_,(takeWhile_append_dropWhile (p:=fh)).symm,?_⟩;have:fh c=true:=by simp[fh,hc]
     simp[takeWhile_cons,this]
    ·cases h
   ·split at h
    ·rename_i hc;split at h
     ·injection h with h;injection h with h1 h2;subst h1 h2;refine⟨_,(takeWhile_append_dropWhile (p:=bB)).symm,?_⟩;simp[takeWhile_cons,hc]
     ·cases h
    ·split at h
     ·split at h
      ·rename_i t rest' ht;injection h with h;injection h with h1 h2;subst h1 h2;obtain⟨b,hb,_⟩:=qY _ _ _ ht;exact⟨c::b,by rw[hb];rfl,by simp⟩
      ·cases h
     ·split at h
      ·rename_i s hs;injection h with h;injection h with h1 h2;subst h1 h2;obtain⟨h1,t,h2⟩:=qZ hs;refine⟨s,?_,?_⟩
       ·rw[<- h2];simp
       ·intro e;subst e;revert h1;decide
      ·cases h
theorem AD{w:Wd}(h:iG r=.ok (w,rest)):rest.length < r.length:=by obtain⟨b,rfl,hb⟩:=BV h;have:0 < b.length:=List.length_pos_iff.2 hb;simp;omega
theorem FL (n:Nat):∀(f g:Nat) (r:w_),r.length < f->r.length < g->xN n f r=xN n g r
 | 0,_,_,h,_=>by omega
 | _,0,_,_,h=>by omega
 | f+1,g+1,r,hf,hg=>by
   have hs:=ky false r;simp only[xN];cases hk:cE false r with
   | nil=>rfl
   | cons c r'=>
     rw[hk] at hs;simp only;cases ho:iG (c::r')with
     | error e=>rfl
     | ok x=>obtain⟨w,rest⟩:=x;have:=AD ho;simp only;rw[FL n f g rest TD TD]
structure Val where
 k:Int
 n:Int
 s:t_
inductive Tr where
 | mk (op:Int) (v:Val) (name:t_) (width:Int) (args:List Tr)
def jQ:Val:=⟨0,0,ByteArray.empty⟩
def AE (op:Int)(l:List Tr):Tr:=.mk op jQ ByteArray.empty 0 l
def tq (v:Val):Tr:=.mk 1 v ByteArray.empty 0 []
def ui (n:t_):Tr:=.mk 2 jQ n 0 []
def ahV:w_:=[111,114]
def ZT:w_:=[97,110,100]
def ZU:w_:=[110,111,116]
def acx:w_:=[105,115]
def ZV:w_:=[110,117,108,108]
def Pz:w_:=[116,114,117,101]
def AG:w_:=[102,97,108,115,101]
def fF:w_:=[115,101,108,101,99,116]
def xO:w_:=[102,114,111,109]
def ahW:w_:=[111,110,108,121]
def IE:w_:=[119,104,101,114,101]
def AH:w_:=[103,114,111,117,112]
def PA:w_:=[98,121]
def ZW:w_:=[104,97,118,105,110,103]
def IG:w_:=[111,114,100,101,114]
def IH:w_:=[108,105,109,105,116]
def PB:w_:=[100,101,115,99]
def acy:w_:=[97,115]
def BW:w_:=[98,117,99,107,101,116]
def II:w_:=[99,111,117,110,116]
def ZX:w_:=[115,117,109]
def afJ:w_:=[109,105,110]
def afK:w_:=[109,97,120]
def afL:w_:=[97,118,103]
def SL:w_:=[102,105,114,115,116]
def ZY:w_:=[108,97,115,116]
def dN:w_:=[44]
def eL:w_:=[40]
def eF:w_:=[41]
def ahX:w_:=[59]
def xP:w_:=[42]
def sB:w_:=[45]
def PD:w_:=[43]
def IJ:w_:=[47]
def xQ:w_:=[37]
def amY:w_:=[61]
def amZ:w_:=[60,62]
def ana:w_:=[60]
def anb:w_:=[60,61]
def ahY:w_:=[62]
def anc:w_:=[62,61]
structure Qu where
 items:List (Tr×t_):=[]
 bT:t_:=ByteArray.empty
 only:Bool:=false
 bF:List Tr:=[]
 group:List Tr:=[]
 having:List Tr:=[]
 order:List (Tr×Bool):=[]
 dA:List Int:=[]
structure St where
 kind:Int:=0
 name:t_:=ByteArray.empty
 cols:List (t_×Int):=[]
 time:t_:=ByteArray.empty
 every:Int:=0
 space:t_:=ByteArray.empty
 parts:Int:=0
 query:Qu:= {}
 what:Int:=0
 of_:t_:=ByteArray.empty
 a:Int:=0
 b:Int:=0
 rows:List (List Tr):=[]
 ahZ:List (t_×Tr):=[]
 bF:List Tr:=[]
 bT:Val:=jQ
 eM:Val:=jQ
abbrev dH:=List Wd
def Ps (α:Type):Type:=dH->Except Nat (α×dH)
instance:Monad Ps where
 pure x:=λ l=> .ok (x,l)
 bind p f:=λ l=>match p l with
  | .error n=> .error n
  | .ok (x,r)=>f x r
def jg (s:w_)(t:Wd):Bool:=(t.k==1 || t.k==4)&& t.s==s
def dK (s:w_):dH->Bool
 | []=>false
 | t::_=>jg s t
def may (s:w_):Ps Bool:=λ l=>if dK s l then .ok (true,l.tail)else .ok (false,l)
def must (s:w_):Ps Unit:=λ l=>if dK s l then .ok ((),l.tail)else .error l.length
def vX:Ps t_
 | []=> .error 0
 | t::r=>if t.k=1/\td t.s=false then .ok (⟨t.s.toArray⟩,r)else .error (t::r).length
def IK:Ps Int
 | []=> .error 0
 | t::r=>if t.k=2 then .ok (t.n,r)else .error (t::r).length
def opsL:Nat->List (w_×Int)
 | 0=> [(ahV,17)]
 | 1=> [(ZT,16)]
 | 3=> [(amY,10),(amZ,11),(ana,12),(anb,13),(ahY,14),(anc,15)]
 | 4=> [(PD,5),(sB,6)]
 | 5=> [(xP,7),(IJ,8),(xQ,9)]
 | _=> []
def ZZ:List (w_×Int)->dH->Option Int
 | [],_=>none
 |(s,o)::k,l=>if dK s l then some o else ZZ k l
def PE:List (w_×Int):=[(BW,20),(II,22),(ZX,23),(afJ,24),(afK,25),(afL,26),(SL,27),(ZY,28)]
def mg (n:t_):Option Int:=PE.lookup n.data.toList
mutual
def Tr.depth:Tr->Nat
 | .mk _ _ _ _ args=>Tr.iP args+1
def Tr.iP:List Tr->Nat
 | []=>0
 | t::l=>max t.depth (Tr.iP l)
end
def Qu.exprs (q:Qu):List Tr:=q.items.map (·.1)++q.bF++q.group++q.having++q.order.map (·.1)
def St.exprs (s:St):List Tr:=s.rows.flatten++s.ahZ.map (·.2)++s.bF++s.query.exprs
variable{α β:Type}
theorem acz(p:Ps α)(f:α->Ps β)(l:dH):(p >>= f) l=match p l with | .error n=> .error n | .ok (x,r)=>f x r:=rfl
def yX (l:dH):Prop:=∃x e,l=x++ [e]/\e.k=0
variable{t:Wd}
theorem yX.tail{r:dH}(h:yX (t::r))(ht:t.k≠0):yX r:=by
 obtain⟨x,e,hx,he⟩:=h
 match x with
 | []=>simp at hx;exact absurd (hx.1▸he) ht
 | y::x=>simp at hx;exact⟨x,e,hx.2,he⟩
theorem yX.pos{l:dH}(h:yX l):0 < l.length:=by obtain⟨x,e,rfl,_⟩:=h;simp
theorem ane{s:w_} (h:jg s t=true):t.k≠0:=by unfold jg at h;simp at h;omega
theorem LD{s:w_} {l:dH}(h:dK s l=true):∃t r,l=t::r/\jg s t=true:=by
 match l with
 | []=>simp[dK] at h
 | t::r=>exact⟨t,r,rfl,h⟩
open Go.RowKit
section
variable {w w':rQ} {g:Nat} {t:TypeId} {cs:x_}
theorem _root_.Go.Proofs.YtndgjggokjickaaGreatDoor.aB.drewN (h:aB w g t cs)(n:Nat):aB (w.drewN n) g t cs:=h
end
variable{B:Nat}
theorem dS{p:Nat} {a b:rQ}(h:a.grownBy b (some p))(hB:B<=a.heap.size)(hp:B<=p):Below B a b:=
 ⟨h.os,h.tape,h.output,h.size,λ k hk=>h.block k TD (λ e=>by injection e with e;omega)⟩
section
variable {α:Type} {f:α->wL} {e:TypeId} {size:Nat} {w w':rQ} {base:Nat} {v:Value} {l:List α}
end
section
variable {P:Program} {l zs:List Oper} {Q:yD} {R:rQ->rQ->Prop} {V:Nat->rQ->Value->Prop} {a0:Act} {w0:rQ}
end
instance (B:Nat) (w0:rQ):Nonempty (Ext B w0):=⟨⟨w0,Below.refl _ _⟩⟩
section
variable {P:Program} {o:Oper} {ρ:Operand->Value} {w:rQ} {T:Value->rQ->Prop}
end
section
variable {α:Type} {f:α->wL} {e:TypeId} {size:Nat} {base:Nat} {lv:Value} {l:List α} {y:α}
theorem yY {a b:rQ}(h:a.grownBy b none):aj a b:=⟨h.os,h.tape,h.output,h.size,λ k hk=>h.block k hk Taa⟩
end
section
variable {P:Program} {l zs:List Oper} {Q:yD} {R:rQ->rQ->Prop} {V:Nat->rQ->Value->Prop} {U:Nat->rQ->(Operand->Value)->Prop} {a0:Act} {w0:rQ}
end
open Go.ChangeShapes Go.WideShapes Go.ChangeAt
theorem jX{w:rQ} {p:Addr} {v:Value}(h:w.cell? p=some v):p.block < w.heap.size:=by
 rcases Nat.lt_or_ge p.block w.heap.size with hlt | vp
 ·exact hlt
 ·unfold World.cell? at h;rw[Array.getElem?_eq_none vp] at h;simp at h
def strOf (l:w_):Value:=.string ⟨l.toArray⟩
theorem xR{f:α->wL} {size:Nat}(hf:∀x,(f x).length=size):∀(l:List α) (k:Nat) (x:α),l[k]?=some x->∀r u,(f x)[r]?=some u->(l.flatMap f)[k*size+r]?=some u
 | [],k,x,h,_,_,_=>by simp at h
 | y::l,0,x,h,r,u,hu=>by
   simp at h;subst h;have hr:r <(f y).length:=by
    rcases Nat.lt_or_ge r (f y).length with h' | h'
    ·exact h'
    ·rw[getElem?_eq_none h'] at hu;cases hu
   rw[Nat.zero_mul,Nat.zero_add,flatMap_cons,getElem?_append_left hr];exact hu
 | y::l,k+1,x,h,r,u,hu=>by have:=xR hf l k x Tai r u hu;rw[flatMap_cons,getElem?_append_right (by rw[hf,Nat.succ_mul];omega),hf];rw[show(k+1)*size+r - size=k*size+r by rw[Nat.succ_mul];omega];exact this
section
variable {α:Type} {f:α->wL} {e:TypeId} {size:Nat} {w w':rQ} {base:Nat} {v:Value} {l:List α}
theorem _root_.Go.Proofs.YtndgjggokjickaaGreatDoor.aH.cell (hf:∀x,(f x).length=size)(h:aH f e size w base v l) {k:Nat} {x:α}(ho:l[k]?=some x):
  ∃g c,v=aL g l.length c/\base<=g/\g < w.heap.size/\∀r u,(f x)[r]?=some u->w.cell? ⟨g,k*size+r,none⟩=some u:=by
 have hk:k < l.length:=by exact ZfI
 rcases h.2 with ⟨_,h0⟩|⟨g,cap,cur,rfl,hb,h2,hn,hm,hs,ht⟩
 ·omega
 ·have hlt:g < w.heap.size:=by exact Zfz
  refine⟨g,cap,rfl,hb,hlt,λ r u hu=>?_⟩;have h1:=xR hf l k x ho r u hu;rw[<- ht] at h1
  have Kx:cur[k*size+r]?=some u:=by
   rw[getElem?_take] at h1;split at h1
   ·simpa using h1
   ·cases h1
  unfold World.cell?;simp[h2,Kx]
theorem _root_.Go.Proofs.YtndgjggokjickaaGreatDoor.aH.form (h:aH f e size w base v l):∃A c,v=.slice A l.length c:=by obtain⟨A,c,hv,_⟩:=h.reads;exact⟨A,c,hv⟩
end
structure Ex where
 op:Int
 v:Val
 name:t_
 width:Int
 A:z_
 n:Nat
 c:Nat
def bD (y:Ex):wL:=[ag y.op,ag y.v.k,af y.v.n,.string y.v.s,.string y.name,af y.width,.slice y.A y.n y.c]
def mD (y:Ex):Value:=.agg (bD y).toArray
def RL(f:β->wL)(size:Nat)(w:rQ)(S:Nat->Prop)(A:z_)(l:List β):Prop:=
 l=[]\/∃b off,A=some ⟨b,off,none⟩/\S b/\∀i y j u,l[i]?=some y->(f y)[j]?=some u->w.cell? ⟨b,off+i*size+j,none⟩=some u
variable{w':rQ}{S S':Nat->Prop}
theorem RL.keep{f:β->wL} {size:Nat} {w:rQ}  {A:z_} {l:List β}(h:RL f size w S A l)(hk:∀b,S b->(∀o,w'.cell? ⟨b,o,none⟩=w.cell? ⟨b,o,none⟩)/\S' b):RL f size w' S' A l:=by
 rcases h with h |⟨b,off,h1,h2,h3⟩
 ·exact .inl h
 ·exact .inr ⟨b,off,h1,(hk b h2).2,λ i y j u hy hu=>((hk b h2).1 _).trans (h3 i y j u hy hu)⟩
mutual
def Tr.at_ (w:rQ)(S:Nat->Prop):Tr->Ex->Prop
 | .mk op v name width args,y=>y.op=op/\y.v=v/\y.name=name/\y.width=width/\y.n=args.length/\∃ys,RL bD 7 w S y.A ys/\Tr.aM w S args ys
def Tr.aM (w:rQ)(S:Nat->Prop):List Tr->List Ex->Prop
 | [],ys=>ys=[]
 | t::ts,ys=>∃y ys',ys=y::ys'/\Tr.at_ w S t y/\Tr.aM w S ts ys'
end
mutual
theorem Tr.at_.keep {w w':rQ} {S S':Nat->Prop}(hk:∀b,S b->(∀o,w'.cell? ⟨b,o,none⟩=w.cell? ⟨b,o,none⟩)/\S' b):∀(t:Tr) (y:Ex),t.at_ w S y->t.at_ w' S' y
 | .mk op v name width args,y,h=>by unfold Tr.at_ at h ⊢;obtain⟨h1,h2,h3,h4,h5,ys,h6,h7⟩:=h;exact⟨h1,h2,h3,h4,h5,ys,h6.keep hk,Tr.aM.keep hk args ys h7⟩
theorem Tr.aM.keep {w w':rQ} {S S':Nat->Prop}(hk:∀b,S b->(∀o,w'.cell? ⟨b,o,none⟩=w.cell? ⟨b,o,none⟩)/\S' b):∀(ts:List Tr) (ys:List Ex),Tr.aM w S ts ys->Tr.aM w' S' ts ys
 | [],ys,h=>by unfold Tr.aM at h ⊢;exact h
 | t::ts,ys,h=>by unfold Tr.aM at h ⊢;obtain⟨y,ys',h1,h2,h3⟩:=h;exact⟨y,ys',h1,Tr.at_.keep hk t y h2,Tr.aM.keep hk ts ys' h3⟩
end
theorem Tr.aM.length{w:rQ} :∀ {ts:List Tr} {ys:List Ex},Tr.aM w S ts ys->ys.length=ts.length
 | [],ys,h=>by unfold Tr.aM at h;subst h;rfl
 | t::ts,ys,h=>by unfold Tr.aM at h;obtain⟨y,ys',rfl,_,h3⟩:=h;simp[Tr.aM.length h3]
variable{y:Ex}
theorem Tr.eG{w:rQ}  {t:Tr} (h:t.at_ w S y):Tr.aM w S [t] [y]:=by unfold Tr.aM;exact⟨y,[],rfl,h,by unfold Tr.aM;rfl⟩
variable{u:Tr}{z:Ex}
theorem Tr.acA{w:rQ}  {t:Tr} (h:t.at_ w S y)(k:u.at_ w S z):Tr.aM w S [t,u] [y,z]:=by unfold Tr.aM;exact⟨y,[z],rfl,h,Tr.eG k⟩
theorem Tr.all_nil{w:rQ} :Tr.aM w S [] []:=by unfold Tr.aM;rfl
structure El (α:Type) where
 β:Type
 f:β->wL
 size:Nat
 hf:∀y,(f y).length=size
 rel:rQ->(Nat->Prop)->α->β->Prop
 keep:∀ {w w':rQ} {S S':Nat->Prop} {x:α} {y:β},(∀b,S b->(∀o,w'.cell? ⟨b,o,none⟩=w.cell? ⟨b,o,none⟩)/\S' b)->rel w S x y->rel w' S' x y
inductive mF {α β:Type} (R:α->β->Prop):List α->List β->Prop
 | nil:mF R [] []
 | cons {x:α} {y:β} {l:List α} {m:List β}:R x y->mF R l m->mF R (x::l) (y::m)
variable{R R':α->β->Prop}
theorem mF.imp(h:∀x y,R x y->R' x y):∀ {l:List α} {m:List β},mF R l m->mF R' l m
 | _,_,.nil=> .nil
 | _,_,.cons a b=> .cons (h _ _ a) (b.imp h)
theorem mF.len:∀ {l:List α} {m:List β},mF R l m->m.length=l.length
 | _,_,.nil=>rfl
 | _,_,.cons a b=>by simp[b.len]
theorem mF.append:∀ {l l':List α} {m m':List β},mF R l m->mF R l' m'->mF R (l++l') (m++m')
 | _,_,_,_,.nil,k=>k
 | _,_,_,_,.cons a b,k=> .cons a (b.append k)
theorem mF.one{x:α} {y:β}(h:R x y):mF R [x] [y]:=.cons h .nil
def El.lies(E:El α)(w:rQ)(S:Nat->Prop)(A:z_)(n:Nat)(l:List α):Prop:=n=l.length/\∃ys,RL E.f E.size w S A ys/\mF (E.rel w S) l ys
variable{E:El α}
theorem El.lies.keep{w:rQ}  {A:z_} {n:Nat} {l:List α}(h:E.lies w S A n l)(hk:∀b,S b->(∀o,w'.cell? ⟨b,o,none⟩=w.cell? ⟨b,o,none⟩)/\S' b):E.lies w' S' A n l:=by obtain⟨h1,ys,h2,h3⟩:=h;exact⟨h1,ys,h2.keep hk,h3.imp λ x y=>E.keep hk⟩
theorem El.A7(E:El α)(w:rQ)(S:Nat->Prop):E.lies w S none 0 []:=⟨rfl,[],.inl rfl,.nil⟩
def IL:El Tr:=⟨Ex,bD,7,λ _=>rfl,Tr.at_,λ hk h=>Tr.at_.keep hk _ _ h⟩
def rb:El (Tr×t_):=⟨Ex×t_,λ y=>bD y.1++ [.string y.2],8,λ _=>rfl,λ w S x y=>x.1.at_ w S y.1/\y.2=x.2,λ hk h=>⟨Tr.at_.keep hk _ _ h.1,h.2⟩⟩
def sD:El (Tr×Bool):=⟨Ex×Bool,λ y=>bD y.1++ [.bool y.2],8,λ _=>rfl,λ w S x y=>x.1.at_ w S y.1/\y.2=x.2,λ hk h=>⟨Tr.at_.keep hk _ _ h.1,h.2⟩⟩
def SM:El Int:=⟨Int,λ y=> [af y],1,λ _=>rfl,λ _ _ x y=>y=x,λ _ h=>h⟩
def ju (B:Nat)(w:rQ):Nat->Prop:=λ b=>B<=b/\b < w.heap.size
theorem cell_of_heap{w:rQ} {b:Nat}(h:w'.heap[b]?=w.heap[b]?)(o:Nat):w'.cell? ⟨b,o,none⟩=w.cell? ⟨b,o,none⟩:=by unfold World.cell?;simp only[h]
theorem lJ{g:Nat} {w:rQ}(h:w.grownBy w' (some g))(hg:g < B):∀b,ju B w b->(∀o,w'.cell? ⟨b,o,none⟩=w.cell? ⟨b,o,none⟩)/\ju B w' b:=λ b hb=>
 ⟨cell_of_heap (h.block b hb.2 (λ e=>by injection e with e;have:=hb.1;omega)),hb.1,Nat.lt_of_lt_of_le hb.2 h.size⟩
theorem ja{w:rQ}(h:aj w w'):∀b,ju B w b->(∀o,w'.cell? ⟨b,o,none⟩=w.cell? ⟨b,o,none⟩)/\ju B w' b:=λ b hb=>
 ⟨cell_of_heap (h.block b hb.2),hb.1,Nat.lt_of_lt_of_le hb.2 h.size⟩
variable{q:Nat}
theorem sF{w:rQ}(hq:q < B)(i:Nat)(u:Value):∀b,ju B w b->(∀o,(w.setCell ⟨q,i,none⟩ u).cell? ⟨b,o,none⟩=w.cell? ⟨b,o,none⟩)/\ju B (w.setCell ⟨q,i,none⟩ u) b:=λ b hb=>
 ⟨cell_of_heap (Below.heap_setCell w ⟨q,i,none⟩ u b (by have:=hb.1;simp;omega)),hb.1,by simpa [World.setCell] using hb.2⟩
variable{B':Nat}
theorem jm{w:rQ}(h:B'<=B):∀b,ju B w b->(∀o,w.cell? ⟨b,o,none⟩=w.cell? ⟨b,o,none⟩)/\ju B' w b:=λ b hb=>⟨λ _=>rfl,Nat.le_trans h hb.1,hb.2⟩
section
variable {B B' g q:Nat} {w w':rQ} {t:Tr} {y:Ex}
theorem Tr.at_.grown (h:t.at_ w (ju B w) y)(hg:w.grownBy w' (some g))(hB:g < B):t.at_ w' (ju B w') y:=Tr.at_.keep (lJ hg hB) t y h
theorem Tr.at_.later (h:t.at_ w (ju B w) y)(hb:aj w w'):t.at_ w' (ju B w') y:=Tr.at_.keep (ja hb) t y h
theorem Tr.at_.set (h:t.at_ w (ju B w) y)(hq:q < B)(i:Nat)(u:Value):t.at_ (w.setCell ⟨q,i,none⟩ u) (ju B (w.setCell ⟨q,i,none⟩ u)) y:=Tr.at_.keep (sF hq i u) t y h
theorem Tr.at_.more (h:t.at_ w (ju B w) y)(hB:B'<=B):t.at_ w (ju B' w) y:=Tr.at_.keep (jm hB) t y h
end
section
variable {α:Type} {E:El α} {B B' g q:Nat} {w w':rQ} {A:z_} {n:Nat} {l:List α}
theorem El.lies.more (h:E.lies w (ju B w) A n l)(hB:B'<=B):E.lies w (ju B' w) A n l:=h.keep (jm hB)
end
def Bx (B q:Nat)(w:rQ):Nat->Prop:=λ b=>B<=b/\b < w.heap.size/\b≠q
section
variable {B B' g q:Nat} {w w':rQ} {t:Tr} {y:Ex}
theorem vY (h:w.grownBy w' (some g))(hg:g < B):∀b,Bx B q w b->(∀o,w'.cell? ⟨b,o,none⟩=w.cell? ⟨b,o,none⟩)/\Bx B q w' b:=λ b hb=>
 ⟨cell_of_heap (h.block b hb.2.1 (λ e=>by injection e with e;have:=hb.1;omega)),hb.1,Nat.lt_of_lt_of_le hb.2.1 h.size,hb.2.2⟩
theorem BX (h:aj w w'):∀b,Bx B q w b->(∀o,w'.cell? ⟨b,o,none⟩=w.cell? ⟨b,o,none⟩)/\Bx B q w' b:=λ b hb=>
 ⟨cell_of_heap (h.block b hb.2.1),hb.1,Nat.lt_of_lt_of_le hb.2.1 h.size,hb.2.2⟩
theorem B3 (i:Nat)(u:Value):∀b,Bx B q w b->(∀o,(w.setCell ⟨q,i,none⟩ u).cell? ⟨b,o,none⟩=w.cell? ⟨b,o,none⟩)/\Bx B q (w.setCell ⟨q,i,none⟩ u) b:=λ b hb=>
 ⟨cell_of_heap (Below.heap_setCell w ⟨q,i,none⟩ u b (λ e=>hb.2.2 e)),hb.1,by simpa [World.setCell] using hb.2.1,hb.2.2⟩
theorem PF (hB:B'<=B):∀b,Bx B q w b->(∀o,w.cell? ⟨b,o,none⟩=w.cell? ⟨b,o,none⟩)/\ju B' w b:=λ b hb=>⟨λ _=>rfl,Nat.le_trans hB hb.1,hb.2.1⟩
theorem PG (o:Obj)(hB:B'<=B):∀b,ju B w b->(∀i,(w.alloc o).cell? ⟨b,i,none⟩=w.cell? ⟨b,i,none⟩)/\Bx B' w.heap.size (w.alloc o) b:=λ b hb=>
 ⟨cell_of_heap (Below.heap_alloc w o b hb.2),Nat.le_trans hB hb.1,by have:=hb.2;simp;omega,by have:=hb.2;omega⟩
theorem anf (hq:q < B)(hB:B'<=B):∀b,ju B w b->(∀i,w.cell? ⟨b,i,none⟩=w.cell? ⟨b,i,none⟩)/\Bx B' q w b:=λ b hb=>
 ⟨λ _=>rfl,Nat.le_trans hB hb.1,hb.2,by have:=hb.1;omega⟩
end
variable{G:Nat}{ys:List β}
theorem PH{f:β->wL} {size:Nat}(hf:∀x,(f x).length=size) {w:rQ}   {T:TypeId} (h:aB w G T (ys.flatMap f).toArray)(hS:S G):RL f size w S (some ⟨G,0,none⟩) ys:=by refine .inr ⟨G,0,rfl,hS,λ i y j u hy hu=>?_⟩;have:=xR hf ys i y hy j u hu;have hc:=h.cell (i*size+j);rw[Nat.zero_add,hc];exact ZeR
theorem rp (y:Ex):(bD y).length=7:=rfl
def uj:Val:=⟨0,0,⟨#[]⟩⟩
def opY (op:Int)(G n:Nat):Ex:=⟨op,uj,⟨#[]⟩,0,some ⟨G,0,none⟩,n,n⟩
variable{x2:Tr}{y2:Ex}
theorem aib{w:rQ}   {T:TypeId} {x:Tr} (op:Int)(h:aB w G T (bD y++bD y2).toArray)(hS:S G)(hx:x.at_ w S y)(hx2:x2.at_ w S y2):(AE op [x,x2]).at_ w S (opY op G 2):=by unfold AE Tr.at_;exact⟨rfl,rfl,rfl,rfl,rfl,[y,y2],PH rp Tai hS,Tr.acA hx hx2⟩
theorem IM (w:rQ)(S:Nat->Prop)(v:Val):(tq v).at_ w S ⟨1,v,⟨#[]⟩,0,none,0,0⟩:=by unfold tq Tr.at_;exact ZfK
theorem BZ (w:rQ)(S:Nat->Prop)(n:t_):(ui n).at_ w S ⟨2,uj,n,0,none,0,0⟩:=by unfold ui Tr.at_;exact ZfK
theorem aic (w:rQ)(S:Nat->Prop)(op:Int):(AE op []).at_ w S ⟨op,uj,⟨#[]⟩,0,none,0,0⟩:=by unfold AE Tr.at_;exact ZfK
inductive ck where
 | good (l:dH)
 | bad (n:Nat)
def ck.left:ck->Nat
 | .good l=>l.length
 | .bad n=>n
def ck.iy:ck->Bool
 | .good _=>true
 | .bad _=>false
def ck.words:ck->dH
 | .good l=>l
 | .bad _=> []
def dv(p:Ps α):ck->ck
 | .bad n=> .bad n
 | .good l=>match p l with
   | .ok (_,r)=> .good r
   | .error n=> .bad n
def kz(p:Ps α):ck->α->Prop
 | .bad _,_=>True
 | .good l,x=>match p l with
   | .ok (y,_)=>x=y
   | .error _=>True
variable{σ:ck}
theorem Vs{p:Ps α} {f:α->Ps β}  {x:α}(h:kz p σ x):dv (p >>= f) σ=dv (f x) (dv p σ):=by
 match σ with
 | .bad n=>rfl
 | .good l=>
   simp only[dv,kz,acz] at h ⊢
   cases e:p l with
   | error n=>rfl
   | ok y=>obtain⟨y,r⟩:=y;rw[e] at h;simp only at h;subst h;rfl
theorem Vt(x:α)(σ:ck):dv (pure x:Ps α) σ=σ:=by cases σ <;> rfl
theorem FM(p:Ps α)(n:Nat)(x:α):kz p (.bad n) x:=trivial
def ck.head (s:w_)(σ:ck):Bool:=dK s σ.words
theorem LF (s:w_)(σ:ck):dv (may s) σ=if σ.head s then .good σ.words.tail else σ:=by
 match σ with
 | .bad n=>rfl
 | .good l=>simp only[dv,may,ck.head,ck.words];exact Zha
theorem FN (s:w_)(σ:ck):dv (must s) σ=if σ.head s then .good σ.words.tail else .bad σ.left:=by
 match σ with
 | .bad n=>rfl
 | .good l=>simp only[dv,must,ck.head,ck.words,ck.left];exact Zha
theorem PI (p:Ps Unit)(σ:ck):kz p σ ():=by
 match σ with
 | .bad n=>trivial
 | .good l=>simp only[kz];split <;> trivial
def ck.of (W:dH):ck->Prop
 | .good l=>l <:+ W/\yX l
 | .bad n=>0 < n/\n<=W.length
variable{W:dH}
theorem ck.PJ(h:σ.of W):0 < σ.left/\σ.left<=W.length:=by
 match σ with
 | .bad n=>exact h
 | .good l=>exact⟨h.2.pos,h.1.length_le⟩
theorem ck.of_next{l:dH}(h:(ck.good l).of W):∃t r,l=t::r/\W[W.length - l.length]?=some t:=by
 obtain⟨⟨b,hb⟩,h2⟩:=h
 match l,h2.pos with
 | t::r,_=>refine⟨t,r,rfl,?_⟩;rw[<- hb,length_append,Nat.add_sub_cancel,getElem?_append_right (Nat.le_refl _),Nat.sub_self];rfl
def iH (p:UInt8->Bool)(l:w_)(k:Nat):Nat:=k+((l.drop k).takeWhile p).length
theorem acB (p:UInt8->Bool)(l:w_)(k:Nat)(hk:k<=l.length):iH p l k<=l.length:=by have:=(takeWhile_sublist (p:=p) (l:=l.drop k)).length_le;simp only[length_drop] at this;unfold iH;omega
theorem fq (s:t_)(k:Nat)(hk:k < s.size):s.data.toList[k]?=some s[k]:=by rw[getElem?_eq_getElem Ta3];simp[ByteArray.getElem_eq_getElem_data]
variable{l:w_}
theorem cJ{k:Nat} {c:UInt8}(h:l[k]?=some c):l.drop k=c::l.drop (k+1):=by
 have hk:k < l.length:=by
  rcases Nat.lt_or_ge k l.length with h' | h'
  ·exact h'
  ·rw[getElem?_eq_none h'] at h;cases h
 rw[drop_eq_getElem_cons hk];rw[getElem?_eq_getElem hk] at h;injection h with h;rw[h]
theorem Ca{p:UInt8->Bool}  {k:Nat} {c:UInt8}(h:l[k]?=some c)(hp:p c=true):iH p l k=iH p l (k+1):=by unfold iH;rw[cJ h,takeWhile_cons,if_pos hp,length_cons];omega
theorem SN{p:UInt8->Bool}  {k:Nat} {c:UInt8}(h:l[k]?=some c)(hp:p c=false):iH p l k=k:=by unfold iH;rw[cJ h,takeWhile_cons,if_neg (by rw[hp];decide)];rfl
theorem LG{p:UInt8->Bool}  {k:Nat}(h:l.length<=k):iH p l k=k:=by unfold iH;rw[drop_eq_nil_of_le h];rfl
theorem SP (p:UInt8->Bool):∀r:w_,r.drop (r.takeWhile p).length=r.dropWhile p
 | []=>rfl
 | c::r=>by
   rw[takeWhile_cons,dropWhile_cons];split
   ·simpa using SP p r
   ·rfl
theorem acC (p:UInt8->Bool)(r:w_):r.take (r.takeWhile p).length=r.takeWhile p:=by
 induction r with
 | nil=>rfl
 | cons c r ih=>
   rw[takeWhile_cons];split
   ·simpa using ih
   ·rfl
theorem Cb (p:UInt8->Bool)(l:w_)(k:Nat):l.drop (iH p l k)=(l.drop k).dropWhile p:=by unfold iH;rw[<- drop_drop,SP]
theorem LH (p:UInt8->Bool)(l:w_)(k:Nat):(l.drop k).take (iH p l k - k)=(l.drop k).takeWhile p:=by unfold iH;rw[Nat.add_sub_cancel_left,acC]
theorem kB:∀(b:Bool) (r:w_),cE b r <:+ r
 | _,[]=>by simp[cE]
 | true,c::r=>by
   simp only[cE];split
   ·exact(kB false r).trans (suffix_cons _ _)
   ·exact(kB true r).trans (suffix_cons _ _)
 | false,c::r=>by
   simp only[cE];split
   ·exact(kB false r).trans (suffix_cons _ _)
   ·split
    ·exact(kB true r).trans (suffix_cons _ _)
    ·exact suffix_refl _
theorem drop_suffix(h:r <:+ l):l.drop (l.length - r.length)=r:=by obtain⟨p,rfl⟩:=h;simp
theorem B6 (l:w_)(c:UInt8):lB (l++ [c])=lB l*10+(c.toNat - 48):=by simp[lB]
theorem B7 (l:w_):∀v,v<=l.foldl (λ v c=>v*10+(c.toNat - 48)) v:=by
 induction l with
 | nil=>intro v;exact Nat.le_refl _
 | cons c l ih=>intro v;have:=ih (v*10+(c.toNat - 48));simp only[foldl_cons];omega
theorem SQ{p:UInt8->Bool}(l:w_):∀c∈l.takeWhile p,p c=true:=λ c hc=>List.all_eq_true.1 (all_takeWhile (p:=p) (l:=l)) c hc
def ang (f:FuncId)(p:UInt8->Bool):Prop:=∀(c:UInt8) (W:rQ),ar f #[ag (c.toNat:Int)] W λ e w'=>e=.returned (.bool (p c))/\W=w'
theorem mh{a b:Bool}(h:a=b):Ending.returned (.bool a)=.returned (.bool b):=by rw[h]
theorem mX{k:IntKind} {a b:Int}(h:a=b):Ending.returned (.int k a)=.returned (.int k b):=by rw[h]
theorem PK (c:UInt8):gD c=((decide ((97:Int)<=c.toNat)&& decide ((c.toNat:Int)<=122))||(decide ((65:Int)<=c.toNat)&& decide ((c.toNat:Int)<=90))||((c.toNat:Int)==95)):=by rw[Bool.eq_iff_iff];simp only[gD,UInt8.le_iff_toNat_le,<- UInt8.toNat_inj,Bool.or_eq_true,Bool.and_eq_true,decide_eq_true_eq,beq_iff_eq];simp;omega
theorem Vu (c:UInt8):bB c=(decide ((48:Int)<=c.toNat)&& decide ((c.toNat:Int)<=57)):=by rw[Bool.eq_iff_iff];simp only[bB,UInt8.le_iff_toNat_le,Bool.and_eq_true,decide_eq_true_eq];simp;omega
theorem aid (c:UInt8)(k:UInt8):(c==k)=((c.toNat:Int)==(k.toNat:Int)):=by rw[Bool.eq_iff_iff];simp[<- UInt8.toNat_inj];omega
theorem xS (c:UInt8):qW c=(((c.toNat:Int)==32)||((c.toNat:Int)==9)||((c.toNat:Int)==10)||((c.toNat:Int)==13)):=by simp only[qW,aid];rfl
theorem bO{w:rQ}  {t:TypeId} {a b c d:Value}(h:aB w q t #[a,b,c,d]):
  w.cell? ⟨q,0,none⟩=some a/\w.cell? ⟨q,1,none⟩=some b/\w.cell? ⟨q,2,none⟩=some c/\w.cell? ⟨q,3,none⟩=some d/\w.frozen? ⟨q,0,none⟩=false/\w.frozen? ⟨q,1,none⟩=false/\w.frozen? ⟨q,2,none⟩=false/\w.frozen? ⟨q,3,none⟩=false:=
 ⟨h.cell 0,h.cell 1,h.cell 2,h.cell 3,h.frozen 0,h.frozen 1,h.frozen 2,h.frozen 3⟩
theorem pj (s:t_)(a b:Nat):(s.extract a b).data.toList=(s.data.toList.take b).drop a:=by rw[ByteArray.data_extract,Array.toList_extract,extract_eq_take_drop,drop_take]
def gj (s:t_)(a:Nat):Nat:=s.size - (cE false (s.data.toList.drop a)).length
theorem mY (s:t_)(a:Nat):s.data.toList.drop (gj s a)=cE false (s.data.toList.drop a):=by have h:cE false (s.data.toList.drop a)<:+ s.data.toList:=(kB _ _).trans (List.drop_suffix _ _);have:=drop_suffix h;simpa [gj] using this
theorem xT (s:t_)(a:Nat):gj s a<=s.size:=Nat.sub_le _ _
theorem Vv(s:t_) {a b:Nat}(h:cE false (s.data.toList.drop a)=cE false (s.data.toList.drop b)):gj s a=gj s b:=by unfold gj;rw[h]
theorem mZ (p:UInt8->Bool)(s:t_)(k:Nat):(s.extract k (iH p s.data.toList k)).data.toList=(s.data.toList.drop k).takeWhile p:=by rw[pj,<- LH,drop_take]
theorem acD (p:UInt8->Bool)(l:w_)(k:Nat):iH p l k - k=((l.drop k).takeWhile p).length:=by unfold iH;omega
theorem vZ(p:UInt8->Bool)(s:t_) {k:Nat}(hk:k<=s.size):s.size - ((s.data.toList.drop k).dropWhile p).length=iH p s.data.toList k:=by rw[<- Cb,length_drop];have:=acB p s.data.toList k Ta3;simp at this ⊢;omega
def more (acc:w_)(x:Option (w_×w_)):Option (w_×w_):=x.map λ y=>(acc++y.1,y.2)
theorem B8 (x:Option (w_×w_)):more [] x=x:=by cases x <;> rfl
theorem PL{c:UInt8}(h:c≠39)(r acc:w_):more acc (gF (c::r))=more (acc++ [c]) (gF r):=by
 cases r with
 | nil=>simp[gF,h,more]
 | cons d r=>simp only[gF,if_neg h,more];cases gF (d::r)<;> simp
theorem B9 (r acc:w_):more acc (gF (39::39::r))=more (acc++ [39]) (gF r):=by simp only[gF,more,if_true];cases gF r <;> simp
theorem LI(h:r.head?≠some 39)(acc:w_):more acc (gF (39::r))=some (acc,r):=by
 cases r with
 | nil=>simp[gF,more]
 | cons d r=>
   have:d≠39:=λ e=>h (by rw[e];rfl)
   simp[gF,this,more]
theorem Cc (w:rQ)(a b:Nat):(w.drewN a).drewN b=w.drewN (a+b):=by simp[World.drewN,Nat.add_assoc]
theorem acE{i:Nat}(hi:i < 15):∃x,signs[i]?=some x/\signs.drop i=x::signs.drop (i+1)/\1<=x.length/\x.length<=2:=by
 have key:∀i,i < 15->∃x,signs[i]?=some x/\1<=x.length/\x.length<=2:=by
  intro i hi
  match i,hi with
  | 0,_ | 1,_ | 2,_ | 3,_ | 4,_ | 5,_ | 6,_ | 7,_ | 8,_ | 9,_ | 10,_ | 11,_ | 12,_ | 13,_ | 14,_=>exact⟨_,rfl,by decide,by decide⟩
  | n+15,h=>omega
 obtain⟨x,h1,h2,h3⟩:=key i hi;refine⟨x,h1,?_,h2,h3⟩;have hlt:i < signs.length:=hi;exact ZfJ
theorem SR:nJ.length=27:=by decide+kernel
theorem aie{i:Nat}(hi:i < 27):∃x,nJ[i]?=some x/\nJ.take (i+1)=nJ.take i++ [x]/\(nJ.take i).contains x=false:=by
 have hlt:i < nJ.length:=by rw[SR];exact hi
 refine⟨nJ[i],getElem?_eq_getElem hlt,by rw[take_succ_eq_append_getElem hlt],?_⟩;have key:(List.range 27).all (λ i=> !(nJ.take i).contains (nJ.getD i []))=true:=by decide+kernel
 have:=List.all_eq_true.1 key i (List.mem_range.2 hi);rw[getD_eq_getElem?_getD,getElem?_eq_getElem hlt] at this;exact ZeR
theorem Vw (c:UInt8):(ID c=true/\decide ((65:Int)<=c.toNat)=true/\decide ((c.toNat:Int)<=90)=true)\/(ID c=false/\decide ((65:Int)<=c.toNat)=true/\decide ((c.toNat:Int)<=90)=false)\/(ID c=false/\decide ((65:Int)<=c.toNat)=false):=by
 have e:ID c=(decide ((65:Int)<=c.toNat)&& decide ((c.toNat:Int)<=90)):=by rw[Bool.eq_iff_iff];simp only[ID,UInt8.le_iff_toNat_le,Bool.and_eq_true,decide_eq_true_eq];simp;omega
 rw[e];by_cases h1:(65:Int)<=c.toNat <;> by_cases h2:(c.toNat:Int)<=90 <;> simp[h1,h2]
def C2 (b:Bool)(w:rQ)(e:Ending)(w':rQ):Prop:=e=.returned (.bool b)/\aj w w'
theorem et:ang 174 gD:=by intro c W;rw[PK];have h1:=c.toNat_lt;generalize c.toNat=n at*;go_enter Tryz.func174,Tryz.ntmps174;exact ZdY
theorem eV:ang 175 bB:=by intro c W;rw[Vu];have h1:=c.toNat_lt;generalize c.toNat=n at*;go_enter Tryz.func175,Tryz.ntmps175;exact ZdY
theorem Eu (w:rQ):ar 198 #[] w λ e w'=>e=.returned (aL w.heap.size 27 27)/\w'=w.alloc (.cells (nJ.map λ l=>Value.string ⟨l.toArray⟩).toArray 9):=by go_enter Tryz.func198,Tryz.ntmps198;exact Zc0
variable{x:w_}
theorem C3{i:Nat} (h1:nJ[i]?=some x):nJ.drop i=x::nJ.drop (i+1):=by
 have hlt:i < nJ.length:=by
  rcases Nat.lt_or_ge i nJ.length with h | h
  ·exact h
  ·rw[getElem?_eq_none h] at h1;cases h1
 exact ZfJ
theorem Vx (l:w_):(⟨l.toArray⟩:t_).toList=l:=by rw[ByteArray.toList_eq]
theorem Ev (s:t_)(w:rQ):ar 183 #[.string s] w (C2 (td s.data.toList) w):=by
 go_enter Tryz.func183,Tryz.ntmps183;go_wp2_with fail;refine(Eu w).mono ?_;rintro e w1 ⟨rfl,rfl⟩;have HB:=aa (aB.new w 9 (nJ.map λ l=>Value.string ⟨l.toArray⟩).toArray);have b1:=ah w (.cells (nJ.map λ l=>Value.string ⟨l.toArray⟩).toArray 9);generalize w.alloc (.cells (nJ.map λ l=>Value.string ⟨l.toArray⟩).toArray 9)=W at*;go_wp2_with fail;go_loop [4] (λ u=>∃i:Nat,i<=27/\u=af i/\td s.data.toList=(nJ.drop i).contains s.data.toList) (λ u=>27 - (intOf u).toNat);case atStart=>exact⟨0,by omega,rfl,rfl⟩
 case round=>
  obtain⟨i,hi,rfl,hf⟩:=hrel;have H2:=aa hf;clear hf;by_cases hlt:i < 27
  ·obtain⟨x,hx,_,_⟩:=aie hlt;have hcell:=HB.ae.cell i;have hx2:(nJ.map λ l=>Value.string ⟨l.toArray⟩).toArray[i]?=some (.string ⟨x.toArray⟩):=by simp[hx]
   rw[hx2] at hcell;have HDX:=aa (C3 hx);have e0:=Vx x;have IP:=aa e0;clear hx hx2 e0;by_cases he:s.data.toList=x
   ·have HE:=aa he;have t2:(x==s.toList)=true:=by rw[ByteArray.toList_eq,he];simp
    clear he;go_wp2_with fail;go_ret;refine⟨mh ?_,b1⟩;rw[H2.ae,HDX.ae,HE.ae];simp
   ·have HE:=aa he;have t2:(x==s.toList)=false:=by rw[ByteArray.toList_eq,beq_eq_false_iff_ne];exact λ e=>he e.symm
    clear he;go_wp2_with fail;go_round
    case rel=>
     refine⟨i+1,by omega,by go_num,?_⟩;rw[H2.ae,HDX.ae,contains_cons];have:(s.data.toList==x)=false:=by simpa using HE.ae
     rw[this];rfl
    case measure=>exact ZaU
  ·obtain rfl:i=27:=by omega
   go_wp2_with fail;go_ret;refine⟨mh ?_,b1⟩;rw[H2.ae,drop_eq_nil_of_le (Nat.le_of_eq SR)];rfl
theorem IQ (w:rQ)(g:Nat)(c:UInt8)(h:aB w g 5 #[ag (c.toNat:Int)]):(convert 97 9 (aL g 1 1)).run Tryz.prog w=.ok (.string ⟨#[c]⟩) w:=by
 have:=run_convert_bytes_back (P:=Tryz.prog) w 97 9 5 ⟨g,0,none⟩ 1 [c] Tryz.underlying97 Tryz.underlying5 Tryz.underlying9 (λ j hj=>by
  have:j=0:=by simpa using hj
  subst this
  have h0:=h.cell 0
  simpa [Addr.add] using h0)
 exact ZeR
theorem acF{c:UInt8}(h:ID c=true):(vU c).toNat=c.toNat+32:=by unfold vU;rw[if_pos h];simp[ID,UInt8.le_iff_toNat_le] at h;rw[UInt8.toNat_add];simp;omega
theorem SU{c:UInt8}(h:ID c=false):vU c=c:=by unfold vU;rw[h];rfl
theorem mj (l:w_)(c:UInt8):(⟨l.toArray⟩:t_)++⟨#[c]⟩=⟨(l++ [c]).toArray⟩:=by apply ByteArray.ext;simp
theorem FO (s:t_)(w:rQ)(hs:s.size<=4294967280):ar 176 #[.string s] w λ e w'=>e=.returned (.string ⟨(s.data.toList.map vU).toArray⟩)/\aj w w':=by
 have HLEN:=aa (show s.data.toList.length=s.size by simp);go_enter Tryz.func176,Tryz.ntmps176;go_wp2_with fail;go_loopw [3,4] (λ x u wr=>∃(i:Nat) (l:w_),i<=s.size/\u=af i/\x=.string ⟨l.toArray⟩/\l.length=i/\s.data.toList.map vU=l++(s.data.toList.drop i).map vU/\aj w wr) (λ _ u _=>s.size - (intOf u).toNat);case atStart=>exact⟨0,[],by omega,rfl,rfl,rfl,rfl,Below.refl _ _⟩
 case round=>
  obtain⟨i,l,hi,rfl,rfl,hl,hm,hb⟩:=hrel;have HM:=aa hm;have hl2:l.length<=s.size:=by omega
  have HL:=aa hl;have zZ:=aa (show l.length<=s.size by omega);clear hm hl;by_cases hlt:i < s.size
  ·have HD:=aa (cJ (fq s i hlt));rcases Vw s[i] with ⟨hc,t1,t2⟩|⟨hc,t1,t2⟩|⟨hc,t1⟩
   ·have LJ:=acF hc;have hn:s[i].toNat<=90:=by have:=of_decide_eq_true t2;omega
    have hr:=IQ _ _ (vU s[i]) (aB.new wr 5 #[ag ((vU s[i]).toNat:Int)]);rw[LJ] at hr;rw[show((s[i].toNat+32:Nat):Int)=(s[i].toNat:Int)+32 from rfl] at hr;have uk:=aa LJ;clear LJ hc;go_wp2_with fail;go_roundw;case rel=>refine⟨i+1,l++ [vU s[i]],by omega,by go_num,by rw[mj],by rw[length_append,HL.ae];rfl,?_,hb.trans ((ah wr _).mono hb.size)⟩;rw[HM.ae,HD.ae];simp
    case measure=>exact ZaU
   ·exact Zca
   ·exact Zca
  ·go_wp2_with fail;go_ret;refine⟨?_,hb⟩;rw[HM.ae,drop_eq_nil_of_le Tar];simp
theorem Ce{s:t_} {a b:Nat}(h:cE false (s.data.toList.drop a)=cE false (s.data.toList.drop b)):gj s a=gj s b:=Vv s h
theorem sG{s:t_} {a:Nat}(ha:a<=s.size)(h:cE false (s.data.toList.drop a)=s.data.toList.drop a):gj s a=a:=by unfold gj;rw[h,length_drop];simp;omega
theorem zhW.Kcm(h:p:=by rintro⟨_,h⟩;rw[IU.ae] at h;exact H46.ae Tai):p:=h
theorem zhX.Kcm(h:p:=by rintro⟨_,h⟩;rw[drop_eq_nil_of_le Tar] at h;simp at h):p:=h
theorem zhY.Kcm(h:p:=by rintro⟨h,_⟩;exact H45.ae h):p:=h
theorem FP (s:t_)(at_:Nat)(w:rQ)(ha:at_<=s.size)(hs:s.size<=4294967280):ar 131 #[.string s,af at_] w λ e w'=>e=.returned (af (gj s at_))/\w=w':=by
 have HLEN:=aa (show s.data.toList.length=s.size by simp);go_enter Tryz.func131,Tryz.ntmps131;go_wp2_with fail;go_loop [1] (λ u=>∃i:Nat,i<=s.size/\u=af i/\gj s at_=gj s i) (λ u=>s.size - (intOf u).toNat);case atStart=>exact⟨at_,ha,rfl,rfl⟩
 case round=>
  obtain⟨i,hi,rfl,hf⟩:=hrel;have H2:=aa hf;clear hf;by_cases Kx:i < s.size
  ·have HD:=aa (cJ (fq s i Kx));cases hb:qW s[i]
   ·have AJ:s[i]=45\/s[i]≠45:=by by_cases h:s[i]=45 <;> simp[h]
    rw[xS] at hb;simp only[Bool.or_eq_false_iff] at hb;obtain⟨⟨⟨b1,b2⟩,b3⟩,b4⟩:=hb;have HB:=aa (show qW s[i]=false by rw[xS,b1,b2,b3,b4];rfl);rcases AJ with AJ | AJ
    ·have t1:(((s[i].toNat:Nat):Int)==45)=true:=by rw[AJ];rfl
     have t2:(((s[i].toNat:Nat):Int) != 45)=false:=by rw[AJ];rfl
     have H45:=aa AJ;clear AJ;by_cases auu:i+1 < s.size
     ·have IU:=aa (cJ (fq s (i+1) auu));have n1:=decide_eq_false (show¬((s.size:Int)<=(i:Int)+1) by omega);by_cases h46:s[i+1]=45
      ·have u1:(((s[i+1].toNat:Nat):Int)==45)=true:=by rw[h46];rfl
       have u2:(((s[i+1].toNat:Nat):Int) != 45)=false:=by rw[h46];rfl
       have HC:=aa (show cE false (s.data.toList.drop i)=cE true (s.data.toList.drop i) by
        rw[HD.ae,IU.ae,h46,H45.ae]
        simp[cE,qW])
       clear h46;go_wp2_with fail;go_loop [1] (λ u=>∃k:Nat,i<=k/\k<=s.size/\u=af k/\cE false (s.data.toList.drop i)=cE true (s.data.toList.drop k)) (λ u=>s.size - (intOf u).toNat);case atStart=>exact⟨i,Nat.le_refl _,hi,rfl,HC.ae⟩
       case round=>
        obtain⟨k,AK,hk2,rfl,hf⟩:=hrel;have HF:=aa hf;clear hf;by_cases hlt:k < s.size
        ·have HDK:=aa (cJ (fq s k hlt));by_cases h10:s[k]=10
         ·have v1:(((s[k].toNat:Nat):Int)==10)=true:=by rw[h10];rfl
          have v2:(((s[k].toNat:Nat):Int) != 10)=false:=by rw[h10];rfl
          have H10:=aa h10;have hne:i≠k:=by intro e;subst e;have:=H45.ae.symm.trans h10;exact absurd this V0
          clear h10;go_wp2_with fail;go_round;case rel=>refine⟨k,hk2,rfl,?_⟩;rw[H2.ae];refine Ce ?_;rw[HF.ae,HDK.ae,H10.ae];simp[cE,qW]
          case measure=>exact ZaU
         ·have v1:(((s[k].toNat:Nat):Int)==10)=false:=by rw[beq_eq_false_iff_ne];intro h;exact h10 (UInt8.toNat_inj.1 (by simpa using(by omega:s[k].toNat=10)))
          have v2:(((s[k].toNat:Nat):Int) != 10)=true:=by simpa [bne] using v1
          have H10:=aa h10;clear h10;go_wp2_with fail;go_round;case rel=>refine⟨k+1,by omega,hlt,by go_num,?_⟩;rw[HF.ae,HDK.ae,cE,if_neg H10.ae]
          case measure=>exact ZaU
        ·go_wp2_with fail;go_round;case rel=>refine⟨k,hk2,rfl,?_⟩;rw[H2.ae];refine Ce ?_;rw[HF.ae,drop_eq_nil_of_le Tar];simp[cE]
         case measure=>exact ZaU
      ·have u1:(((s[i+1].toNat:Nat):Int)==45)=false:=by rw[beq_eq_false_iff_ne];intro h;exact h46 (UInt8.toNat_inj.1 (by simpa using(by omega:s[i+1].toNat=45)))
       have u2:(((s[i+1].toNat:Nat):Int) != 45)=true:=by simpa [bne] using u1
       have H46:=aa h46;clear h46;open zhW in exact Zhb
     ·have n1:=decide_eq_true (show((s.size:Int)<=(i:Int)+1) by omega);open zhX in exact Zhb
    ·have t1:(((s[i].toNat:Nat):Int)==45)=false:=by rw[beq_eq_false_iff_ne];intro h;exact AJ (UInt8.toNat_inj.1 (by simpa using(by omega:s[i].toNat=45)))
     have t2:(((s[i].toNat:Nat):Int) != 45)=true:=by simpa [bne] using t1
     have H45:=aa AJ;clear AJ;open zhY in exact Zhb
   ·have HB:=aa hb;rw[xS] at hb;cases b1:(((s[i].toNat:Nat):Int)==32)<;> cases b2:(((s[i].toNat:Nat):Int)==9)<;> cases b3:(((s[i].toNat:Nat):Int)==10)<;> cases b4:(((s[i].toNat:Nat):Int)==13);all_goals try (exfalso;rw[b1,b2,b3,b4] at hb;exact absurd hb V0)
    all_goals
     clear hb;go_wp2_with fail;go_round;case rel=>refine⟨i+1,Kx,by go_num,?_⟩;rw[H2.ae];refine Ce ?_;rw[HD.ae,cE,if_pos HB.ae]
     case measure=>simp[intOf];omega
  ·go_wp2_with fail;go_ret;refine⟨mX ?_,rfl⟩;rw[H2.ae,sG hi];rw[drop_eq_nil_of_le Tar];rfl
theorem C5:∀(l:w_) (v:Nat),v*10 ^ l.length<=l.foldl (λ v c=>v*10+(c.toNat - 48)) v
 | [],v=>by simp
 | c::l,v=>by
   have:=C5 l (v*10+(c.toNat - 48));simp only[foldl_cons,length_cons,Nat.pow_succ];have h:v*10*10 ^ l.length<=(v*10+(c.toNat - 48))*10 ^ l.length:=Nat.mul_le_mul_right _ TD;have e:v*(10 ^ l.length*10)=v*10*10 ^ l.length:=by rw[Nat.mul_comm (10 ^ l.length),Nat.mul_assoc]
   rw[e];omega
theorem C6(hd:∀c∈l,bB c=true)(hl:19 < l.length)(h0:l.head?≠some 48):9223372036854775807 < lB l:=by
 match l with
 | []=>simp at hl
 | c::r=>
   have hc:=hd c mem_cons_self;simp[bB,UInt8.le_iff_toNat_le] at hc;have h48:c.toNat≠48:=λ e=>h0 (by rw[show c=48 from UInt8.toNat_inj.1 e];rfl)
   have h1:=C5 r (0*10+(c.toNat - 48));have h2:10 ^ 19<=10 ^ r.length:=Nat.pow_le_pow_right V0 (by simp at hl;omega);have h3:1*10 ^ r.length<=(0*10+(c.toNat - 48))*10 ^ r.length:=Nat.mul_le_mul_right _ TD;show _ < List.foldl _ _ _;rw[foldl_cons];have h4:(10:Nat)^ 19=10000000000000000000:=by decide
   omega
theorem C7{i:Nat} {c:UInt8}(h:l[i]?=some c):lB (l.take (i+1))=lB (l.take i)*10+(c.toNat - 48):=by rw[take_add_one,h];exact B6 _ _
theorem PM (l:w_)(i:Nat):lB (l.take i)<=lB l:=by
 conv=>rhs;rw[<- take_append_drop i l]
 unfold lB;rw[foldl_append];exact B7 _ _
theorem C8{c:UInt8}(h:bB c=true):48<=c.toNat/\c.toNat<=57:=by simpa [bB,UInt8.le_iff_toNat_le] using h
def jY (q:w_)(w:rQ)(e:Ending)(w':rQ):Prop:=(if vV q=true then e=.returned (.tuple #[af (lB q),.bool true])else e=.returned (.tuple #[af 0,.bool false]))/\w=w'
variable{e:Ending}
theorem PN{q:w_} {w:rQ} (h:vV q=false)(he:e=.returned (.tuple #[af 0,.bool false])):jY q w e w:=by unfold jY;rw[h,if_neg V0];exact⟨he,rfl⟩
theorem acG{q:w_} {w:rQ} (h:vV q=true)(he:e=.returned (.tuple #[af (lB q),.bool true])):jY q w e w:=by unfold jY;rw[if_pos h];exact⟨he,rfl⟩
theorem yZ (s:t_)(w:rQ)(hd:∀c∈s.data.toList,bB c=true)(h0:0 < s.size)(hs:s.size<=4294967280):ar 177 #[.string s] w (jY s.data.toList w):=by
 have HLEN:=aa (show s.data.toList.length=s.size by simp);have HDG:=aa hd;have SV:s.data.toList.head?=some s[0]:=by rw[head?_eq_getElem?];exact fq s 0 h0
 have HH:=aa SV;clear hd SV;by_cases hz:1 < s.size/\s[0]=48
 ·have t1:(((s[0].toNat:Nat):Int)==48)=true:=by rw[hz.2];rfl
  have HB:=aa (show vV s.data.toList=false by
   have:¬s.data.toList.length<=1:=by rw[HLEN.ae];omega
   simp only[vV,HH.ae,hz.2,this]
   rfl)
  have hz1:=hz.1;exact Zf5
 ·by_cases C9:19 < s.size
  ·have t1:(((s[0].toNat:Nat):Int)==48)=false:=by rw[beq_eq_false_iff_ne];intro h;exact hz ⟨by omega,UInt8.toNat_inj.1 Tbp⟩
   have HB:=aa (show vV s.data.toList=false by
    have h1:=C6 HDG.ae (by rw[HLEN.ae];exact C9) (by rw[HH.ae];intro e;injection e with e;exact hz ⟨by omega,e⟩)
    have h2:¬lB s.data.toList<=9223372036854775807:=by omega
    simp only[vV,h2]
    simp)
   exact Zf5
  ·have HF:=aa (show(decide (s.data.toList.length<=1)|| !(s.data.toList.head?==some 48))=true by
    rw[HLEN.ae,HH.ae]
    by_cases h1:s.size<=1
    ·simp[h1]
    ·have:s[0]≠48:=λ e=>hz ⟨by omega,e⟩
     simp[h1,this])
   have hz2:¬(1 < s.size)\/(1 < s.size/\(((s[0].toNat:Nat):Int)==48)=false):=by
    by_cases h1:1 < s.size
    ·refine .inr ⟨h1,?_⟩;rw[beq_eq_false_iff_ne];intro h;exact hz ⟨h1,UInt8.toNat_inj.1 Tbp⟩
    ·exact .inl h1
   clear hz
   rcases hz2 with hz2 |⟨hz1,hz2⟩;all_goals
    go_enter Tryz.func177,Tryz.ntmps177;go_wp2_with fail;go_loop [4,5] (λ v u=>∃i:Nat,i<=s.size/\u=af i/\v=af (lB (s.data.toList.take i):Nat)/\lB (s.data.toList.take i)<=9223372036854775807) (λ _ u=>s.size - (intOf u).toNat);case atStart=>exact⟨0,by omega,rfl,rfl,by simp[lB]⟩
    case round=>
     obtain⟨i,hi,rfl,rfl,hv⟩:=hrel;by_cases hlt:i < s.size
     ·have HB:=aa (fq s i hlt);obtain⟨d1,d2⟩:=C8 (HDG.ae s[i] (mem_of_getElem? HB.ae));have HV:=aa (C7 HB.ae);have Cf:=aa (PM s.data.toList (i+1));generalize Ov:lB (s.data.toList.take i)=v at*;have HVV:=aa Ov;clear Ov;by_cases LK:v*10+(s[i].toNat - 48)<=9223372036854775807
      ·have n1:=decide_eq_false (show¬((9223372036854775807 - ((s[i].toNat:Int) - 48))/ 10 <(v:Int)) by omega);go_wp2_with fail;go_round;case rel=>
        refine⟨i+1,hlt,by go_num,?_,by rw[HV.ae];exact LK⟩;rw[HV.ae];have:((v*10+(s[i].toNat - 48):Nat):Int)=(v:Int)*10+((s[i].toNat:Int) - 48):=by omega
        rw[this]
       case measure=>simp[intOf];omega
      ·have n1:=decide_eq_true (show((9223372036854775807 - ((s[i].toNat:Int) - 48))/ 10 <(v:Int)) by omega);go_wp2_with fail;go_ret2;refine PN ?_ rfl;have h1:=Cf.ae;rw[HV.ae] at h1;have h2:¬lB s.data.toList<=9223372036854775807:=by omega
       simp only[vV,h2];simp
     ·go_wp2_with fail;go_ret2;have e1:s.data.toList.take i=s.data.toList:=take_of_length_le Tar;rw[e1] at hv ⊢;exact acG (by rw[vV,HF.ae];simpa using hv) rfl
def Aa (s:t_)(at_:Nat)(w:rQ)(r:Except Nat (Wd×w_))(e:Ending)(w':rQ):Prop:=
 match r with
 | .ok (d,rest)=>e=.returned (.tuple #[.agg #[ag d.k,.string ⟨d.s.toArray⟩,af d.n,af at_],af (s.size - rest.length:Nat),af 0])/\aj w w'
 | .error x=>e=.returned (.tuple #[.agg #[ag 0,au,af 0,af 0],af 0,af x])/\aj w w'
theorem wj{w:rQ}(h:Below B w w') (hq:B<=q)(a b c d:Value):Below B w ((((w'.setCell ⟨q,0,none⟩ a).setCell ⟨q,1,none⟩ b).setCell ⟨q,2,none⟩ c).setCell ⟨q,3,none⟩ d):=
 (((h.setCell (p:=⟨q,0,none⟩) hq a).setCell (p:=⟨q,1,none⟩) hq b).setCell (p:=⟨q,2,none⟩) hq c).setCell (p:=⟨q,3,none⟩) hq d
theorem D4 (s:t_)(at_:Nat)(w:rQ)(ha:at_ < s.size)(hdg:gD s[at_]=true)(hs:s.size<=4294967280):
  ar 132 #[.string s,af at_] w (Aa s at_ w (iG (s.data.toList.drop at_))):=by
 have hd:=cJ (fq s at_ ha);have hc:iG (s.data.toList.drop at_)=if iH fh s.data.toList at_ - at_<=32 then .ok (⟨1,((s.data.toList.drop at_).takeWhile fh).map vU,0⟩,(s.data.toList.drop at_).dropWhile fh)else .error 2:=by rw[acD,hd];simp only[iG,if_pos hdg]
 generalize iG (s.data.toList.drop at_)=R at*;have HC:=aa hc;have HL0:=aa hdg;have HLEN:=aa (show s.data.toList.length=s.size by simp);clear hc hd hdg;go_enter Tryz.func132,Tryz.ntmps132;go_wp2_with (go_at_call 174;refine(et s[at_] _).mono ?_;rintro e w' ⟨rfl,rfl⟩;rw[HL0.ae]);have HZ:=aa (aB.new w 172 #[ag 0,au,af 0,af 0]);have bb:=ah w (.cells #[ag 0,au,af 0,af 0] 172);have hsz:(w.alloc (.cells #[ag 0,au,af 0,af 0] 172)).heap.size=w.heap.size+1:=by simp
 generalize w.alloc (.cells #[ag 0,au,af 0,af 0] 172)=W at*;have HSZ:=aa hsz;clear hsz;go_loop [8] (λ u=>∃k:Nat,at_<=k/\k<=s.size/\u=af k/\iH fh s.data.toList at_=iH fh s.data.toList k) (λ u=>s.size - (intOf u).toNat);case atStart=>exact⟨at_,Nat.le_refl _,by omega,rfl,rfl⟩
 case round=>
  obtain⟨k,AK,hk2,rfl,hf⟩:=hrel;have HF:=aa hf;clear hf;by_cases hlt:k < s.size
  ·have HB:=aa (fq s k hlt);cases hl:gD s[k]
   ·have HL:=aa hl;cases hd:bB s[k]
    ·have HD:=aa hd;have mN:=aa (show iH fh s.data.toList at_=k by rw[HF.ae];exact SN HB.ae (by simp[fh,hl,hd]));clear hl hd;by_cases h32:k - at_<=32
     ·have n1:=decide_eq_false (show¬(32:Int)<(k:Int) - at_ by omega);go_wp2_with (first
       |(go_at_call 174;refine(et s[k] _).mono ?_;rintro e w' ⟨rfl,rfl⟩;rw[HL.ae])
       |(go_at_call 175;refine(eV s[k] _).mono ?_;rintro e w' ⟨rfl,rfl⟩;rw[HD.ae]))
      exact Za1
     ·have n1:=decide_eq_true (show(32:Int)<(k:Int) - at_ by omega);obtain⟨z0,z1,z2,z3,y0,y1,y2,y3⟩:=bO HZ.ae;go_wp2_with (first
       |(go_at_call 174;refine(et s[k] _).mono ?_;rintro e w' ⟨rfl,rfl⟩;rw[HL.ae])
       |(go_at_call 175;refine(eV s[k] _).mono ?_;rintro e w' ⟨rfl,rfl⟩;rw[HD.ae]))
      exact ZeL
    ·have HD:=aa hd;have mN:=aa (show iH fh s.data.toList at_=iH fh s.data.toList (k+1) by rw[HF.ae];exact Ca HB.ae (by simp[fh,hl,hd]));clear hl hd;go_wp2_with (first
      |(go_at_call 174;refine(et s[k] _).mono ?_;rintro e w' ⟨rfl,rfl⟩;rw[HL.ae])
      |(go_at_call 175;refine(eV s[k] _).mono ?_;rintro e w' ⟨rfl,rfl⟩;rw[HD.ae]))
     exact ZdM
   ·have HL:=aa hl;have mN:=aa (show iH fh s.data.toList at_=iH fh s.data.toList (k+1) by rw[HF.ae];exact Ca HB.ae (by simp[fh,hl]));clear hl;go_wp2_with (go_at_call 174;refine(et s[k] _).mono ?_;rintro e w' ⟨rfl,rfl⟩;rw[HL.ae]);exact ZdM
  ·have mN:=aa (show iH fh s.data.toList at_=k by rw[HF.ae];exact LG Tar);by_cases h32:k - at_<=32
   ·have n1:=decide_eq_false (show¬(32:Int)<(k:Int) - at_ by omega);go_wp2_with fail;exact Za1
   ·have n1:=decide_eq_true (show(32:Int)<(k:Int) - at_ by omega);obtain⟨z0,z1,z2,z3,y0,y1,y2,y3⟩:=bO HZ.ae;go_wp2_with fail;exact ZeL
theorem zf2.KbA(h:p:=by rw[if_neg V0] at he;subst he;exact ZcA):p:=h
theorem zf3.KbA(h:p:=by rw[if_pos rfl] at he;subst he;go_wp2_with (go_at_call 174;refine(et s[k] _).mono ?_;rintro e w' ⟨rfl,rfl⟩;rw[HLB.ae]);exact Zc6):p:=h
theorem zf4.KbA(h:p:=by
 rw[if_pos rfl] at he;subst he;go_wp2_with (go_at_call 174;refine(et s[k] _).mono ?_;rintro e w' ⟨rfl,rfl⟩;rw[HLB.ae]);refine bodyPost_ret (v:=.tuple #[.agg #[ag 0,au,af 0,af 0],af 0,af 30]) ZbA rfl ?_
 ·rw[HR.ae];exact ZbU):p:=h
theorem zea.KaS(h:p:=by
 cases Oa:vV ((s.data.toList.drop at_).takeWhile bB)
 ·have oD:=aa Oa;clear Oa;open zf2 in exact Zd9
 ·have oD:=aa Oa;clear Oa;cases ze:gD s[k]
  ·have HLB:=aa ze;have HR:=aa (show R=.ok (⟨2,[],lB ((s.data.toList.drop at_).takeWhile bB)⟩,(s.data.toList.drop at_).dropWhile bB) by
    rw[rq.ae,oD.ae,SX.ae,cJ HB.ae]
    simp[ze])
   clear ze;open zf3 in exact Zd9
  ·have HLB:=aa ze;have HR:=aa (show R=.error 30 by
    rw[rq.ae,oD.ae,SX.ae,cJ HB.ae]
    simp[ze])
   clear ze;open zf4 in exact Zd9):p:=h
theorem zeb.KaS(h:p:=by
 cases Oa:vV ((s.data.toList.drop at_).takeWhile bB)
 ·have oD:=aa Oa;clear Oa;go_wp2_with fail;refine HN.ae.mono ?_;unfold jY;rw[HE.ae,oD.ae];rintro e w1 ⟨he,rfl⟩;rw[if_neg V0] at he;subst he;exact ZcA
 ·have oD:=aa Oa;clear Oa;have HR:=aa (show R=.ok (⟨2,[],lB ((s.data.toList.drop at_).takeWhile bB)⟩,(s.data.toList.drop at_).dropWhile bB) by
   rw[rq.ae,oD.ae,SX.ae,drop_eq_nil_of_le Tar]
   rfl)
  go_wp2_with fail;refine HN.ae.mono ?_;unfold jY;rw[HE.ae,oD.ae];rintro e w1 ⟨he,rfl⟩;rw[if_pos rfl] at he;subst he;go_wp2_with fail;exact Zc6):p:=h
theorem one_num (s:t_)(at_:Nat)(w:rQ)(ha:at_ < s.size)(hdg:gD s[at_]=false)(hc:bB s[at_]=true)(hs:s.size<=4294967280):
  ar 132 #[.string s,af at_] w (Aa s at_ w (iG (s.data.toList.drop at_))):=by
 have hd:=cJ (fq s at_ ha);have mE:iG (s.data.toList.drop at_)=if vV ((s.data.toList.drop at_).takeWhile bB)&& !(((s.data.toList.drop at_).dropWhile bB).head?.any gD)then .ok (⟨2,[],lB ((s.data.toList.drop at_).takeWhile bB)⟩,(s.data.toList.drop at_).dropWhile bB)else .error 30:=by rw[hd];simp only[iG,hdg,if_pos hc];rfl
 have hq:0 <((s.data.toList.drop at_).takeWhile bB).length:=by rw[hd,takeWhile_cons,if_pos hc];simp
 generalize iG (s.data.toList.drop at_)=R at*;have rq:=aa mE;have ani:=aa hq;have HC:=aa hc;have HL0:=aa hdg;have HLEN:=aa (show s.data.toList.length=s.size by simp);clear mE hd hc hdg hq;go_enter Tryz.func132,Tryz.ntmps132;go_wp2_with (first
  |(go_at_call 174;refine(et s[at_] _).mono ?_;rintro e w' ⟨rfl,rfl⟩;rw[HL0.ae])
  |(go_at_call 175;refine(eV s[at_] _).mono ?_;rintro e w' ⟨rfl,rfl⟩;rw[HC.ae]))
 have HZ:=aa (aB.new w 172 #[ag 0,au,af 0,af 0]);have bb:=ah w (.cells #[ag 0,au,af 0,af 0] 172);generalize w.alloc (.cells #[ag 0,au,af 0,af 0] 172)=W at*;go_loop [8] (λ u=>∃k:Nat,at_<=k/\k<=s.size/\u=af k/\iH bB s.data.toList at_=iH bB s.data.toList k) (λ u=>s.size - (intOf u).toNat);case atStart=>exact⟨at_,Nat.le_refl _,by omega,rfl,rfl⟩
 case round=>
  obtain⟨k,AK,hk2,rfl,hf⟩:=hrel;have HF:=aa hf;clear hf;by_cases hlt:k < s.size
  ·have HB:=aa (fq s k hlt);cases hd:bB s[k]
   ·have HD:=aa hd;have mN:=aa (show iH bB s.data.toList at_=k by rw[HF.ae];exact SN HB.ae hd);clear hd;open zea in exact Zcb
   ·have HD:=aa hd;have mN:=aa (show iH bB s.data.toList at_=iH bB s.data.toList (k+1) by rw[HF.ae];exact Ca HB.ae hd);clear hd;go_wp2_with (go_at_call 175;refine(eV s[k] _).mono ?_;rintro e w' ⟨rfl,rfl⟩;rw[HD.ae]);exact ZdM
  ·have mN:=aa (show iH bB s.data.toList at_=k by rw[HF.ae];exact LG Tar);open zeb in exact Zcb
theorem zg (s:t_)(k:Nat)(hk:k < s.size):s.extract k (k+1)=⟨#[s[k]]⟩:=by
 have h:=pj s k (k+1)
 have h2:(s.data.toList.take (k+1)).drop k=[s[k]]:=by
  rw[drop_take,cJ (fq s k hk)];have:k+1 - k=1:=by omega
  rw[this];rfl
 rw[h2] at h;apply Go.WideShapes.bytes_inj;rw[h]
theorem lC (s:t_)(a b:Nat)(x y:Int)(hx:x=a)(hy:y=b)(hab:a<=b)(hb:b<=s.size)(w:rQ):
  (Instr.slice 9 (.string s) (some (af x)) (some (af y)) none).run Tryz.prog w=.ok (.string (s.extract a b)) w:=by subst hx hy;have:=run_slice_string (P:=Tryz.prog) (w:=w) 9 s .i64 .i64 a b Tryz.underlying9 TD TD TD;exact ZeR
theorem zfQ.Kbw(h:p:=by
 have HZ:=aa (aB.new w 172 #[ag 0,au,af 0,af 0]);have bb:=ah w (.cells #[ag 0,au,af 0,af 0] 172);generalize w.alloc (.cells #[ag 0,au,af 0,af 0] 172)=W at*;obtain⟨z0,z1,z2,z3,y0,y1,y2,y3⟩:=bO HZ.ae;clear t0;go_loop [8,11] (λ u x=>∃(k:Nat) (acc:w_),k<=s.size/\acc.length<=k/\u=af k/\x=.string ⟨acc.toArray⟩/\more [] (gF (s.data.toList.drop (at_+1)))=more acc (gF (s.data.toList.drop k))) (λ u _=>s.size - (intOf u).toNat);case atStart=>exact⟨at_+1,[],ha,by simp,by go_num,rfl,rfl⟩
 case round=>
  obtain⟨k,acc,hk,acI,rfl,rfl,hf⟩:=hrel;have HF:=aa hf;clear hf;by_cases hlt:k < s.size
  ·have HB:=aa (fq s k hlt);by_cases hq:s[k]=39
   ·have HQ:=aa hq;have t1:(((s[k].toNat:Nat):Int)==39)=true:=by rw[hq];rfl
    clear hq;by_cases AK:k+1 < s.size
    ·have eX:=aa (fq s (k+1) AK);have n2:=decide_eq_false (show¬((s.size:Int)<=(k:Int)+1) by omega);by_cases Ke:s[k+1]=39
     ·have Vy:=aa Ke;have t2:(((s[k+1].toNat:Nat):Int)==39)=true:=by rw[Ke];rfl
      have t3:(((s[k+1].toNat:Nat):Int) != 39)=false:=by rw[Ke];rfl
      have hx:=zg s (k+1) AK;have AL:=lC s (k+1) (k+1+1) ((k:Int)+1) ((k:Int)+1+1) TD TD TD TD W;rw[hx,Ke] at AL;clear Ke hx;go_wp2_with fail;go_round;case rel=>refine⟨k+2,acc++ [39],by omega,by simp;omega,by go_num,by rw[mj],?_⟩;rw[HF.ae,cJ HB.ae,cJ eX.ae,HQ.ae,Vy.ae,B9]
      case measure=>exact ZaU
     ·have t2:(((s[k+1].toNat:Nat):Int)==39)=false:=by rw[beq_eq_false_iff_ne];intro h;exact Ke (UInt8.toNat_inj.1 (by simpa using(by omega:s[k+1].toNat=39)))
      have t3:(((s[k+1].toNat:Nat):Int) != 39)=true:=by simpa [bne] using t2
      have aij:=aa (show(s.data.toList.drop (k+1)).head?≠some 39 by rw[cJ eX.ae];simpa using Ke);clear Ke;exact Zcj
    ·have n2:=decide_eq_true (show((s.size:Int)<=(k:Int)+1) by omega);have aij:=aa (show(s.data.toList.drop (k+1)).head?≠some 39 by rw[drop_eq_nil_of_le Tar];simp);exact Zcj
   ·have HQ:=aa hq;have t1:(((s[k].toNat:Nat):Int)==39)=false:=by rw[beq_eq_false_iff_ne];intro h;exact hq (UInt8.toNat_inj.1 (by simpa using(by omega:s[k].toNat=39)))
    have AL:=lC s k (k+1) (k:Int) ((k:Int)+1) rfl TD TD TD W;rw[zg s k hlt] at AL;clear hq;go_wp2_with fail;go_round;case rel=>refine⟨k+1,acc++ [s[k]],by omega,by simp;omega,by go_num,by rw[mj],?_⟩;rw[HF.ae,cJ HB.ae,PL HQ.ae]
    case measure=>exact ZaU
  ·have D7:=aa (show s.data.toList.drop k=[] by rw[drop_eq_nil_of_le Tar]);go_wp2_with fail;refine bodyPost_ret (v:=.tuple #[.agg #[ag 0,au,af 0,af 0],af 0,af 30]) ZbA rfl ?_
   ·rw[rq.ae,HF.ae,D7.ae];exact ZbU):p:=h
theorem D5 (s:t_)(at_:Nat)(w:rQ)(ha:at_ < s.size)(hc:gD s[at_]=false)(hdg:bB s[at_]=false)(hq:s[at_]=39)(hs:s.size<=4294967280):
  ar 132 #[.string s,af at_] w (Aa s at_ w (iG (s.data.toList.drop at_))):=by
 have hd:=cJ (fq s at_ ha)
 have mE:iG (s.data.toList.drop at_)=match more [] (gF (s.data.toList.drop (at_+1)))with
   | some (t,rest)=> .ok (⟨3,t,0⟩,rest)
   | none=> .error 30:=by
  rw[B8,hd];simp only[iG,hc,hdg,if_pos hq];rfl
 generalize iG (s.data.toList.drop at_)=R at*;have t0:(((s[at_].toNat:Nat):Int)==39)=true:=by rw[hq];rfl
 open zfQ in exact Zd1
theorem Vz{s:t_} {a:Nat} (hb:a+x.length<=s.size):((s.extract a (a+x.length)).toList==x)=x.isPrefixOf (s.data.toList.drop a):=by
 rw[ByteArray.toList_eq,pj,drop_take,Nat.add_sub_cancel_left];rw[Bool.eq_iff_iff,beq_iff_eq,isPrefixOf_iff_prefix];constructor
 ·intro h;refine⟨(s.data.toList.drop a).drop x.length,?_⟩;have:=take_append_drop x.length (s.data.toList.drop a);rwa [h] at this
 ·rintro⟨r,h⟩;rw[<- h];simp
theorem VC{s:t_} {a:Nat} (hb:¬a+x.length<=s.size)(ha:a<=s.size):x.isPrefixOf (s.data.toList.drop a)=false:=by rw[Bool.eq_false_iff];intro h;rw[isPrefixOf_iff_prefix] at h;have:=h.length_le;rw[length_drop] at this;simp at this;omega
theorem zfR.Kbw(h:p:=by
 have HZ:=aa ((aB.new w 172 #[ag 0,au,af 0,af 0]).alloc (.cells (signs.map λ l=>Value.string ⟨l.toArray⟩).toArray 9));have hG:aB ((w.alloc (.cells #[ag 0,au,af 0,af 0] 172)).alloc (.cells (signs.map λ l=>Value.string ⟨l.toArray⟩).toArray 9)) (w.heap.size+1) 9 (signs.map λ l=>Value.string ⟨l.toArray⟩).toArray:=by have:=aB.new (w.alloc (.cells #[ag 0,au,af 0,af 0] 172)) 9 (signs.map λ l=>Value.string ⟨l.toArray⟩).toArray;simpa using this
 have Kx:aj w ((w.alloc (.cells #[ag 0,au,af 0,af 0] 172)).alloc (.cells (signs.map λ l=>Value.string ⟨l.toArray⟩).toArray 9)):=((Below.refl _ _).alloc (Nat.le_refl _) _).alloc Taa _;have HG:=aa hG;clear hG t0;simp only[signs,map_cons,map_nil] at HZ HG Kx;generalize (w.alloc (.cells #[ag 0,au,af 0,af 0] 172)).alloc _=W at*;go_loopw [13] (λ u wr=>∃i n:Nat,i<=15/\u=af i/\wr=W.drewN n/\kS signs (s.data.toList.drop at_)=kS (signs.drop i) (s.data.toList.drop at_)) (λ u _=>15 - (intOf u).toNat);case atStart=>exact⟨0,0,by omega,rfl,rfl,rfl⟩
 case round=>
  obtain⟨i,n,hi,rfl,rfl,hsg⟩:=hrel;have oD:=aa hsg;clear hsg;have HZn:=aa (HZ.ae.drewN n);have bb:=Kx.trans ((mV W n).mono Kx.size);by_cases anl:i < 15
  ·obtain⟨x,hx,hdx,hx1,hx2⟩:=acE anl
   have hcell:(W.drewN n).cell? ⟨w.heap.size+1,i,none⟩=some (.string ⟨x.toArray⟩):=by
    rw[(HG.ae.drewN n).cell i];have:(signs.map λ l=>Value.string ⟨l.toArray⟩).toArray[i]?=some (.string ⟨x.toArray⟩):=by simp[hx]
    exact this
   generalize hWn:W.drewN n=Wn at*;have HWN:=aa hWn;have HDX:=aa hdx;clear hWn hx hdx;by_cases hto:at_+x.length<=s.size
   ·have n1:=decide_eq_true (show((at_:Int)+(x.length:Int))<=(s.size:Int) by omega);have HT:=aa (Vz hto);cases hp:x.isPrefixOf (s.data.toList.drop at_)
    ·have HP:=aa hp;have t1:((s.extract at_ (at_+x.length)).toList==x)=false:=HT.ae.trans hp;have AL:=λ W':rQ=>lC s at_ (at_+x.length) (at_:Int) ((at_:Int)+(x.length:Int)) rfl TD TD hto W'
     clear hp;exact Zc7
    ·have HP:=aa hp;have t1:((s.extract at_ (at_+x.length)).toList==x)=true:=HT.ae.trans hp;have AL:=λ W':rQ=>lC s at_ (at_+x.length) (at_:Int) ((at_:Int)+(x.length:Int)) rfl TD TD hto W'
     clear hp;go_wp2_with fail;go_quiet (fail);obtain⟨z0,z1,z2,z3,y0,y1,y2,y3⟩:=bO (HZn.ae.drewN nq);have bq:=bb.trans ((mV Wn nq).mono bb.size);have ZQ:(Wn.drewN nq).cell? ⟨w.heap.size+1,i,none⟩=some (.string ⟨x.toArray⟩):=hcell;generalize Wn.drewN nq=Wq at*;clear hcell;go_wp2_with fail;refine bodyPost_ret (v:=.tuple #[.agg #[ag 4,.string ⟨x.toArray⟩,af 0,af at_],af ((at_:Int)+(x.length:Int)),af 0]) ZbA rfl ?_
     ·have e1:kS signs (s.data.toList.drop at_)=some x:=by rw[oD.ae,HDX.ae,kS,if_pos HP.ae]
      rw[rq.ae,e1];unfold Aa;simp only;have e2:s.size - ((s.data.toList.drop at_).drop x.length).length=at_+x.length:=by rw[drop_drop,length_drop,HLEN.ae];omega
      rw[e2];exact⟨rfl,wj bq (Nat.le_refl _) _ _ _ _⟩
   ·have n1:=decide_eq_false (show¬((at_:Int)+(x.length:Int))<=(s.size:Int) by omega);have HP:=aa (VC hto TD);exact Zc7
  ·obtain rfl:i=15:=by omega
   obtain⟨z0,z1,z2,z3,y0,y1,y2,y3⟩:=bO HZn.ae;generalize W.drewN n=Wn at*;exact ZcA):p:=h
theorem D8 (s:t_)(at_:Nat)(w:rQ)(ha:at_ < s.size)(hc:gD s[at_]=false)(hdg:bB s[at_]=false)(hq:s[at_]≠39)(hs:s.size<=4294967280):
  ar 132 #[.string s,af at_] w (Aa s at_ w (iG (s.data.toList.drop at_))):=by
 have hd:=cJ (fq s at_ ha)
 have mE:iG (s.data.toList.drop at_)=match kS signs (s.data.toList.drop at_)with
   | some x=> .ok (⟨4,x,0⟩,(s.data.toList.drop at_).drop x.length)
   | none=> .error 30:=by
  rw[hd];simp only[iG,hc,hdg,if_neg hq];rfl
 generalize iG (s.data.toList.drop at_)=R at*;have t0:(((s[at_].toNat:Nat):Int)==39)=false:=by rw[beq_eq_false_iff_ne];intro h;exact hq (UInt8.toNat_inj.1 (by simpa using(by omega:s[at_].toNat=39)))
 open zfR in exact Zd1
theorem acJ (s:t_)(at_:Nat)(w:rQ)(ha:at_ < s.size)(hs:s.size<=4294967280):
  ar 132 #[.string s,af at_] w (Aa s at_ w (iG (s.data.toList.drop at_))):=by
 cases hl:gD s[at_]
 ·cases hd:bB s[at_]
  ·by_cases hq:s[at_]=39
   ·exact D5 s at_ w ha hl hd hq hs
   ·exact D8 s at_ w ha hl hd hq hs
  ·exact one_num s at_ w ha hl hd hs
 ·exact D4 s at_ w ha hl hs
def LX (n:Nat)(r:w_):Except (Nat×Nat) (List qX):=xN n (n+1) r
def pre (acc:List qX):Except (Nat×Nat) (List qX)->Except (Nat×Nat) (List qX)
 | .error e=> .error e
 | .ok l=> .ok (acc++l)
def D9 (n:Nat):qX:=⟨⟨0,[],0⟩,n⟩
theorem xU (b:Bool)(r:w_):cE false (cE b r)=cE b r:=by
 induction r generalizing b with
 | nil=>cases b <;> rfl
 | cons d r ih=>
   cases b with
   | true=>
     simp only[cE];split
     ·exact ih false
     ·exact ih true
   | false=>
     by_cases h1:qW d=true
     ·simp only[cE,if_pos h1];exact ih false
     ·by_cases h2:d=45/\r.head?=some 45
      ·simp only[cE,if_neg h1,if_pos h2];exact ih true
      ·have:cE false (d::r)=d::r:=by simp only[cE,if_neg h1,if_neg h2]
       rw[this,this]
theorem SY (n:Nat)(r:w_):LX n (cE false r)=LX n r:=by unfold LX;simp only[xN];have:=xU false r;rw[this]
theorem ail{n:Nat} (h:cE false r=[]):LX n r=.ok [D9 n]:=by unfold LX;simp only[xN,h];rfl
variable{r':w_}
theorem aim{n:Nat}  {c:UInt8} {e:Nat}(h:cE false r=c::r')(ho:iG (c::r')=.error e):LX n r=.error (n - (c::r').length,e):=by unfold LX;simp only[xN,h,ho]
theorem anm{n:Nat}  {c:UInt8} {w:Wd}(hr:r.length<=n)(h:cE false r=c::r')(ho:iG (c::r')=.ok (w,rest)):LX n r=pre [⟨w,n - (c::r').length⟩] (LX n rest):=by
 have h1:=AD ho;have h2:=ky false r;rw[h] at h2;unfold LX;conv=>lhs;unfold xN
 simp only[h,ho];rw[FL n n (n+1) rest TD TD];cases xN n (n+1) rest <;> rfl
theorem acK (a b:List qX)(x:Except (Nat×Nat) (List qX)):pre a (pre b x)=pre (a++b) x:=by cases x <;> simp[pre]
theorem acL (x:Except (Nat×Nat) (List qX)):pre [] x=x:=by cases x <;> rfl
theorem E0{x:Nat}(h:iG r=.error x):x=2\/x=30:=by
 cases r with
 | nil=>simp[iG] at h;exact .inr h.symm
 | cons c r=>
   simp only[iG] at h;split at h
   ·split at h
    ·cases h
    ·injection h with h;exact .inl h.symm
   ·split at h
    ·exact Zfh
    ·split at h
     ·exact Zfh
     ·exact Zfh
theorem LM{w:Wd}(h:iG r=.ok (w,rest)):rest <:+ r:=by obtain⟨b,hb,_⟩:=BV h;exact⟨b,hb.symm⟩
def ru (t:qX):wL:=[ag t.w.k,.string ⟨t.w.s.toArray⟩,af t.w.n,af t.p]
theorem LN:(Tryz.prog.info? 172).map (λ i=>(i.zero,i.size,i.bytes))=some (some (.agg #[ag 0,au,af 0,af 0]),4,40):=by exact ZgH
def LO (w:rQ)(base:Nat)(v:Value)(l:List qX):Prop:=aH ru 172 4 w base v l
def wk (s:t_)(w:rQ)(e:Ending)(w':rQ):Prop:=
 match zY s.data.toList with
 | .error (p,x)=>e=.returned (.tuple #[ay,af p,af x])/\aj w w'
 | .ok l=>∃v,e=.returned (.tuple #[v,af 0,af 0])/\LO w' w.heap.size v l/\aj w w'
theorem E1{s:t_}(h:4096 < s.size):zY s.data.toList=.error (0,2):=by unfold zY;rw[if_pos Tai]
theorem acM{s:t_}(h:¬4096 < s.size):zY s.data.toList=LX s.size s.data.toList:=by
 unfold zY LX;have:s.data.toList.length=s.size:=by simp
 rw[this,if_neg h]
structure E3 (s:t_) (w:rQ) (a:Nat) (v:Value) (acc:List qX) (wr:rQ):Prop where
 bel:aj w wr
 own:LO wr w.heap.size v acc
 le:a<=s.size
 len:acc.length<=a
 skip:cE false (s.data.toList.drop a)=s.data.toList.drop a
 more:LX s.size s.data.toList=pre acc (LX s.size (s.data.toList.drop a))
theorem E4 (s:t_)(w:rQ)(hs:s.size<=4294967280):ar 85 #[.string s] w (wk s w):=by
 by_cases ann:4096 < s.size
 ·unfold wk;rw[E1 ann];go_enter Tryz.func85,Tryz.ntmps85;go_wp2_with fail;go_ret3;exact⟨rfl,Below.refl _ _⟩
 ·have HPO:=aa (acM ann);have HLEN:=aa (show s.data.toList.length=s.size by simp);go_enter Tryz.func85,Tryz.ntmps85;go_wp2_with fail;refine(FP s 0 _ (Nat.zero_le _) hs).mono ?_;rintro e w1 ⟨rfl,rfl⟩
  have hA:E3 s w (gj s 0) (ay) [] w:=by
   refine⟨Below.refl _ _,aH.nil,xT _ _,Nat.zero_le _,?_,?_⟩
   ·rw[mY];exact xU _ _
   ·rw[mY,SY,acL];rfl
  generalize gj s 0=a0 at*;have HA:=aa hA;clear hA;go_wp2_with fail;go_loopw [5,6] (λ x y wr=>∃(a:Nat) (acc:List qX) (u:Value),x=u/\y=af a/\E3 s w a u acc wr) (λ _ y _=>s.size - (intOf y).toNat);case atStart=>exact⟨a0,[],_,rfl,rfl,HA.ae⟩
  case round=>
   obtain⟨a,acc,u,hu,rfl,hA⟩:=hrel;have hu2:=hu.symm;clear hu;subst hu2;have ain:=hA.bel.size;have acI:=hA.len;have hae:=hA.le;have XU:=aa hA;clear hA;by_cases ha:a < s.size
   ·go_wp2_with fail;refine(acJ s a _ ha hs).mono ?_;intro e w2 hp;have HB:=aa (fq s a ha);rcases hres:iG (s.data.toList.drop a)with x |⟨d,rest⟩
    ·rw[hres] at hp;obtain⟨rfl,hb⟩:=hp;have hx:=E0 hres;have jR:=aa hres;have n1:((x:Int)==0)=false:=by rcases hx with rfl | rfl <;> rfl
     have n2:((x:Int) != 0)=true:=by rcases hx with rfl | rfl <;> rfl
     have n3:¬((x:Int)=0):=by omega
     clear hres;go_wp2_with fail;go_ret3;unfold wk;rw[HPO.ae,XU.ae.more,aim (by rw[XU.ae.skip];exact cJ HB.ae) (by rw[<- cJ HB.ae];exact jR.ae)];have e1:s.size - (s[a]::s.data.toList.drop (a+1)).length=a:=by rw[<- cJ HB.ae,length_drop,HLEN.ae];omega
     rw[e1];exact⟨rfl,XU.ae.bel.trans ((hb.mono ain).trans ((ah w2 _).mono (by have:=hb.size;omega)))⟩
    ·rw[hres] at hp;obtain⟨rfl,hb⟩:=hp;have jR:=aa hres;clear hres;have bW:=((Below.refl w2.heap.size w2).alloc (Nat.le_refl _) (.cells (ru ⟨d,a⟩).toArray 172)).alloc Taa (.cells (ru ⟨d,a⟩).toArray 172);have hown:LO w2 w.heap.size u acc:=XU.ae.own.later hb;have HO:=aa (hown.later bW);have hG:aB ((w2.alloc (.cells (ru ⟨d,a⟩).toArray 172)).alloc (.cells (ru ⟨d,a⟩).toArray 172)) (w2.heap.size+1) 172 (ru ⟨d,a⟩).toArray:=by have:=aB.new (w2.alloc (.cells (ru ⟨d,a⟩).toArray 172)) 172 (ru ⟨d,a⟩).toArray;simpa using this
     have HG:=aa hG;have ano:aj w ((w2.alloc (.cells (ru ⟨d,a⟩).toArray 172)).alloc (.cells (ru ⟨d,a⟩).toArray 172)):=XU.ae.bel.trans ((hb.mono ain).trans (bW.mono (by have:=hb.size;omega)));have Cg:=aa ano;clear hown hG ano bW hb;have SZ:rest <:+ s.data.toList:=(LM jR.ae).trans (List.drop_suffix _ _);have hq:s.data.toList.drop (s.size - rest.length)=rest:=by have:=drop_suffix SZ;rwa [HLEN.ae] at this
     have aCd:rest.length < s.size - a:=by have:=AD jR.ae;rwa [length_drop,HLEN.ae] at this
     have HQ:=aa hq;have aCe:s.size - rest.length<=gj s (s.size - rest.length):=by unfold gj;rw[HQ.ae];have:=ky false rest;omega
     clear hq SZ;unfold ru at HG HO Cg;go_wp2_with (first
      |(at_builtin
        refine aS rfl (.tmp 30) (.tmp 32) 164 rfl _ 40 Tryz.underlying164 LN rfl TD ⟨d,a⟩ rfl (by simp[ru,Value.oneCell']) rfl HO.ae (w2.heap.size+1) rfl HG.ae TD TD Cg.ae.size ?_
        intro v2 w3 o2 g2
        have b2:=bj HO.ae g2 Cg.ae.size
        have O2:=aa o2
        have B2:=aa (Cg.ae.trans b2)
        clear o2 g2 HO HG b2 Cg))
     refine(FP s (s.size - rest.length) _ (Nat.sub_le _ _) hs).mono ?_;rintro e w4 ⟨rfl,rfl⟩;go_wp2_with fail;go_roundw
     case rel=>
      refine⟨gj s (s.size - rest.length),acc++ [qX.mk d a],v2,rfl,rfl,B2.ae,O2.ae,xT _ _,?_,?_,?_⟩
      ·rw[length_append,length_singleton];omega
      ·rw[mY];exact xU _ _
      ·have e1:s.size - (s[a]::s.data.toList.drop (a+1)).length=a:=by rw[<- cJ HB.ae,length_drop,HLEN.ae];omega
       rw[XU.ae.more,anm (by rw[length_drop,HLEN.ae];omega) (by rw[XU.ae.skip];exact cJ HB.ae) (by rw[<- cJ HB.ae];exact jR.ae),e1,acK,mY,SY,HQ.ae]
     case measure=>have:=xT s (s.size - rest.length);exact ZaU
   ·have hnil:s.data.toList.drop a=[]:=drop_eq_nil_of_le Tar;have D7:=aa hnil;clear hnil;have bW:=(Below.refl wr.heap.size wr).alloc (Nat.le_refl _) (.cells (ru (D9 s.size)).toArray 172);have HO:=aa (XU.ae.own.later bW);have HG:=aa (aB.new wr 172 (ru (D9 s.size)).toArray);have Cg:=aa (XU.ae.bel.trans (bW.mono ain));clear bW;unfold ru D9 at HG HO Cg;go_wp2_with (first
     |(at_builtin
       refine aS rfl (.tmp 37) (.tmp 41) 164 rfl _ 40 Tryz.underlying164 LN rfl TD (D9 s.size) rfl (by simp[ru,Value.oneCell']) rfl HO.ae wr.heap.size rfl HG.ae TD TD Cg.ae.size ?_
       intro v2 w3 o2 g2
       have b2:=bj HO.ae g2 Cg.ae.size
       have O2:=aa o2
       have B2:=aa (Cg.ae.trans b2)
       clear o2 g2 HO HG b2 Cg))
    go_ret3;unfold wk;rw[HPO.ae,XU.ae.more,D7.ae,ail rfl];exact⟨v2,rfl,O2.ae,B2.ae⟩
theorem Ta (t:qX):(ru t).length=4:=rfl
variable{base:Nat}
theorem LO.at_{w:rQ}  {v:Value} {l:List qX}(h:LO w base v l) {k:Nat} {t:qX}(hk:l[k]?=some t):
  ∃g c,v=aL g l.length c/\g < w.heap.size/\w.cell? ⟨g,k*4,none⟩=some (ag t.w.k)/\w.cell? ⟨g,k*4+1,none⟩=some (.string ⟨t.w.s.toArray⟩)/\w.cell? ⟨g,k*4+2,none⟩=some (af t.w.n)/\w.cell? ⟨g,k*4+3,none⟩=some (af t.p):=by obtain⟨g,c,hv,_,hlt,hc⟩:=aH.cell Ta h hk;exact⟨g,c,hv,hlt,hc 0 _ rfl,hc 1 _ rfl,hc 2 _ rfl,hc 3 _ rfl⟩
theorem LO.cells{w:rQ}  {A:z_} {n c:Nat} {l:List qX}(h:LO w base (.slice A n c) l)(hne:l≠ []):
  ∃g,A=some ⟨g,0,none⟩/\base<=g/\g < w.heap.size/\∀k t,l[k]?=some t->w.cell? ⟨g,k*4,none⟩=some (ag t.w.k)/\w.cell? ⟨g,k*4+1,none⟩=some (.string ⟨t.w.s.toArray⟩)/\w.cell? ⟨g,k*4+2,none⟩=some (af t.w.n)/\w.cell? ⟨g,k*4+3,none⟩=some (af t.p):=by
 match l,hne with
 | t0::l,_=>obtain⟨g,c0,hv,hb,hlt,_⟩:=aH.cell Ta h (k:=0) (x:=t0) rfl;injection hv with hA _ _;refine⟨g,hA,hb,hlt,λ k t hk=>?_⟩;obtain⟨g',c',hv',_,a⟩:=h.at_ hk;injection hv' with hA' _ _;rw[hA] at hA';injection hA' with hA';injection hA' with hg _ _;subst hg;exact a
structure dy where
 g:Nat
 gl:Nat
 c:Nat
 VD:List qX
def dy.n (ρ:dy):Nat:=ρ.VD.length
def dy.ws (ρ:dy):dH:=ρ.VD.map (·.w)
def dy.bad (ρ:dy):ck->Int
 | .good _=> -1
 | .bad m=>(ρ.n:Int) - m
def dy.cells (ρ:dy)(σ:ck)(big:Bool):x_:= #[aL ρ.gl ρ.n ρ.c,af ((ρ.n:Int) - σ.left),af (ρ.bad σ),.bool big]
structure dy.at (ρ:dy) (w:rQ) (σ:ck) (big:Bool):Prop where
 blk:aB w ρ.g 169 (ρ.cells σ big)
 lt:ρ.gl < ρ.g
 cell:∀k t,ρ.VD[k]?=some t->w.cell? ⟨ρ.gl,k*4,none⟩=some (ag t.w.k)/\w.cell? ⟨ρ.gl,k*4+1,none⟩=some (.string ⟨t.w.s.toArray⟩)/\w.cell? ⟨ρ.gl,k*4+2,none⟩=some (af t.w.n)/\w.cell? ⟨ρ.gl,k*4+3,none⟩=some (af t.p)
 of:σ.of ρ.ws
 small:ρ.n<=5000
 E5:∀t∈ρ.VD,0<=t.w.n/\t.w.n<=9223372036854775807
section
variable {ρ:dy} {w w':rQ} {σ:ck} {big:Bool}
theorem dy.at.later (h:ρ.at w σ big)(hb:aj w w'):ρ.at w' σ big:=
 ⟨h.blk.later hb,h.lt,λ k t hk=>by
   have hl:ρ.gl < w.heap.size:=Nat.lt_trans h.lt h.blk.lt
   have c:=λ o=>hb.cell (p:=⟨ρ.gl,o,none⟩) hl
   obtain⟨h1,h2,h3,h4⟩:=h.cell k t hk
   exact⟨(c _).trans h1,(c _).trans h2,(c _).trans h3,(c _).trans h4⟩,h.of,h.small,h.E5⟩
theorem dy.at.FQ (h:ρ.at w σ big):ρ.g < w.heap.size:=h.blk.lt
theorem dy.at.set {zh:ck} {PO:Bool}(h:ρ.at w σ big)(hw:aB w' ρ.g 169 (ρ.cells zh PO))(hg:w.grownBy w' (some ρ.g))(ho:zh.of ρ.ws):ρ.at w' zh PO:=
 ⟨hw,h.lt,λ k t hk=>by
   have hl:ρ.gl < w.heap.size:=Nat.lt_trans h.lt h.blk.lt
   have c:=cell_of_heap (hg.block ρ.gl hl (λ e=>by injection e with e;have:=h.lt;omega))
   obtain⟨h1,h2,h3,h4⟩:=h.cell k t hk
   exact⟨(c _).trans h1,(c _).trans h2,(c _).trans h3,(c _).trans h4⟩,ho,h.small,h.E5⟩
theorem dy.at.left (h:ρ.at w σ big):0 < σ.left/\σ.left<=ρ.n:=by have:=ck.PJ h.of;simpa [dy.ws,dy.n] using this
theorem dy.at.far {q:Nat}(h:ρ.at w σ big)(hq:ρ.g < q)(i:Nat)(u:Value):ρ.at (w.setCell ⟨q,i,none⟩ u) σ big:=
 ⟨h.blk.far (p:=⟨q,i,none⟩) Tab u,h.lt,λ k t hk=>by
   have c:=cell_of_heap (Below.heap_setCell w ⟨q,i,none⟩ u ρ.gl (by have:=h.lt;simp;omega))
   obtain⟨h1,h2,h3,h4⟩:=h.cell k t hk
   exact⟨(c _).trans h1,(c _).trans h2,(c _).trans h3,(c _).trans h4⟩,h.of,h.small,h.E5⟩
theorem dy.at.next (h:ρ.at w σ big):∃t:qX,ρ.VD[ρ.n - σ.left]?=some t/\(∀l,σ=.good l->∃r,l=t.w::r):=by
 obtain⟨h1,h2⟩:=h.left;have hlt:ρ.n - σ.left < ρ.VD.length:=by unfold dy.n at*;omega
 refine⟨_,getElem?_eq_getElem hlt,?_⟩;rintro l rfl;obtain⟨t,r,hl,hk⟩:=ck.of_next h.of;refine⟨r,?_⟩;have e:ρ.ws.length - l.length=ρ.n - (ck.good l).left:=by simp[dy.ws,dy.n,ck.left]
 rw[e] at hk;unfold dy.ws at hk;rw[getElem?_map,getElem?_eq_getElem hlt] at hk;simp only[Option.map_some] at hk;injection hk with hk;rw[hk];exact hl
end
structure eN (ρ:dy) (W w':rQ) (zh:ck) (PO:Bool):Prop where
 at_:ρ.at w' zh PO
 grown:W.grownBy w' (some ρ.g)
section
variable {ρ:dy} {W w w':rQ} {σ zh:ck} {big PO:Bool}
theorem eN.refl (h:ρ.at w σ big):eN ρ w w σ big:=⟨h,aO (Below.refl _ _)⟩
theorem eN.dh (h:ρ.at w σ big)(hb:aj w w'):eN ρ w w' σ big:=⟨h.later hb,aO hb⟩
theorem eN.later (h:eN ρ W w σ big)(hb:aj w w'):eN ρ W w' σ big:=⟨h.at_.later hb,aY h.grown (aO hb)⟩
theorem eN.trans (h:eN ρ W w σ big)(k:eN ρ w w' zh PO):eN ρ W w' zh PO:=⟨k.at_,aY h.grown k.grown⟩
theorem eN.size (h:eN ρ W w σ big):W.heap.size<=w.heap.size:=h.grown.size
theorem eN.far {q:Nat}(h:eN ρ W w σ big)(hW:ρ.g < W.heap.size)(hq:W.heap.size<=q)(i:Nat)(u:Value):eN ρ W (w.setCell ⟨q,i,none⟩ u) σ big:=by
 refine⟨h.at_.far TD i u,h.grown.os,h.grown.tape,h.grown.output,?_,λ k hk hkg=>?_⟩
 ·have:(w.setCell ⟨q,i,none⟩ u).heap.size=w.heap.size:=by simp[World.setCell]
  rw[this];exact h.grown.size
 ·rw[Below.heap_setCell w ⟨q,i,none⟩ u k Tab];exact h.grown.block k hk hkg
theorem eN.blk {q:Nat} {t:TypeId} {cs:x_}(h:eN ρ W w σ big)(hq:aB W q t cs)(hg:q≠ρ.g):aB w q t cs:=hq.grown h.grown λ e=>hg Tbj
end
end Go.Proofs.YtndgjggokjickaaGreatDoor.R
