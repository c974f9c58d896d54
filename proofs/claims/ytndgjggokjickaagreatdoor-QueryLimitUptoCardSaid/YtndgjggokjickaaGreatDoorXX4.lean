/- Parts of the proof. -/
import Derived.Laws.CopyOwn
import Derived.Lib.ItoaLen
import Derived.Lib.AppendZeros
import Derived.Lib.ParseIntB
import Derived.Lib.Case
import Derived.Test.YtndgjggokjickaaGreatDoorXX3
namespace Go.Proofs.YtndgjggokjickaaGreatDoor
open List
variable{p:Prop}
set_option maxHeartbeats 90000000
set_option maxRecDepth 100000
open Go.RowKit
set_option linter.unusedVariables false
def nA (u:Nat->Value)(M:List Nat)(σ:Nat->Option Value)(i:Nat)(_:World)(v:Value):Prop:=if i∈M then σ i=some v else v=u i
def gC (σ:Nat->Option Value)(i:Nat)(v:Value):Nat->Option Value:=λ j=>if j=i then some v else σ j
theorem Fw (σ:Nat->Option Value)(i:Nat)(v:Value):gC σ i v i=some v:=by simp[gC]
variable{j:Nat}
theorem abE(σ:Nat->Option Value) {i:Nat}(v:Value)(h:j≠i):gC σ i v j=σ j:=by simp[gC,h]
def aeH (P:Program)(l:List Oper)(u:Nat->Value)(M:List Nat)(G:(Nat->Option Value)->World->Prop)(a0:Act)(i:Nat)(o:Oper):Prop:=
 ∀ρ w σ,oC ρ->G σ w->lQ l (nA u M σ) a0.eval ρ w o (tmpsOf o)->(∀e∈eX o,e∈M->(σ e).isSome=true)->(i∈M->σ i=none)->o.guard=none/\
  if i∈M then xi P o ρ w λ v w'=>G (gC σ i v) w' else(execOp ρ o).run P w=.ok (.value (u i)) w
def OE (P:Program)(l:List Oper)(u:Nat->Value)(M:List Nat)(G:(Nat->Option Value)->World->Prop)(a0:Act):List Oper->Nat->Prop
 | [],_=>True
 | o::rest,i=>aeH P l u M G a0 i o/\OE P l u M G a0 rest (i+1)
variable{P:Program}{L:List Oper}{u:Nat->Value}{M:List Nat}{G:(Nat->Option Value)->World->Prop}{a0:Act}
theorem Fx:∀ {l:List Oper} {k:Nat},OE P L u M G a0 l k->∀i o,l[i]?=some o->aeH P L u M G a0 (k+i) o
 | [],_,_,i,o,h=>by simp at h
 | x::l,k,hs,0,o,h=>by simp at h;subst h;exact hs.1
 | x::l,k,hs,i+1,o,h=>by have:=Fx hs.2 i o Tal;rwa [show k+1+i=k+(i+1) by omega] at this
section
variable {P:Program} {l zs:List Oper} {Q:Exit->Act->World->Prop} {u:Nat->Value} {M:List Nat} {G:(Nat->Option Value)->World->Prop} {a0:Act} {w0:World} {V:Nat->World->Value->Prop}
theorem zb2.Kan(h:p:=by
 have hK:=xj (V:=V) (λ d=>a.eval (.tmp d)) l 0 a0 (λ i o d hi hd=>by
  rw[Nat.zero_add]
  have rZ:i < l.length:=by
   rcases Nat.lt_or_ge i l.length with h' | h'
   ·exact h'
   ·rw[getElem?_eq_none h'] at hi;cases hi
  exact I.new i o d hi (hall i rZ) hd) hf
 rw[<- ha] at hK;exact Zbn):p:=h
theorem Fy {N:Nat}(aZ:dM l N l 0=true)(hz:eI (l++zs) zs l.length=true) {listed:Array Bool} {a:Act} {w:World}(hf:bE V (λ a w=>wpList P (l++zs).toArray Q zs a w) l 0 a0 w)(I:Inv l V (λ _ _=>True) a0 w0 (l++zs).length listed a w)
  (h0:bw l.length listed=0):wpAny P .any (l++zs).toArray Q zs.length listed a w:=by
 open zb2 in exact ZaG
theorem zfs.Kbd(h:p:=by
 by_cases hjm:i∈M
 ·rw[if_pos hjm] at hstep;refine jw hstep ?_;intro v w' Rq;have hne:∀Kx,Kx≠i->gC σ i v Kx=σ Kx:=λ Kx hi=>abE σ v hi
  have I':Inv l (nA u M (gC σ i v)) (λ _ _=>True) a0 w0 (l++zs).length listed a w:=I.imp (λ Kx w x h=>by
   unfold nA at*
   by_cases Ro:Kx∈M
   ·rw[if_pos Ro] at h ⊢
    rw[hne Kx (λ e=>by subst e;rw[hnone Ro] at h;cases h)]
    exact h
   ·rw[if_neg Ro] at h ⊢;exact h)
  refine ih _ _ _ (gC σ i v) (I'.step aZ (λ _ _ _ _ h _=>h) (λ _ _ _ _ _=>trivial) vo zu AL eY trivial ?_) Rq ?_ YR
  ·unfold nA;rw[if_pos hjm];exact Fw σ i v
  ·intro k hk;rw[eF _ _ _ YQ];by_cases hkj:k=i
   ·subst hkj;rw[Fw];simp
   ·rw[if_neg hkj,hne k hkj];exact cf k hk
 ·rw[if_neg hjm] at hstep;refine jw (T:=λ v w'=>v=u i/\w'=w) (aq hstep ⟨rfl,rfl⟩) ?_;rintro v w' ⟨rfl,rfl⟩;refine ih _ _ _ σ (I.step aZ (λ _ _ _ _ h _=>h) (λ _ _ _ _ _=>trivial) vo zu AL eY trivial ?_) hg ?_ YR
  ·unfold nA;rw[if_neg hjm]
  ·intro k hk;rw[eF _ _ _ YQ,if_neg (λ e:k=i=>hjm (by rw[<- e];exact hk))];exact cf k hk):p:=h
theorem zao.KG(h:p:=by
 have hst:=Fx hs i oj vo;rw[Nat.zero_add] at hst;have mC:=Inv.reads aZ I vo AL eY (tmpsOf oj) (λ _ h=>h)
 have hnone:i∈M->σ i=none:=λ hjm=>by
  cases jZ:σ i with
  | none=>rfl
  | some v=>have:=(cf i hjm).2 (by rw[jZ];rfl);rw[AL] at this;cases this
 obtain⟨hgd,hstep⟩:=hst a.eval w σ (mH a) hg mC (λ e he hem=>(cf e hem).1 (eY e he)) hnone;open zfs in exact Zda):p:=h
theorem mS {id:Nat} {ops:List Oper}(zs:List Oper)(l:List Oper)(kI:ops=l++zs)(u:Nat->Value)(M:List Nat)(G:(Nat->Option Value)->World->Prop)(nO:∀σ w,G σ w->G σ w.drew)(hG:G (λ _=>none) w0)
  (hm:P.follows .mixedOrders=true) (aZ:dM l a0.tmps.size l 0=true) (hz:eI (l++zs) zs l.length=true) (JT:M.all (λ Kx=>decide (Kx < l.length))=true)
  (hs:OE P l u M G a0 l 0) (hf:∀σ w,(∀Kx∈M,(σ Kx).isSome=true)->G σ w->bE (nA u M σ) (λ a w=>wpList P ops.toArray Q zs a w) l 0 a0 w):(Code.region id ops.toArray true).wp P Q a0 w0:=by
 subst kI
 have main:∀(fuel:Nat) (listed:Array Bool) (a:Act) (w:World) (σ:Nat->Option Value),Inv l (nA u M σ) (λ _ _=>True) a0 w0 (l++zs).length listed a w->G σ w->(∀Kx∈M,(listed.getD Kx false=true↔(σ Kx).isSome=true))->fuel=bw l.length listed+zs.length->wpAny P .any (l++zs).toArray Q fuel listed a w:=by
  intro fuel
  induction fuel with
  | zero=>
    intro listed a w σ I hg cf hfu;have h0:bw l.length listed=0:=by omega
    have hz0:zs.length=0:=by omega
    have hall:=ea h0;have:=Fy aZ hz (hf σ w (λ Kx hi=>(cf Kx hi).1 (hall Kx (of_decide_eq_true (List.all_eq_true.1 JT Kx hi)))) hg) I h0;rwa [hz0] at this
  | succ fuel ih=>
    intro listed a w σ I hg cf hfu;by_cases h0:bw l.length listed=0
    ·have hall:=ea h0;have:=Fy aZ hz (hf σ w (λ Kx hi=>(cf Kx hi).1 (hall Kx (of_decide_eq_true (List.all_eq_true.1 JT Kx hi)))) hg) I h0;exact Zfm
    ·open zao in exact Zad
 refine wp_region_any hm ?_;have:=main (l++zs).toArray.size (Array.replicate (l++zs).toArray.size false) a0 w0.drew (λ _=>none) ⟨trivial,rfl,rfl,λ _ _=>rfl,(λ Kx o d _ h=>by rw[bc] at h;cases h),(λ Kx o _ h=>by rw[bc] at h;cases h),by simp,λ Kx _=>bc _ _⟩ (nO _ _ hG) (λ Kx _=>by rw[bc];simp) (by
  have:bw l.length (Array.replicate (l++zs).toArray.size false)=l.length:=by
   unfold bw
   rw[List.filter_eq_self.2 (λ Kx _=>by rw[bc];rfl),length_range]
  rw[this];simp)
 exact this
end
open Go.ChangeShapes Go.WideShapes Go.ChangeAt
structure Cel where
 i:Nat
 T:TypeId
 c:Array Value
 s:Nat
 d:Array Value
section
variable {P:Program} {Q:Exit->Act->World->Prop} {a0:Act} {w0:World}
end
section
variable {P:Program} {l:List Oper} {u:Nat->Value} {X:List Cel} {CL:List Nat} {a0:Act} {B:Nat} {w0:World} {i:Nat} {o:Oper}
end
variable{q:Nat}{old:Array Value}
theorem agK{w:World}  {T:TypeId} (h:aB w q T old)(cs:Array Value):aB (w.setRow q cs) q T cs:=setRow_heap w q old cs T (0,0) h
variable{w':World}{B:Nat}
theorem YT{w:World} (h:Below B w w')(hq:B<=q)(cs:Array Value):Below B w (w'.setRow q cs):=below_setRow h hq cs
set_option linter.unusedSimpArgs false
def zH (w:World):Prop:=Lib.TabIs Tryz.prog w "internal/strconv.uint64pow10" .u64 Lib.pow10Tab
theorem zH.later{w:World}(h:zH w)(hb:aj w w'):zH w':=by
 unfold zH Lib.TabIs World.var? at*
 cases hg:Tryz.prog.globalNamed "internal/strconv.uint64pow10" with
 | none=>rw[hg] at h;simp at h
 | some g=>
   rw[hg] at h;simp only[Option.bind_some] at h ⊢
   have:g < w.heap.size:=by
    rcases Nat.lt_or_ge g w.heap.size with hlt | vt
    ·exact hlt
    ·rw[Array.getElem?_eq_none vt] at h;simp at h
   rw[hb.block g this];exact h
theorem mU (w:World):∀k,aj w (w.drewN k)
 | 0=>Below.refl _ _
 | k+1=>(mU w k).drew
theorem OG (w:World)(k:Nat)(os:Array Obj):aj w («Sort».grow (w.drewN k) os):=by
 have h:=mU w k;refine⟨h.os,h.tape,h.output,?_,λ i hi=>?_⟩
 ·have:=h.size;simp[«Sort».grow]
 ·rw[<- h.block i hi];have:=h.size;simp only[«Sort».grow];rw[Array.getElem?_append_left WC]
theorem xz (a b:Int)(w:World):ar 97 #[ag a,ag b] w λ e w'=>e=.returned (.bool (bZ a b))/\aj w w':=by
 have hb:=Below.refl w.heap.size w;unfold bZ;by_cases h1:a=0
 ·subst h1;go_enter Tryz.func97,Tryz.ntmps97;exact ZeN
 have t1:(a==0)=false:=by simp[h1]
 have t1':decide (a=0)=false:=by simp[h1]
 have T1:=aa t1;by_cases h2:b=0
 ·subst h2;clear h1;go_enter Tryz.func97,Tryz.ntmps97;go_wp2_with fail;go_ret;exact⟨by rw[T1.ae];rfl,hb⟩
 have t2:(b==0)=false:=by simp[h2]
 have t2':decide (b=0)=false:=by simp[h2]
 have T2:=aa t2;clear h1 h2;go_enter Tryz.func97,Tryz.ntmps97;go_wp2_with fail;go_ret;exact⟨by rw[T1.ae,T2.ae];simp,hb⟩
def nC (r:Int×Int):Int:=if r.2=0/\bZ r.1 1=false then 40 else r.2
variable{t:Int}
theorem Fz:nC (t,0)=if bZ t 1=false then 40 else 0:=by
 unfold nC;by_cases h:bZ t 1=false
 ·rw[if_pos h,if_pos ⟨rfl,h⟩]
 ·rw[if_neg h,if_neg (λ h2=>h h2.2)]
variable{e:Int}
theorem BB(h:e≠0):nC (t,e)=e:=if_neg (λ h2=>h h2.1)
theorem uf (t e:Int)(w:World):ar 58 #[ag t,af e] w λ e_ w'=>e_=.returned (af (nC (t,e)))/\aj w w':=by
 obtain⟨r,hr⟩:∃r,r=nC (t,e):=⟨_,rfl⟩;rw[<- hr];by_cases h1:e=0
 ·subst h1;rw[Fz] at hr;have hg:=xz t 1;cases hv:bZ t 1
  ·rw[hv] at hg hr;have hr2:r=40:=hr;exact Zfe
  ·rw[hv] at hg hr;have hr2:r=0:=hr;exact Zfe
 ·rw[BB h1] at hr;subst hr;have t1:(r==0)=false:=by simp[h1]
  have t1':decide (r=0)=false:=by simp[h1]
  have hb:=Below.refl w.heap.size w;clear h1;go_enter Tryz.func58,Tryz.ntmps58;exact ZeN
def iX (k:Int):ByteArray:=⟨#[35]⟩++⟨(Lib.itoa k).toArray⟩
def KV (k:Int):Ex:=⟨2,⟨0,0,⟨#[]⟩⟩,iX k,0,none,0,0⟩
theorem zbl.Kag(h:p:=by exact bodyPost_ret (v:=.agg #[ag 2,ag 0,af 0,au,.string (({ data:= #[35] }:ByteArray)++ { data:=(Lib.itoa k).toArray }),af 0,az]) (by simp[results,Tryz.results60,go_sem,z0,z1,x2,x3,x4,x5,x6];done) rfl ⟨rfl,hb3⟩):p:=h
theorem ze4.Ka4(h:p:=by
 rw[<- hg] at HX ⊢;have wA:=aa hg;clear hg;go_wp2_with fail;refine(Tryz.strconv_Itoa k HK.ae.1 HK.ae.2 W1 HE.ae).mono ?_;rintro e w1 ⟨rfl,kk,os,rfl⟩;have b1:=OG W1 kk os;generalize «Sort».grow (W1.drewN kk) os=Kx at*;have H2:=aa (HX.later b1);have HB:=aa (ai.then bb b1);have hgb:w.heap.size<=g:=by rw[wA.ae];exact Nat.le_refl _
 have yN:=aa hgb;have EXI:(Tryz.prog.info? 46).map (·.size)=some 7:=by kernel_rfl
 have HEX:=aa EXI;clear HX bb b1 hgb EXI;go_wp2_with (refine wpList_store_row rfl 46 (.tmp 2) (.tmp 6) rfl g #[ag 2,ag 0,af 0,au,.string (({ data:= #[35] }:ByteArray)++ { data:=(Lib.itoa k).toArray }),af 0,az] rfl rfl 46 dh H2.ae HEX.ae rfl Taa ?_);rotate_left
 ·simp only[Act.put];have k1:=agK H2.ae #[ag 2,ag 0,af 0,au,.string (({ data:= #[35] }:ByteArray)++ { data:=(Lib.itoa k).toArray }),af 0,az];have hb3:=YT HB.ae yN.ae #[ag 2,ag 0,af 0,au,.string (({ data:= #[35] }:ByteArray)++ { data:=(Lib.itoa k).toArray }),af 0,az];generalize World.setRow _ _ _=W2 at*;open zbl in exact Zax
 ·exfalso;have:=Lib.itoa_length_le k HK.ae.1 HK.ae.2;omega):p:=h
theorem oY (k:Int)(h0: -9223372036854775808<=k)(h1:k<=9223372036854775807)(w:World)(hE:zH w):ar 60 #[af k] w λ e w'=>e=.returned (mA (KV k))/\aj w w':=by have bb:=ah w (.cells dh 46);have HX:=aB.new w 46 dh;have HE:=aa (hE.later bb);have HK:=aa (And.intro h0 h1);clear hE h0 h1;go_enter Tryz.func60,Tryz.ntmps60;open ze4 in exact ZcK
mutual
def Tr.depth:Tr->Int
 | .mk op v name width args=>RowKit.wrap64 (Tr.iz args+1)
def Tr.iz:List Tr->Int
 | []=>0
 | t::ts=>max t.depth (Tr.iz ts)
end
def agL (f:FuncId)(w:World)(y:Ex)(b:Int):Prop:=∀W,aj w W->ar f #[.agg (ay y)] W λ e w'=>e=.returned (af b)/\aj W w'
def zI:List Int->Int
 | []=>0
 | a::l=>max a (zI l)
theorem xA:∀(l:List Int) (a:Int),zI (l++ [a])=max (zI l) a
 | [],a=>by simp only[nil_append,zI];omega
 | b::l,a=>by simp only[cons_append,zI,xA l a];omega
theorem yO:∀ts:List Tr,Tr.iz ts=zI (ts.map Tr.depth)
 | []=>by simp[Tr.iz,zI]
 | t::ts=>by simp[Tr.iz,zI,yO ts]
theorem zcW.Kay(h:p:=by
 generalize hm:zI ((args.take k).map (·.2))=m;have HM:=aa hm;clear hm;by_cases hmd:m < v
 ·exact Zca
 ·exact Zca):p:=h
theorem zgi.Kbx(h:p:=by
 clear x6;go_loopw [3,9] (λ m iv wr=>∃k:Nat,k<=args.length/\iv=af k/\m=af (zI ((args.take k).map (·.2)))/\aj W wr) (λ _ iv _=>args.length - (intOf iv).toNat);case atStart=>exact Zgf
 case round=>
  obtain⟨k,hi,rfl,rfl,hW⟩:=hrel;have x6:=(HX.later hW).cell 6;simp only[Uaa] at x6;by_cases hlt:k < args.length
  ·obtain⟨b,off,rfl,kF,hex⟩:=(HA.ae.below (ai.then HB.ae hW)).at_ (show k <(args.map (·.1)).length by simpa using hlt);have jn:(args.map (·.1))[k]' Tao=args[k].1:=by simp
   open zcW in exact Zbe
  ·obtain rfl:k=args.length:=by omega
   have lU:args.take args.length=args:=take_length;rw[lU];generalize hmx:zI (args.map (·.2))=m;have HMX:=aa hmx;clear hmx;exact Zg8):p:=h
theorem OH (JI:Int)(Kx:Val)(ld:ByteArray)(gO:Int)(A:Option Addr)(c:Nat)(args:List (Ex×Int))(w:World)(hl:args.length<=1599289640356)(hA:RE w w.heap.size A (args.map (·.1)))(hE:∀a∈args,agL 57 w a.1 a.2):ar 57 #[.agg #[ag JI,ag Kx.k,af Kx.n,.string Kx.s,.string ld,af gO,.slice A args.length c]] w λ e w'=>e=.returned (af (wrap64 (zI (args.map (·.2))+1)))/\aj w w':=by have HA:=aa hA;have HE:=aa hE;clear hA hE;have HX:=aB.new w 46 #[ag JI,ag Kx.k,af Kx.n,.string Kx.s,.string ld,af gO,.slice A args.length c];have hb0:=ah w (.cells #[ag JI,ag Kx.k,af Kx.n,.string Kx.s,.string ld,af gO,.slice A args.length c] 46);go_enter Tryz.func57,Tryz.ntmps57;go_upto_region 1 with fail;generalize w.alloc _=W at*;have HB:=aa hb0;clear hb0;open zgi in exact Zeb
theorem Tr.YU (t:Tr)(y:Ex)(w:World)(aZ:t.ok)(hat:t.at_ w (Old w) y):∀W,aj w W->ar 57 #[mA y] W λ e w'=>e=.returned (af t.depth)/\aj W w':=by refine Tr.tell Tr.depth (λ _=>True) (λ W y r=>ar 57 #[mA y] W λ e w'=>e=.returned (af r)/\aj W w') (λ _ _ _ _ _ _ _ _=>trivial) ?_ t y w aZ trivial hat;intro op v name width ts A c args w aZ _ hlen hm hA _ hE;have k:=OH op v name width A c args w (by unfold Tr.ok at aZ;rw[hlen];exact aZ.2.1) hA hE;unfold Tr.depth;rw[yO,<- hm];exact k
def t5V (y:Ex)(gp:Nat)(cV:Value)(t e:Int):Nat->World->Value->Prop
 | 0,_,v=>v=.agg (ay y)
 | 1,_,v=>v=aw gp
 | 2,_,v=>v=aw gp
 | 3,_,v=>v=bh gp 8
 | 4,_,v=>v=cV
 | 5,_,v=>v=.tuple #[ag t,af e]
 | 6,_,v=>v=.tuple #[ag t,af e]
 | 7,_,v=>v=ag t
 | 8,_,v=>v=af e
 | 9,_,v=>v=ag t
 | 10,_,v=>v=af e
 | _,_,_=>False
theorem xB (y:Ex)(gp:Nat)(cV:Value)(t e:Int):∀i w w' v,t5V y gp cV t e i w v->ai w w'->t5V y gp cV t e i w' v:=by exact Zdr
theorem zhH.Kb4(h:p:=by
 replace q5: .tuple #[ag bt,af er]=a5:=Eq.symm q5;subst q5;replace q6: .tuple #[ag bt,af er]=a6:=Eq.symm q6;subst q6;replace q7: ag bt=a7:=Eq.symm q7;subst q7;replace q8: af er=a8:=Eq.symm q8;subst q8;replace q9: ag bt=a9:=Eq.symm q9;subst q9;replace Us: af er=FA:=Eq.symm Us;subst Us;simp only[bE,Act.put,Uac];have eB:=ai.then hB (ai.then hb (ai.then Mn hL));have t1:(er != 0)=true:=by have:=NY.ae;simpa using this
 have t2:decide (er=0)=false:=by have:=NY.ae;simpa using this
 clear xa k1 Nw Qi Mn hL hb hB;go_wp2_with fail;exact bodyPost_ret (v:=.tuple #[ag 0,af er]) Tap rfl ⟨rfl,eB⟩):p:=h
theorem zf7.Kbu(h:p:=by
 refine bC 11 (t5V y gp cV bt er) (xB _ _ _ _ _) Taa Taa Taa ?_ ?_
 ·exact ZaV
 open zhH in exact ZfF):p:=h
theorem zfh.Ka8(h:p:=by clear Hq;generalize bad=y at*;unfold cw at hex;open zf7 in exact Zd7):p:=h
theorem zdw.KaD(h:p:=by
 go_loopw [6,15] (λ kv i wr=>∃k:Nat,k<=args.length/\i=af k/\aI dO 5 1 wr W1.heap.size kv ((args.take k).map (·.2))/\aj W1 wr) (λ _ i _=>args.length - (intOf i).toNat);case atStart=>exact ZcH
 case round=>
  obtain⟨k,hk,rfl,hp,hb⟩:=hrel;have HP:=aa hp;clear hp;rcases Nat.lt_or_ge k args.length with hlt | vt
  ·have zA:k < n:=by have:=HN.ae;omega
   obtain⟨b,off,rfl,kF,hex⟩:=(HA.ae.below hb).at_ (show k <(args.map (·.1)++bad::post).length by simp;omega);have jn:(args.map (·.1)++bad::post)[k]' Tac=args[k].1:=by rw[getElem_append_left Tao];simp
   exact Zau
  ·open zfh in exact ZcT):p:=h
theorem Uq (gp:Nat)(cV:Value)(op:Int)(xv:Val)(name:ByteArray)(width:Int)(A:Option Addr)(n c:Nat)(args:List (Ex×Int))(bad:Ex)(bt er:Int)(post:List Ex)(w:World)(sF:gp < w.heap.size)(YV:w.cell? ⟨gp,8,none⟩=some cV)(hn:args.length+1+post.length=n)(hl:n<=1599289640356)(hA:RE w w.heap.size A (args.map (·.1)++bad::post))(hE:∀a∈args,oL w cV a.1 a.2 0)(jW:oL w cV bad bt er)(her:er≠0):
  ar 153 #[aw gp,.agg #[ag op,ag xv.k,af xv.n,.string xv.s,.string name,af width,.slice A n c]] w λ en w'=>en=.returned (.tuple #[ag 0,af er])/\aj w w':=by have HN:=aa hn;have Hq:=aa jW;have NY:=aa her;clear hn jW her;open zdw in exact Zbm
def RK (w:World)(B:Nat)(A:Option Addr)(l:List Int):Prop:=l=[]\/∃g,A=some ⟨g,0,none⟩/\g < B/\∀(i:Nat) x,l[i]?=some x->w.cell? ⟨g,i,none⟩=some (ag x)
variable{l:List Int}
theorem YZ{w:World} {A:Option Addr} (h:l=[]\/∃g,A=some ⟨g,0,none⟩/\g < w.heap.size/\∀i x j u,l[i]?=some x->j < 1->(dO x)[j]?=some u->w.cell? ⟨g,i*1+j,none⟩=some u):RK w w.heap.size A l:=by
 rcases h with h |⟨g,h1,h2,h3⟩
 ·exact .inl h
 ·exact .inr ⟨g,h1,h2,λ i x hx=>by have:=h3 i x 0 _ hx WC rfl;simpa using this⟩
theorem RK.at_{w:World}  {A:Option Addr} (h:RK w B A l) {k:Nat}(hk:k < l.length):∃g,A=some ⟨g,0,none⟩/\g < B/\w.cell? ⟨g,k,none⟩=some (ag l[k]):=by
 rcases h with h |⟨g,h1,h2,h3⟩
 ·subst h;simp at hk
 ·exact⟨g,h1,h2,h3 k _ (getElem?_eq_getElem hk)⟩
def jE (op:Int)(ks:List Int):Int×Int:=
 if (ks.length:Int)≠ix op then(0,21)
 else if (op=23\/op=26)/\bZ (ks.getD 0 0) 2=false then(0,40)
 else if ks.length=2/\bZ (ks.getD 1 0) 2=false then(0,40)
 else if ks.length=0\/op=23\/op=26\/op=22 then(2,0)
 else(ks.getD 0 0,0)
theorem KX {op:Int}:ix op=0\/ix op=1\/ix op=2:=by
 unfold ix Hy;repeat' split
 all_goals simp
theorem KY{op:Int}(h:op=23\/op=26):ix op=1:=by
 rcases h with rfl | rfl <;> rfl
theorem OI:ix 22=1:=rfl
theorem zh6.Kcf(h:p:=by clear gX;exact ZeU):p:=h
theorem zh7.Kcf(h:p:=by have c0':=(b3.cell (p:=⟨g0,0,none⟩) hg0).trans HC0.ae;clear gX;go_wp2_with fail;exact bodyPost_ret (v:=.tuple #[ag k0,af 0]) Tap rfl ⟨rfl,ai.then fE.ae b3⟩):p:=h
theorem zdx.KaD(h:p:=by
 go_loopw [6,15] (λ kv i wr=>∃k:Nat,k<=args.length/\i=af k/\aI dO 5 1 wr W1.heap.size kv ((args.take k).map (·.2))/\aj W1 wr) (λ _ i _=>args.length - (intOf i).toNat);case atStart=>exact ZcH
 case round=>
  obtain⟨k,hk,rfl,hp,hb⟩:=hrel;have HP:=aa hp;clear hp;rcases Nat.lt_or_ge k args.length with hlt | vt
  ·have zA:k < n:=by have:=HN.ae;omega
   obtain⟨b,off,rfl,kF,hex⟩:=(HA.ae.below hb).at_ (show k <(args.map (·.1)).length by simpa using hlt);have jn:(args.map (·.1))[k]' Tao=args[k].1:=by simp
   exact Zau
  ·have lU:args.take k=args:=take_of_length_le vt;have zA:¬k < n:=by have:=HN.ae;omega
   rw[lU] at HP;obtain⟨A9,c9,hu9,hKC⟩:=ej (f:=dO) (size:=1) (λ _=>rfl) HP.ae;have Ah:(args.map (·.2)).length=n:=by rw[length_map];exact HN.ae
   rw[Ah] at hu9;have HRK:=aa (YZ hKC);subst hu9;have bz:=HX.later hb;have eB:=ai.then hB hb;have fE:=aa eB;generalize pR:args.map (·.2)=ks at*;have Xi:=aa Ah;clear hKC hB HX pR Ah eB HP YX BC HA HE lU vt;have gX:=bz.cell 0;simp only[Uaa] at gX;go_upto_region 10 with fail
   obtain⟨sb,Z5⟩:∃sb:Bool,(sb=true->op=23\/op=26)/\(sb=false->op≠23/\op≠26):=by
    by_cases h:op=23\/op=26
    ·exact ZgB
    ·exact⟨false,λ h=> Tae,λ _=>⟨λ h2=>h (.inl h2),λ h2=>h (.inr h2)⟩⟩
   have tq:=aa Z5;clear Z5;go_cut [11] (λ sv wx=>sv=.bool sb/\wx=wr)
   case first=>
    cases sb
    ·obtain⟨h1,h2⟩:=tq.ae.2 rfl;have s1:(op==23)=false:=by simp[h1]
     have s2:(op==26)=false:=by simp[h2]
     have s3:decide (op=23)=false:=by simp[h1]
     have s4:decide (op=26)=false:=by simp[h2]
     clear h1 h2;go_wp2_with fail;go_meet;exact Zfy
    ·rcases tq.ae.1 rfl with h1 | h1
     ·have s1:(op==23)=true:=by simp[h1]
      have s3:decide (op=23)=true:=by simp[h1]
      clear h1;go_wp2_with fail;go_meet;exact Zfy
     ·have s1:(op==23)=false:=by simp[h1]
      have s2:(op==26)=true:=by simp[h1]
      have s3:decide (op=23)=false:=by simp[h1]
      have s4:decide (op=26)=true:=by simp[h1]
      clear h1;go_wp2_with fail;go_meet;exact Zfy
   case rest=>
   obtain⟨rfl,rfl⟩:=hcut;have Uu:=YI op;clear gX hb zA hk;by_cases Ks:(n:Int)=ix op
   case neg=>
    have hr:rt=(0,21):=by rw[KZ.ae];unfold jE;rw[Xi.ae];exact if_pos Ks
    subst hr;obtain⟨ao,hao⟩:∃ao,ao=ix op:=⟨_,rfl⟩;rw[<- hao] at Uu Ks;have t1:((n:Int) != ao)=true:=by simp[Ks]
    have t2:decide ((n:Int)=ao)=false:=by simp[Ks]
    have t3:((n:Int)==ao)=false:=by simp[Ks]
    have Ij:=aa Uu;have gX:=bz.cell 0;simp only[Uaa] at gX;clear Uu Ks hao;go_wp2_with fail;refine(Ij.ae _).mono ?_;rintro e w2 ⟨rfl,b3⟩;go_wp2_with fail;exact bodyPost_ret (v:=.tuple #[ag 0,af 21]) Tap rfl ⟨rfl,ai.then fE.ae b3⟩
   have Uv:=Xi.ae;have Xj:=aa Ks;rw[<- Ks] at Uu;have ug:n=0\/n=1\/n=2:=by rcases @KX op with h | h | h <;> omega
   have Ij:=aa Uu;clear Uu Ks;have gX:=bz.cell 0;simp only[Uaa] at gX;rcases ug with rfl | rfl | rfl
   ·have pR:ks=[]:=eq_nil_of_length_eq_zero Uv;subst pR;clear Uv;have Z5:sb=false:=by exact Zhj
    subst Z5;have hr:rt=(2,0):=by rw[KZ.ae];unfold jE;rw[if_neg (λ h=>h Xj.ae),if_neg (λ h=>by rcases tq.ae.2 rfl with ⟨a,b⟩;rcases h.1 with c | c;exact a c;exact b c),if_neg (λ h=>by cases h.1),if_pos (.inl rfl)]
    subst hr;go_wp2_with fail;refine(Ij.ae _).mono ?_;rintro e w2 ⟨rfl,b3⟩;exact ZeU
   ·obtain⟨k0,rfl⟩:∃k0,ks=[k0]:=by
     match ks,Uv with
     | [k0],_=>exact⟨k0,rfl⟩
    clear Uv;obtain⟨g0,rfl,hg0,hc0⟩:=HRK.ae.at_ (show 0 < [k0].length by simp);have hc0:wc.cell? ⟨g0,0,none⟩=some (ag k0):=hc0;have HC0:=aa hc0;clear hc0;cases sb
    ·by_cases Uw:op=22
     ·have hr:rt=(2,0):=by rw[KZ.ae];unfold jE;rw[if_neg (λ h=>h Xj.ae),if_neg (λ h=>by rcases tq.ae.2 rfl with ⟨a,b⟩;rcases h.1 with c | c;exact a c;exact b c),if_neg (λ h=>by cases h.1),if_pos (.inr (.inr (.inr Uw)))]
      subst hr;have s1:(op==22)=true:=by simp[Uw]
      have s2:decide (op=22)=true:=by simp[Uw]
      open zh6 in exact Zgr
     ·have hr:rt=(k0,0):=by rw[KZ.ae];unfold jE;rw[if_neg (λ h=>h Xj.ae),if_neg (λ h=>by rcases tq.ae.2 rfl with ⟨a,b⟩;rcases h.1 with c | c;exact a c;exact b c),if_neg (λ h=>by cases h.1),if_neg (λ h=>by rcases tq.ae.2 rfl with ⟨a,b⟩;rcases h with c | c | c | c;cases c;exact a c;exact b c;exact Uw c)];rfl
      subst hr;have s1:(op==22)=false:=by simp[Uw]
      have s2:decide (op=22)=false:=by simp[Uw]
      open zh7 in exact Zgr
    ·have hgo:=xz k0 2;have abF:=tq.ae.1 rfl;cases hv:bZ k0 2
     ·have hr:rt=(0,40):=by rw[KZ.ae];unfold jE;rw[if_neg (λ h=>h Xj.ae),if_pos ⟨abF,hv⟩]
      subst hr;rw[hv] at hgo;have Xk:=aa hgo;clear hgo hv abF;go_wp2_with fail;refine(Ij.ae _).mono ?_;rintro e w2 ⟨rfl,b3⟩;have c0':=(b3.cell (p:=⟨g0,0,none⟩) hg0).trans HC0.ae;exact Zc4
     ·have hr:rt=(2,0):=by rw[KZ.ae];unfold jE;rw[if_neg (λ h=>h Xj.ae),if_neg (λ h=>by have:=h.2;rw[show [k0].getD 0 0=k0 from rfl,hv] at this;cases this),if_neg (λ h=>by cases h.1),if_pos (by rcases abF with h | h;exact .inr (.inl h);exact .inr (.inr (.inl h)))]
      subst hr;rw[hv] at hgo;have Xk:=aa hgo;clear hgo hv abF;go_wp2_with fail;refine(Ij.ae _).mono ?_;rintro e w2 ⟨rfl,b3⟩;have c0':=(b3.cell (p:=⟨g0,0,none⟩) hg0).trans HC0.ae;clear gX;go_wp2_with fail;refine(Xk.ae _).mono ?_;rintro e Kx ⟨rfl,b2⟩;go_wp2_with fail;exact bodyPost_ret (v:=.tuple #[ag 2,af 0]) Tap rfl ⟨rfl,ai.then (ai.then fE.ae b3) b2⟩
   ·obtain⟨k0,KK,rfl⟩:∃k0 KK,ks=[k0,KK]:=by
     match ks,Uv with
     | [k0,KK],_=>exact⟨k0,KK,rfl⟩
    clear Uv;have Z5:sb=false:=by exact Zhj
    subst Z5;have Uw:op≠22:=λ h=>by have h1:=Xj.ae;rw[h,OI] at h1;omega
    obtain⟨g0,rfl,hg0,hc0⟩:=HRK.ae.at_ (show 0 < [k0,KK].length by simp);obtain⟨g1,hg1,_,hc1⟩:=HRK.ae.at_ (show 1 < [k0,KK].length by simp);injection hg1 with hg1;injection hg1 with hg1 _ _;subst hg1;have hc0:wc.cell? ⟨g0,0,none⟩=some (ag k0):=hc0;have hc1:wc.cell? ⟨g0,1,none⟩=some (ag KK):=hc1;have HC0:=aa hc0;have TW:=aa hc1;have s1:(op==22)=false:=by simp[Uw]
    have s2:decide (op=22)=false:=by simp[Uw]
    have H22:=aa Uw;clear hc0 hc1 Uw;have hgo:=xz KK 2;cases hv:bZ KK 2
    ·have hr:rt=(0,40):=by rw[KZ.ae];unfold jE;rw[if_neg (λ h=>h Xj.ae),if_neg (λ h=>by rcases tq.ae.2 rfl with ⟨a,b⟩;rcases h.1 with c | c;exact a c;exact b c),if_pos ⟨rfl,hv⟩]
     subst hr;rw[hv] at hgo;have Xk:=aa hgo;clear hgo hv;go_wp2_with fail;refine(Ij.ae _).mono ?_;rintro e w2 ⟨rfl,b3⟩;have c1':=(b3.cell (p:=⟨g0,1,none⟩) hg0).trans TW.ae;exact Zc4
    ·have hr:rt=(k0,0):=by rw[KZ.ae];unfold jE;rw[if_neg (λ h=>h Xj.ae),if_neg (λ h=>by rcases tq.ae.2 rfl with ⟨a,b⟩;rcases h.1 with c | c;exact a c;exact b c),if_neg (λ h=>by have:=h.2;rw[show [k0,KK].getD 1 0=KK from rfl,hv] at this;cases this),if_neg (λ h=>by rcases tq.ae.2 rfl with ⟨a,b⟩;rcases h with c | c | c | c;cases c;exact a c;exact b c;exact H22.ae c)];rfl
     subst hr;rw[hv] at hgo;have Xk:=aa hgo;clear hgo hv;go_wp2_with fail;refine(Ij.ae _).mono ?_;rintro e w2 ⟨rfl,b3⟩;have c1':=(b3.cell (p:=⟨g0,1,none⟩) hg0).trans TW.ae;clear gX;go_wp2_with fail;refine(Xk.ae _).mono ?_;rintro e Kx ⟨rfl,b2⟩;have c10:=((bz.later b3).later b2).cell 0;simp only[Uaa] at c10;have c0':=(b2.cell (p:=⟨g0,0,none⟩) (Nat.lt_of_lt_of_le hg0 b3.size)).trans ((b3.cell (p:=⟨g0,0,none⟩) hg0).trans HC0.ae);clear c1';go_wp2_with fail;exact bodyPost_ret (v:=.tuple #[ag k0,af 0]) Tap rfl ⟨rfl,ai.then (ai.then fE.ae b3) b2⟩):p:=h
theorem Ut (gp:Nat)(cV:Value)(op:Int)(xv:Val)(name:ByteArray)(width:Int)(A:Option Addr)(n c:Nat)(args:List (Ex×Int))(w:World)(sF:gp < w.heap.size)(YV:w.cell? ⟨gp,8,none⟩=some cV)(hn:args.length=n)(hl:n<=1599289640356)(hA:RE w w.heap.size A (args.map (·.1)))(hE:∀a∈args,oL w cV a.1 a.2 0):
  ar 153 #[aw gp,.agg #[ag op,ag xv.k,af xv.n,.string xv.s,.string name,af width,.slice A n c]] w λ en w'=>en=.returned (.tuple #[ag (jE op (args.map (·.2))).1,af (jE op (args.map (·.2))).2])/\aj w w':=by have HN:=aa hn;clear hn;obtain⟨rt,hrt⟩:∃rt,rt=jE op (args.map (·.2)):=⟨_,rfl⟩;rw[<- hrt];have KZ:=aa hrt;clear hrt;open zdx in exact Zbm
def fS (cols:List aX)(op:Int)(args:List Tr):Int×Int:=
 if gP (Tr.types cols args)≠0 then(0,gP (Tr.types cols args))else jE op ((Tr.types cols args).map (·.1))
variable{CA:Option Addr}{cc:Nat}
theorem Tr.La{cols:List aX}  (cf:cols.length<=140737488355328)(gp:Nat):∀(t:Tr) (y:Ex) (w:World),t.ok->t.at_ w (Old w) y->RC w w.heap.size CA cols->gp < w.heap.size->w.cell? ⟨gp,8,none⟩=some (.slice CA cols.length cc)->
  ar 153 #[aw gp,mA y] w λ e w'=>e=.returned (.tuple #[ag (fS cols t.op t.args).1,af (fS cols t.op t.args).2])/\aj w w'
 | .mk op v name width ts,y,w,aZ,hat,hC,sF,YV=>by
   unfold Tr.at_ at hat;obtain⟨h1,h2,h3,h4,h5,ys,h6,h7⟩:=hat;unfold Tr.ok at aZ;obtain⟨l,ft,hl2,ub⟩:=Tr.Bi cols CA cc cf ts ys w aZ.2.2.2.2.2 h7 hC;obtain⟨JI,yv,ld,gO,yA,yn,yc⟩:=y;dsimp only at h1 h2 h3 h4 h5 h6;subst h1 h2 h3 h4 h5;have hlen:l.length=ts.length:=by
    have:(l.map (·.1)).length=ys.length:=by rw[ft]
    rw[length_map,h7.length] at this;exact this
   have hA:RE w w.heap.size yA (l.map (·.1)):=by rw[ft];exact h6.old
   have hn:=aZ.2.1;show ar 153 #[aw gp,.agg #[ag JI,ag yv.k,af yv.n,.string yv.s,.string ld,af gO,.slice yA ts.length yc]] w λ e w'=>e=.returned (.tuple #[ag (fS cols JI ts).1,af (fS cols JI ts).2])/\aj w w'
   unfold fS;rw[<- hl2];rcases oN l with h0 |⟨pre,bad,post,rfl,Ea,jW⟩
   ·have hf:gP (l.map (·.2))=0:=qU λ a ha=>by obtain⟨z,hz,rfl⟩:=List.mem_map.1 ha;exact h0 z hz
    rw[if_neg (by rw[hf];decide)];have k:=Ut gp (.slice CA cols.length cc) JI yv ld gO yA ts.length yc (l.map λ a=>(a.1,a.2.1)) w sF YV (by rw[length_map];exact hlen) hn Tau (λ a ha=>by
     obtain⟨z,hz,rfl⟩:=List.mem_map.1 ha
     have:=ub z hz
     rw[h0 z hz] at this
     exact this)
    have hm:(l.map λ a=>(a.1,a.2.1)).map (·.2)=(l.map (·.2)).map (·.1):=by simp[Function.comp_def]
    rw[hm] at k;exact k
   ·have hbE:=ub bad Tad;have hf:gP ((pre++bad::post).map (·.2))=bad.2.2:=by rw[map_append,map_cons];exact xq (λ a ha=>by obtain⟨z,hz',rfl⟩:=List.mem_map.1 ha;exact Ea z hz') jW
    rw[if_pos (by rw[hf];exact jW),hf];exact Uq gp (.slice CA cols.length cc) JI yv ld gO yA ts.length yc (pre.map λ a=>(a.1,a.2.1)) bad.1 bad.2.1 bad.2.2 (post.map (·.1)) w sF YV (by rw[<- hlen];simp;omega) hn Tau (λ a ha=>by
     obtain⟨z,hz',rfl⟩:=List.mem_map.1 ha
     have:=ub z (by simp[hz'])
     rw[Ea z hz'] at this
     exact this) hbE jW
def Qy.all (q:Qy):List Tr:=q.items.map (·.1)++(q.cD++q.aL++q.eU)++q.ord.map (·.1)
def Ed (k:Nat):Tr:=.mk 2 aN (iX k) 0 []
structure dy where
 aJ:List Tr
 aL:List aX
def qW (cols:List aX)(v:Val)(name:ByteArray)(width:Int)(n:Nat):Int:=
 let e:=(Tr.type cols (.mk 2 v name width (List.replicate n (.mk 1 aN ByteArray.empty 0 [])))).2
 if e≠0 then e else 42
mutual
def Tr.turn (aL:List Tr)(cols:List aX):Tr->dy->Except Int (Tr×dy)
 | .mk op v name width args,s=>
   match aL.findIdx? (λ g=>g.same (.mk op v name width args))with
   | some k=> .ok (Ed k,s)
   | none=>
     if isAgg op=true then
      if (fS cols op args).2≠0 then .error (fS cols op args).2
      else .ok (Ed s.aL.length,⟨s.aJ++ [.mk op v name width args],s.aL++ [⟨iX s.aL.length,(fS cols op args).1⟩]⟩)
     else match Tr.turns aL cols args s with
      | .error e=> .error e
      | .ok (ys,s')=>
        if op=2 then .error (qW cols v name width ys.length)
        else if ((Tr.mk op v name width ys).type s'.aL).2≠0 then .error ((Tr.mk op v name width ys).type s'.aL).2
        else .ok (.mk op v name width ys,s')
def Tr.turns (aL:List Tr)(cols:List aX):List Tr->dy->Except Int (List Tr×dy)
 | [],s=> .ok ([],s)
 | t::ts,s=>match Tr.turn aL cols t s with
   | .error e=> .error e
   | .ok (y,s')=>match Tr.turns aL cols ts s' with
     | .error e=> .error e
     | .ok (ys,Lb)=> .ok (y::ys,Lb)
end
def pd (g:Bool)(aL:List Tr)(cols:List aX)(t:Tr)(s:dy):Except Int (Tr×Int×dy):=
 if g=false then(if (t.type cols).2≠0 then .error (t.type cols).2 else .ok (t,(t.type cols).1,s))
 else match t.turn aL cols s with
  | .error e=> .error e
  | .ok (y,s')=>if (y.type s'.aL).2≠0 then .error (y.type s'.aL).2 else .ok (y,(y.type s'.aL).1,s')
structure ji where
 aK:Bool
 head:List aX
 st:dy
 items:List Tr
 having:List Tr
 order:List Tr
def pj (cols:List aX):List Tr->Except Int Unit
 | []=> .ok ()
 | t::ts=>if nC (t.type cols)≠0 then .error (nC (t.type cols))else pj cols ts
def kO (cols:List aX):List Tr->Nat->Except Int (List aX)
 | [],_=> .ok []
 | t::ts,k=>if (t.type cols).2≠0 then .error (t.type cols).2 else match kO cols ts (k+1)with
   | .error e=> .error e
   | .ok l=> .ok (⟨iX k,(t.type cols).1⟩::l)
def gZ (t:Tr)(nm:ByteArray):ByteArray:=if nm.size=0/\t.op=2 then t.name else nm
def dm (g:Bool)(aL:List Tr)(cols:List aX):List (Tr×ByteArray)->dy->Except Int (List Tr×List aX×dy)
 | [],s=> .ok ([],[],s)
 |(t,nm)::l,s=>match pd g aL cols t s with
  | .error e=> .error e
  | .ok (y,k,s')=>match dm g aL cols l s' with
    | .error e=> .error e
    | .ok (ys,hd,Lb)=> .ok (y::ys,⟨gZ t nm,k⟩::hd,Lb)
def dz (g:Bool)(aL:List Tr)(cols:List aX):List Tr->dy->Except Int (List Tr×dy)
 | [],s=> .ok ([],s)
 | t::l,s=>match pd g aL cols t s with
   | .error e=> .error e
   | .ok (y,k,s')=>if bZ k 1=false then .error 40 else match dz g aL cols l s' with
     | .error e=> .error e
     | .ok (ys,Lb)=> .ok (y::ys,Lb)
def eu (g:Bool)(aL:List Tr)(cols:List aX):List (Tr×Bool)->dy->Except Int (List Tr×dy)
 | [],s=> .ok ([],s)
 |(t,_)::l,s=>match pd g aL cols t s with
  | .error e=> .error e
  | .ok (y,_,s')=>match eu g aL cols l s' with
    | .error e=> .error e
    | .ok (ys,Lb)=> .ok (y::ys,Lb)
def dS (q:Qy)(cols:List aX):Except Int ji:=
 if 1 < q.cD.length\/1 < q.eU.length\/1 < q.lim.length\/(q.lim.length=1/\q.lim.getD 0 0 < 0)then .error 1
 else if q.all.any (λ t=>decide (32 < t.depth))=true then .error 1
 else match pj cols q.cD with
 | .error e=> .error e
 | .ok _=>match kO cols q.aL 0 with
 | .error e=> .error e
 | .ok gc=>if q.items=[]/\q.aK=true then .error 42
 else match dm q.aK q.aL cols q.items ⟨[],gc⟩with
 | .error e=> .error e
 | .ok (is,hd,s1)=>match dz q.aK q.aL cols q.eU s1 with
 | .error e=> .error e
 | .ok (hs,s2)=>match eu q.aK q.aL cols q.ord s2 with
 | .error e=> .error e
 | .ok (os,s3)=> .ok ⟨q.aK,if q.items=[] then cols else hd,s3,is,hs,os⟩
def bB (cols:List aX)(row:List Val)(l:List Tr):Except Int (List Val):=
 if cL (Tr.iK cols row l)≠0 then .error (cL (Tr.iK cols row l))else .ok ((Tr.iK cols row l).map (·.1))
def iA (cols:List aX)(l:List Tr)(row:List Val):Bool×Int:=match l with
 | []=>(true,0)
 | t::_=>vF (t.eval cols row)
def cZ (cols:List aX)(l:List Tr)(rows:List (List Val)):List (List Val)×Int:=
 (rows.filter λ r=>(iA cols l r).2==0 &&(iA cols l r).1,dx (rows.map λ r=>(iA cols l r).2))
def FB (c:aX)(v:Val):Bool:=good v &&(v.k==0 || v.k==c.t)
def jq:List aX->List Val->Bool
 | [],[]=>true
 | c::cs,v::vs=>FB c v && jq cs vs
 | _,_=>false
noncomputable def gD (s:St):Val×Int:=open Classical in if h:∃r:Val×Int,gH s r.1 r.2/\r.1.Ok then Classical.choose h else if h:∃r:Val×Int,gH s r.1 r.2 then Classical.choose h else(aN,0)
theorem Ik{s:St}(h:∃v e,gH s v e):gH s (gD s).1 (gD s).2:=by
 obtain⟨v,e,hv⟩:=h;have h':∃r:Val×Int,gH s r.1 r.2:=⟨(v,e),hv⟩;by_cases h2:∃r:Val×Int,gH s r.1 r.2/\r.1.Ok
 ·unfold gD;rw[dif_pos h2];exact(Classical.choose_spec h2).1
 ·unfold gD;rw[dif_neg h2,dif_pos h'];exact Classical.choose_spec h'
theorem abG{s:St}(h:∃v e,gH s v e/\v.Ok):(gD s).1.Ok:=by obtain⟨v,e,hv⟩:=h;have h':∃r:Val×Int,gH s r.1 r.2/\r.1.Ok:=⟨(v,e),hv⟩;unfold gD;rw[dif_pos h'];exact(Classical.choose_spec h').2
def gS:List Tr->List Val->List (Val×Val)
 | [],_=> []
 | t::ts,l=>(if 0 < t.args.length then l.getD 0 aN else aN,if 1 < t.args.length then l.getD 1 aN else aN)::gS ts (l.drop t.args.length)
def iN (l:List (List Val)):List (List Val):=yK bX l
def pZ (i:Nat)(l:List (List Val×List (Val×Val)))(k:List Val):List (Val×Val):=(l.filter λ r=>bX r.1 k==0).map λ r=>r.2.getD i (aN,aN)
noncomputable def dP (ops:List Int) (l:List (List Val×List (Val×Val))) (k:List Val):List (Val×Int):=(List.range ops.length).map λ i=>gD (lf (ops.getD i 0) (pZ i l k))
noncomputable def jP (ng:Nat) (aJ:List Tr) (l:List (List Val)):Except Int (List (List Val)):=
 let ps:=l.map λ r=>(r.take ng,gS aJ (r.drop ng))
 let ks:=if ng=0 then [[]] else iN (ps.map (·.1))
 let e:=dx (ks.map λ k=>cL (dP (aJ.map Tr.op) ps k))
 if e≠0 then .error e else .ok (ks.map λ k=>k++(dP (aJ.map Tr.op) ps k).map (·.1))
variable{α:Type}
def Ee(l:List (Except Int α)):Except Int (List α):=
 if dx (l.map λ | .error e=>e | .ok _=>0)≠0 then .error (dx (l.map λ | .error e=>e | .ok _=>0))else .ok (l.filterMap λ | .ok x=>some x | .error _=>none)
structure fk where
 row:List Val
 keys:List Val
def Za (d:Bool)(a b:Val):Int:=if d=true then -(bO a b)else bO a b
def vQ:List Bool->List Val->List Val->Int
 | [],_,_=>0
 | d::ds,a,b=>ow (Za d (a.headD aN) (b.headD aN)) (vQ ds a.tail b.tail)
def vR (ds:List Bool)(a b:fk):Int:=ow (vQ ds a.keys b.keys) (bX a.row b.row)
def jr (ds:List Bool)(l:List fk):List fk:=YS (vR ds) l
noncomputable def qX (q:Qy) (p:ji) (cols:List aX) (rows:List (List Val)):Except Int (List (List Val)):=
 if (cZ cols q.cD rows).2≠0 then .error (cZ cols q.cD rows).2
 else if p.aK=false then .ok (cZ cols q.cD rows).1
 else match Ee ((cZ cols q.cD rows).1.map λ r=>bB cols r (q.aL++p.st.aJ.flatMap Tr.args))with
 | .error e=> .error e
 | .ok l=>match jP q.aL.length p.st.aJ l with
   | .error e=> .error e
   | .ok gs=>if (cZ p.st.aL p.having gs).2≠0 then .error (cZ p.st.aL p.having gs).2 else .ok (cZ p.st.aL p.having gs).1
def iO (p:ji)(cols:List aX):List aX:=if p.aK=true then p.st.aL else cols
def RZ (p:ji)(r l:List Val):fk:=⟨if p.items=[] then r else l.take p.items.length,l.drop p.items.length⟩
noncomputable def uh (p:ji) (cols:List aX) (rows:List (List Val)):Except Int (List fk):=
 Ee (rows.map λ r=>match bB (iO p cols) r (p.items++p.order)with | .error e=> .error e | .ok l=> .ok (RZ p r l))
noncomputable def jF (q:Qy) (cols:List aX) (rows:List (List Val)):Except Int (List aX×List (List Val)):=
 match dS q cols with
 | .error e=> .error e
 | .ok p=>if rows.any (λ r=> !jq cols r)=true then .error 40
   else match qX q p cols rows with
   | .error e=> .error e
   | .ok left=>match uh p cols left with
     | .error e=> .error e
     | .ok ls=> .ok (p.head,((match q.lim with | []=>jr (q.ord.map λ o:Tr×Bool=>o.2) ls | n::_=>(jr (q.ord.map λ o:Tr×Bool=>o.2) ls).take n.toNat).map fk.row))
def abH (gb:Nat)(b e:Int)(w:World)(en:Ending)(w':World):Prop:=en=.returned (.bool (e==0))/\aB w' gb 84 #[af (tx b e)]/\w.grownBy w' (some gb)
theorem BD{b:Int}:tx b 0=b:=if_neg (λ h=>h.1 rfl)
theorem Zb(h:e≠0):tx 0 e=e:=if_pos ⟨h,.inl rfl⟩
theorem Ux{b:Int}(h:e≠0)(hb:b≠0):tx b e=if e < b then e else b:=by
 unfold tx;by_cases h1:e < b
 ·rw[if_pos ⟨h,.inr h1⟩,if_pos h1]
 ·rw[if_neg (λ h2=>h2.2.elim hb h1),if_neg h1]
theorem vS (gb:Nat)(b e:Int)(w:World)(h:aB w gb 84 #[af b]):ar 36 #[aw gb,af e] w (abH gb b e w):=by
 have hg:=aR (p:=gb) (Below.refl w.heap.size w);have hc:=h.cell 0;have hf:=h.frozen 0;simp only[getElem?_toArray,getElem?_cons_zero] at hc;by_cases h0:e=0
 ·subst h0;have H:=aa h;clear h;go_enter Tryz.func36,Tryz.ntmps36;go_wp2_with fail;go_ret;exact⟨rfl,by rw[BD];exact H.ae,hg⟩
 have t1:(e==0)=false:=by simp[h0]
 have t2:(e != 0)=true:=by simp[h0]
 have t3:decide (e=0)=false:=by simp[h0]
 by_cases hb:b=0
 ·subst hb;have H:=aa h;have HP:=aa (Zb h0);have T1:=aa t1;clear h h0;exact Zfa
 have u1:(b==0)=false:=by simp[hb]
 have u3:decide (b=0)=false:=by simp[hb]
 have hp:=Ux h0 hb;by_cases hl:e < b
 ·rw[if_pos hl] at hp;have v1:=decide_eq_true hl;have H:=aa h;have HP:=aa hp;have T1:=aa t1;clear h h0 hb hp hl;exact Zfa
 ·rw[if_neg hl] at hp;have v1:=decide_eq_false hl;have H:=aa h;have HP:=aa hp;have T1:=aa t1;clear h h0 hb hp hl;go_enter Tryz.func36,Tryz.ntmps36;go_wp2_with fail;go_ret;exact⟨by rw[T1.ae];rfl,by rw[HP.ae];exact H.ae,hg⟩
def ck (r:aW):List Value:=[.slice r.A r.l.length r.c]
variable{base base':Nat}
theorem aI.down{f:α->List Value} {e:TypeId} {size:Nat} {w:World}  {v:Value} {l:List α}(h:aI f e size w base v l)(hb:base'<=base):aI f e size w base' v l:=by
 obtain⟨h1,h2⟩:=h;refine⟨h1,?_⟩;rcases h2 with h2 |⟨g,cap,cur,h3,h4,h5⟩
 ·exact .inl h2
 ·exact .inr ⟨g,cap,cur,h3,Nat.le_trans hb h4,h5⟩
theorem qY:(Tryz.prog.info? 38).map (λ i=>(i.zero,i.size,i.bytes))=some (some (az),1,24):=by exact Zgx
def js (f:List Val->Bool×Int)(rs:List aW):List aW:=rs.filter λ r=>(f r.l).2==0 &&(f r.l).1
theorem OJ (f:List Val->Bool×Int)(rs:List aW)(r:aW):js f (rs++ [r])=js f rs++(if ((f r.l).2==0 &&(f r.l).1)=true then [r] else []):=by unfold js;rw[filter_append];congr 1;rw[filter_cons];rfl
theorem qZ (l:List Int)(e:Int):dx (l++ [e])=tx (dx l) e:=by unfold dx;rw[foldl_append];rfl
variable{wr w2:World}
theorem dQ{w:World} {g:Nat}(h:aj w wr)(hg:wr.grownBy w2 (some g))(hB:w.heap.size<=g):aj w w2:=
 h.trans ⟨hg.os,hg.tape,hg.output,hg.size,λ k hk=>hg.block k (Nat.lt_of_lt_of_le hk h.size) (λ e=>by injection e with e;omega)⟩
def abI (kv:Value)(gb:Nat)(le:Int):Nat->World->Value->Prop
 | 0,_,v=>v=kv
 | 1,_,v=>v=aw gb
 | 2,_,v=>v=af le
 | 3,_,v=>v=kv
 | 4,_,v=>v=af le
 | _,_,_=>False
theorem BF (kv:Value)(gb:Nat)(le:Int):∀i w w' v,abI kv gb le i w v->ai w w'->abI kv gb le i w' v:=by exact ZgL
theorem zhX.Kcc(h:p:=by have Il:=ai.then hb hL;have HK5:=HO.ae.later hL;go_wp2_with fail;exact bodyPost_ret (v:=.tuple #[u9,af FC]) (by simp[results,Tryz.results32,go_sem]) rfl ⟨_,by rw[Uy.ae],HK5.down (Nat.le_of_lt HS0.ae),Il⟩):p:=h
theorem Zc (lV cV:Value)(f:List Val->Bool×Int)(rows:List aW)(RA:Option Addr)(rc:Nat)(w:World)(hr:rows.length<=1000000)(hR:RR w w.heap.size RA rows)
  (hT:∀r∈rows,∀W1,aj w W1->ar 16 #[lV,cV,.slice r.A r.l.length r.c] W1 λ e w'=>e=.returned (.tuple #[.bool (f r.l).1,af (f r.l).2])/\aj W1 w'):
  ar 32 #[lV,cV,.slice RA rows.length rc] w λ e w'=>∃v,e=.returned (.tuple #[v,af (dx (rows.map λ r=>(f r.l).2))])/\aI ck 38 1 w' w.heap.size v (js f rows)/\aj w w':=by
 have HR:=aa hR;have HT:=aa hT;clear hR hT;have HX:=aB.new w 84 #[af 0];have h2:=ah w (.cells #[af 0] 84);have HS0:=aa (show w.heap.size <(w.alloc (.cells #[af 0] 84)).heap.size by rw[World.size_alloc];omega);go_enter Tryz.func32,Tryz.ntmps32;go_upto_region 2 with fail;generalize w.alloc _=W1 at*;obtain⟨g,hg⟩:∃g,g=w.heap.size:=⟨_,rfl⟩;rw[<- hg] at HX ⊢;have wA:=aa hg;clear hg;have H1:=aa HX;have H2:=aa h2;clear HX h2;go_wp2_with fail;go_loopw [9,16] (λ kv i wr=>∃k:Nat,k<=rows.length/\i=af k/\aI ck 38 1 wr W1.heap.size kv (js f (rows.take k))/\aB wr g 84 #[af (dx ((rows.take k).map λ r=>(f r.l).2))]/\aj w wr/\W1.heap.size<=wr.heap.size) (λ _ i _=>rows.length - (intOf i).toNat);case atStart=>exact⟨0,Nat.zero_le _,rfl,aI.nil,H1.ae,H2.ae,Nat.le_refl _⟩
 case round=>
  clear H1 H2;obtain⟨k,hk,rfl,hK,hL,hb,hs⟩:=hrel;have HO:=aa hK;have Q3:=aa hL;clear hK hL;by_cases hlt:k < rows.length
  ·obtain⟨b,off,rfl,kF,hcell⟩:=(HR.ae.below hb).at_ hlt;have ht:=HT.ae rows[k] (getElem_mem hlt);have oZ:=aa (show rows.take (k+1)=rows.take k++ [rows[k]] by rw[take_add_one,getElem?_eq_getElem hlt];rfl);generalize rows[k]=r at*;have nD:=aa (show js f (rows.take (k+1))=js f (rows.take k)++(if ((f r.l).2==0 &&(f r.l).1)=true then [r] else []) by rw[oZ.ae,OJ]);have OL:=aa (show dx ((rows.take (k+1)).map λ r=>(f r.l).2)=tx (dx ((rows.take k).map λ r=>(f r.l).2)) (f r.l).2 by rw[oZ.ae,map_append];exact qZ _ _);have Ah:(js f (rows.take k)).length<=1000000:=Nat.le_trans (length_filter_le _ _) TaV;generalize js f (rows.take k)=ks at*;generalize dx ((rows.take k).map λ r=>(f r.l).2)=FC at*;clear oZ;obtain⟨is,alF⟩:∃is,is=(f r.l).1:=⟨_,rfl⟩;obtain⟨er,her⟩:∃er,er=(f r.l).2:=⟨_,rfl⟩;rw[<- alF,<- her] at ht nD;rw[<- her] at OL;have oJ:=aa ht;clear ht alF her;have Zd:=hcell.1;clear hcell;go_wp2_with fail;refine(oJ.ae _ hb).mono ?_;rintro e w1 ⟨rfl,b1⟩;have hb1:=ai.then hb b1;replace HO:=aa (HO.ae.later b1);replace Q3:=aa (Q3.ae.later b1);replace hs:=Nat.le_trans hs b1.size;clear b1 oJ Zd hb;go_wp2_with fail;refine(vS g FC er _ Q3.ae).mono ?_;rintro e W2 ⟨rfl,hl2,hg2⟩;have hne:=HO.ae.other Q3.ae Tab;replace HO:=aa (HO.ae.grown hg2 hne);have hb2:=dQ hb1 hg2 TaR;replace hs:=Nat.le_trans hs hg2.size;replace Q3:=aa hl2;clear hg2 hne hb1 hl2;by_cases he:er=0
   ·subst he;cases is
    ·go_wp2_with fail;go_roundw;case rel=>exact⟨k+1,hlt,by go_num,by rw[nD.ae];simpa using HO.ae,by rw[OL.ae];exact Q3.ae,hb2,hs⟩
     case measure=>exact Za1
    ·go_upto_region 8 with fail;have hB:=ah W2 (.cells #[.slice r.A r.l.length r.c] 38);have hG:=aB.new W2 38 #[.slice r.A r.l.length r.c];have hb3:=ai.then hb2 hB
     replace HO:=aa (HO.ae.later hB);replace Q3:=aa (Q3.ae.later hB);have hbase:=Nat.le_trans hs hB.size;have HG:=aa hG;have hne:=HO.ae.other Q3.ae Tab;have nJ:=aa hne;have HS:=aa hbase;clear hG hB hne;go_wp2_with (first
      |(at_builtin
        refine aU rfl (.tmp 32) (.tmp 34) 29 rfl _ 24 Tryz.underlying29 qY rfl WC r rfl TaC rfl HO.ae W2.heap.size rfl HG.ae WC WC hbase ?_
        intro v4 w4 o4 g4
        have b4:=br HO.ae g4 hbase
        have L4:=aa (Q3.ae.grown g4 (Ne.symm nJ.ae))
        have s4:=Nat.le_trans HS.ae g4.size
        have O4:=aa o4
        clear o4 g4 HO HG Q3))
     go_roundw;case rel=>exact⟨k+1,hlt,by go_num,by rw[nD.ae];simpa using O4.ae,by rw[OL.ae];exact L4.ae,hb3.trans (b4.mono (Nat.le_of_lt HS0.ae)),s4⟩
     case measure=>exact Za1
   ·have t1:(er==0)=false:=by simp[he]
    have T1:=aa t1;clear he;go_wp2_with fail;go_roundw;case rel=>exact⟨k+1,hlt,by go_num,by rw[nD.ae,T1.ae];simpa using HO.ae,by rw[OL.ae];exact Q3.ae,hb2,hs⟩
    case measure=>exact Za1
  ·have lU:rows.take k=rows:=take_of_length_le WC;rw[lU] at HO Q3;have KZ:=aa (show dx (rows.map λ r=>(f r.l).2)=dx (rows.map λ r=>(f r.l).2)from rfl);generalize hle:dx (rows.map λ r=>(f r.l).2)=FC at*;clear KZ;have Uy:=aa hle;clear hle;go_upto_region 10 with fail;refine bC 5 (abI u9 g FC) (BF _ _ _) Taa Taa Taa ?_ ?_
   ·exact ZeJ
   intro W3 hL;simp only[Uab];rintro a0 - a1 - a2 - a3 q9 FA Us;replace q9:u9=a3:=Eq.symm q9;open zhX in exact Zgo
def bH (y:Ex):List Value:=[ag y.op,ag y.v.k,af y.v.n,.string y.v.s,.string y.name,af y.width,.slice y.A y.n y.c]
theorem fI:(Tryz.prog.info? 46).map (λ i=>(i.zero,i.size,i.bytes))=some (some (.agg dh),7,88):=by exact Zgx
theorem Ze (n:Nat)(hn:n<=1000000)(w:World):ar 69 #[az,af n] w λ e w'=>∃v,e=.returned v/\aI bH 46 7 w' w.heap.size v []/\aj w w':=by
 have hb:=Below.refl w.heap.size w;by_cases h0:n=0
 ·subst h0;go_enter Tryz.func69,Tryz.ntmps69;go_wp2_with fail;go_ret;exact⟨_,rfl,aI.nil,hb⟩
 obtain⟨i0,kZ,hz0,hz1,hz2⟩:=info_parts fI;have hrun:=Lib.run_append_nil_zeros (P:=Tryz.prog) w 23 3 23 46 i0 _ .i64 .i64 Tryz.underlying23 Tryz.underlying3 kZ hz0 n WC (by rw[hz1];decide) WC (by rw[hz2];omega);have vt:=grownCap_ge w n 0 46;have hle:=grownCap_le_maxLen w n 0 46 Tan
 have hown:aI bH 46 7 (w.drew.alloc (.cells (Builtin.zeroCells (Value.agg dh).cells n++Builtin.zeroCells (Value.agg dh).cells (grownCap w n 0 46 - n)) 46)) w.heap.size (aH w.heap.size 0 (grownCap w n 0 46)) []:=by
  refine⟨by simp,.inr ⟨w.heap.size,_,_,rfl,Nat.le_refl _,heap_alloc_new w.drew _,Nat.zero_le _,hle,?_,by simp⟩⟩;rw[Array.size_append,size_zeroCells,size_zeroCells];have e:(Value.agg dh).cells.size=7:=by kernel_rfl
  rw[e,<- Nat.add_mul];congr 1;omega
 have hb2:aj w (w.drew.alloc (.cells (Builtin.zeroCells (Value.agg dh).cells n++Builtin.zeroCells (Value.agg dh).cells (grownCap w n 0 46 - n)) 46)):=hb.drew.alloc (Nat.le_refl _) _;generalize World.alloc w.drew _=W at*;generalize grownCap w n 0 46=cp at*;have hnp:decide ((0:Int)<(n:Int))=true:=decide_eq_true WC;have azR:decide (0 < n)=true:=decide_eq_true WC;have asF:=aa hrun;have asG:=aa hown;have fE:=aa hb2;clear hrun hown hb2 h0 hb;go_enter Tryz.func69,Tryz.ntmps69;go_wp2_with (first
  |(at_builtin
    refine Lib.wpList_append_run _ rfl (.tmp 20) (.tmp 21) 23 3 rfl _ _ rfl rfl _ _ asF.ae ?_))
 go_ret;exact⟨_,rfl,asG.ae,fE.ae⟩
end Go.Proofs.YtndgjggokjickaaGreatDoor
namespace Go.Proofs.YtndgjggokjickaaGreatDoor.R
open List
variable{p:Prop}
set_option maxHeartbeats 90000000
set_option maxRecDepth 100000
set_option linter.unusedSimpArgs false
set_option linter.unusedVariables false
def fJ (c:UInt8):Bool:=(decide (97<=c)&& decide (c<=122))||(decide (65<=c)&& decide (c<=90))|| c==95
def bD (c:UInt8):Bool:=decide (48<=c)&& decide (c<=57)
def eP (c:UInt8):Bool:=fJ c || bD c
def rb (c:UInt8):Bool:=c==32 || c==9 || c==10 || c==13
def Im (c:UInt8):Bool:=decide (65<=c)&& decide (c<=90)
def vT (c:UInt8):UInt8:=if Im c then c+32 else c
def cy:Bool->List UInt8->List UInt8
 | _,[]=> []
 | true,c::r=>if c=10 then cy false r else cy true r
 | false,c::r=>if rb c then cy false r else if c=45/\r.head?=some 45 then cy true r else c::r
def ly (l:List UInt8):Nat:=l.foldl (λ v c=>v*10+(c.toNat - 48)) 0
def vU (l:List UInt8):Bool:=(decide (l.length<=1)|| !(l.head?==some 48))&& decide (ly l<=9223372036854775807)
def fK:List UInt8->Option (List UInt8×List UInt8)
 | []=>none
 | [c]=>if c=39 then some ([],[])else none
 | c::d::r=>if c=39 then(if d=39 then(fK r).map λ x=>(39::x.1,x.2)else some ([],d::r))else(fK (d::r)).map λ x=>(c::x.1,x.2)
def signs:List (List UInt8):=[[60,62],[60,61],[62,61],[40],[41],[44],[42],[43],[45],[47],[37],[61],[60],[62],[59]]
def kP:List (List UInt8)->List UInt8->Option (List UInt8)
 | [],_=>none
 | s::l,r=>if s.isPrefixOf r then some s else kP l r
structure Wd where
 k:Nat
 s:List UInt8
 n:Int
deriving DecidableEq
structure rp where
 w:Wd
 p:Nat
deriving DecidableEq
def ia:List UInt8->Except Nat (Wd×List UInt8)
 | []=> .error 30
 | c::r=>
   if fJ c then(if ((c::r).takeWhile eP).length<=32 then .ok (⟨1,((c::r).takeWhile eP).map vT,0⟩,(c::r).dropWhile eP)else .error 2)
   else if bD c then(if vU ((c::r).takeWhile bD)&& !(((c::r).dropWhile bD).head?.any fJ)then .ok (⟨2,[],ly ((c::r).takeWhile bD)⟩,(c::r).dropWhile bD)else .error 30)
   else if c=39 then(match fK r with
    | some (t,rest)=> .ok (⟨3,t,0⟩,rest)
    | none=> .error 30)
   else match kP signs (c::r)with
    | some s=> .ok (⟨4,s,0⟩,(c::r).drop s.length)
    | none=> .error 30
def xC (n:Nat):Nat->List UInt8->Except (Nat×Nat) (List rp)
 | 0,_=> .error (0,30)
 | f+1,r=>match cy false r with
   | []=> .ok [⟨⟨0,[],0⟩,n⟩]
   | c::r'=>match ia (c::r')with
     | .error e=> .error (n - (c::r').length,e)
     | .ok (w,rest)=>match xC n f rest with
       | .error e=> .error e
       | .ok l=> .ok (⟨w,n - (c::r').length⟩::l)
def zK (s:List UInt8):Except (Nat×Nat) (List rp):=if 4096 < s.length then .error (0,2)else xC s.length (s.length+1) s
def nE:List (List UInt8):=[[97,110,100],[97,115],[98,121],[99,97,108,108],[99,114,101,97,116,101],[100,101,108,101,116,101],[100,101,115,99],[100,114,111,112],[102,97,108,115,101],[102,114,111,109],[103,114,111,117,112],[104,97,118,105,110,103],[105,110,115,101,114,116],[105,110,116,111],[105,115],[108,105,109,105,116],[110,111,116],[110,117,108,108],[111,110,108,121],[111,114],[111,114,100,101,114],[115,101,108,101,99,116],[115,101,116],[116,114,117,101],[117,112,100,97,116,101],[118,97,108,117,101,115],[119,104,101,114,101]]
def tz (s:List UInt8):Bool:=nE.contains s
theorem kj:∀(b:Bool) (r:List UInt8),(cy b r).length<=r.length
 | _,[]=>by simp[cy]
 | true,c::r=>by have h1:=kj false r;have h2:=kj true r;simp only[cy];split <;> simp only[length_cons] <;> omega
 | false,c::r=>by
   have h1:=kj false r;have h2:=kj true r;simp only[cy];split
   ·simp only[length_cons];omega
   ·split <;> simp only[length_cons] <;> omega
theorem rq:∀(r:List UInt8) (t rest:List UInt8),fK r=some (t,rest)->∃b,r=b++rest/\b≠ []
 | [],t,rest,h=>by simp[fK] at h
 | [c],t,rest,h=>by
   simp only[fK] at h;split at h
   ·rename_i hc;injection h with h;injection h with h1 h2;subst h1 h2 hc;exact⟨[39],rfl,by simp⟩
   ·cases h
 | c::d::r,t,rest,h=>by
   simp only[fK] at h;split at h
   ·rename_i hc;subst hc;split at h
    ·rename_i hd;subst hd;cases hr:fK r with
     | none=>rw[hr] at h;cases h
     | some x=>obtain⟨t',rest'⟩:=x;rw[hr] at h;simp only[Option.map_some,Option.some.injEq,Prod.mk.injEq] at h;obtain⟨rfl,rfl⟩:=h;obtain⟨b,hb,_⟩:=rq r t' _ hr;exact⟨39::39::b,by rw[hb];rfl,by simp⟩
    ·injection h with h;injection h with h1 h2;subst h1 h2;exact⟨[39],rfl,by simp⟩
   ·cases hr:fK (d::r)with
    | none=>rw[hr] at h;cases h
    | some x=>obtain⟨t',rest'⟩:=x;rw[hr] at h;simp only[Option.map_some,Option.some.injEq,Prod.mk.injEq] at h;obtain⟨rfl,rfl⟩:=h;obtain⟨b,hb,_⟩:=rq (d::r) t' _ hr;exact⟨c::b,by rw[hb];rfl,by simp⟩
theorem ru:∀ {l:List (List UInt8)} {r s:List UInt8},kP l r=some s->s∈l/\s <+: r
 | [],r,s,h=>by simp[kP] at h
 | x::l,r,s,h=>by
   simp only[kP] at h;split at h
   ·rename_i hp;injection h with h;subst h;exact⟨mem_cons_self,by simpa using hp⟩
   ·obtain⟨h1,h2⟩:=ru h;exact⟨mem_cons_of_mem _ h1,h2⟩
variable{r rest:List UInt8}
theorem BG{w:Wd}(h:ia r=.ok (w,rest)):∃b,r=b++rest/\b≠ []:=by
 match r with
 | []=>simp[ia] at h
 | c::r=>
   simp only[ia] at h;split at h
   ·rename_i hc;split at h
    ·injection h with h;injection h with h1 h2;subst h1 h2;refine⟨_,(takeWhile_append_dropWhile (p:=eP)).symm,?_⟩;have:eP c=true:=by simp[eP,hc]
     simp[takeWhile_cons,this]
    ·cases h
   ·split at h
    ·rename_i hc;split at h
     ·injection h with h;injection h with h1 h2;subst h1 h2;refine⟨_,(takeWhile_append_dropWhile (p:=bD)).symm,?_⟩;simp[takeWhile_cons,hc]
     ·cases h
    ·split at h
     ·split at h
      ·rename_i t rest' ht;injection h with h;injection h with h1 h2;subst h1 h2;obtain⟨b,hb,_⟩:=rq _ _ _ ht;exact⟨c::b,by rw[hb];rfl,by simp⟩
      ·cases h
     ·split at h
      ·rename_i s hs;injection h with h;injection h with h1 h2;subst h1 h2;obtain⟨h1,t,h2⟩:=ru hs;refine⟨s,?_,?_⟩
       ·rw[<- h2];simp
       ·intro e;subst e;revert h1;decide
      ·cases h
theorem Ao{w:Wd}(h:ia r=.ok (w,rest)):rest.length < r.length:=by obtain⟨b,rfl,hb⟩:=BG h;have:0 < b.length:=List.length_pos_iff.2 hb;simp;omega
theorem FD (n:Nat):∀(f g:Nat) (r:List UInt8),r.length < f->r.length < g->xC n f r=xC n g r
 | 0,_,_,h,_=>by omega
 | _,0,_,_,h=>by omega
 | f+1,g+1,r,hf,hg=>by
   have hs:=kj false r;simp only[xC];cases hk:cy false r with
   | nil=>rfl
   | cons c r'=>
     rw[hk] at hs;simp only;cases ho:ia (c::r')with
     | error e=>rfl
     | ok x=>obtain⟨w,rest⟩:=x;have:=Ao ho;simp only;rw[FD n f g rest WC WC]
structure Val where
 k:Int
 n:Int
 s:ByteArray
inductive Tr where
 | mk (op:Int) (v:Val) (name:ByteArray) (width:Int) (args:List Tr)
def jG:Val:=⟨0,0,ByteArray.empty⟩
def Ap (op:Int)(l:List Tr):Tr:=.mk op jG ByteArray.empty 0 l
def tB (v:Val):Tr:=.mk 1 v ByteArray.empty 0 []
def ui (n:ByteArray):Tr:=.mk 2 jG n 0 []
def agN:List UInt8:=[111,114]
def Zf:List UInt8:=[97,110,100]
def Zg:List UInt8:=[110,111,116]
def abJ:List UInt8:=[105,115]
def Zh:List UInt8:=[110,117,108,108]
def OM:List UInt8:=[116,114,117,101]
def Aq:List UInt8:=[102,97,108,115,101]
def fl:List UInt8:=[115,101,108,101,99,116]
def xD:List UInt8:=[102,114,111,109]
def agO:List UInt8:=[111,110,108,121]
def Io:List UInt8:=[119,104,101,114,101]
def Ar:List UInt8:=[103,114,111,117,112]
def OO:List UInt8:=[98,121]
def Zi:List UInt8:=[104,97,118,105,110,103]
def Ip:List UInt8:=[111,114,100,101,114]
def Iq:List UInt8:=[108,105,109,105,116]
def OQ:List UInt8:=[100,101,115,99]
def abK:List UInt8:=[97,115]
def BH:List UInt8:=[98,117,99,107,101,116]
def Ir:List UInt8:=[99,111,117,110,116]
def Zj:List UInt8:=[115,117,109]
def aeJ:List UInt8:=[109,105,110]
def aeK:List UInt8:=[109,97,120]
def aeL:List UInt8:=[97,118,103]
def Sa:List UInt8:=[102,105,114,115,116]
def Zk:List UInt8:=[108,97,115,116]
def dK:List UInt8:=[44]
def eC:List UInt8:=[40]
def ez:List UInt8:=[41]
def agP:List UInt8:=[59]
def xE:List UInt8:=[42]
def sG:List UInt8:=[45]
def OS:List UInt8:=[43]
def Iu:List UInt8:=[47]
def xF:List UInt8:=[37]
def alG:List UInt8:=[61]
def alH:List UInt8:=[60,62]
def alI:List UInt8:=[60]
def alJ:List UInt8:=[60,61]
def agQ:List UInt8:=[62]
def alK:List UInt8:=[62,61]
structure Qu where
 items:List (Tr×ByteArray):=[]
 bT:ByteArray:=ByteArray.empty
 only:Bool:=false
 cD:List Tr:=[]
 group:List Tr:=[]
 having:List Tr:=[]
 order:List (Tr×Bool):=[]
 dv:List Int:=[]
structure St where
 kind:Int:=0
 name:ByteArray:=ByteArray.empty
 cols:List (ByteArray×Int):=[]
 time:ByteArray:=ByteArray.empty
 every:Int:=0
 space:ByteArray:=ByteArray.empty
 parts:Int:=0
 query:Qu:= {}
 what:Int:=0
 of_:ByteArray:=ByteArray.empty
 a:Int:=0
 b:Int:=0
 rows:List (List Tr):=[]
 agR:List (ByteArray×Tr):=[]
 cD:List Tr:=[]
 bT:Val:=jG
 eD:Val:=jG
abbrev dG:=List Wd
def Ps (α:Type):Type:=dG->Except Nat (α×dG)
instance:Monad Ps where
 pure x:=λ l=> .ok (x,l)
 bind p f:=λ l=>match p l with
  | .error n=> .error n
  | .ok (x,r)=>f x r
def iQ (s:List UInt8)(t:Wd):Bool:=(t.k==1 || t.k==4)&& t.s==s
def dH (s:List UInt8):dG->Bool
 | []=>false
 | t::_=>iQ s t
def may (s:List UInt8):Ps Bool:=λ l=>if dH s l then .ok (true,l.tail)else .ok (false,l)
def must (s:List UInt8):Ps Unit:=λ l=>if dH s l then .ok ((),l.tail)else .error l.length
def vV:Ps ByteArray
 | []=> .error 0
 | t::r=>if t.k=1/\tz t.s=false then .ok (⟨t.s.toArray⟩,r)else .error (t::r).length
def Iw:Ps Int
 | []=> .error 0
 | t::r=>if t.k=2 then .ok (t.n,r)else .error (t::r).length
def opsL:Nat->List (List UInt8×Int)
 | 0=> [(agN,17)]
 | 1=> [(Zf,16)]
 | 3=> [(alG,10),(alH,11),(alI,12),(alJ,13),(agQ,14),(alK,15)]
 | 4=> [(OS,5),(sG,6)]
 | 5=> [(xE,7),(Iu,8),(xF,9)]
 | _=> []
def Zl:List (List UInt8×Int)->dG->Option Int
 | [],_=>none
 |(s,o)::k,l=>if dH s l then some o else Zl k l
def OT:List (List UInt8×Int):=[(BH,20),(Ir,22),(Zj,23),(aeJ,24),(aeK,25),(aeL,26),(Sa,27),(Zk,28)]
def mb (n:ByteArray):Option Int:=OT.lookup n.data.toList
mutual
def Tr.depth:Tr->Nat
 | .mk _ _ _ _ args=>Tr.iz args+1
def Tr.iz:List Tr->Nat
 | []=>0
 | t::l=>max t.depth (Tr.iz l)
end
def Qu.exprs (q:Qu):List Tr:=q.items.map (·.1)++q.cD++q.group++q.having++q.order.map (·.1)
def St.exprs (s:St):List Tr:=s.rows.flatten++s.agR.map (·.2)++s.cD++s.query.exprs
def yP (l:dG):Prop:=∃x e,l=x++ [e]/\e.k=0
variable{t:Wd}
theorem yP.tail{r:dG}(h:yP (t::r))(ht:t.k≠0):yP r:=by
 obtain⟨x,e,hx,he⟩:=h
 match x with
 | []=>simp at hx;exact absurd (hx.1▸he) ht
 | y::x=>simp at hx;exact⟨x,e,hx.2,he⟩
theorem yP.pos{l:dG}(h:yP l):0 < l.length:=by obtain⟨x,e,rfl,_⟩:=h;simp
theorem alL{s:List UInt8} (h:iQ s t=true):t.k≠0:=by unfold iQ at h;simp at h;omega
theorem Ld{s:List UInt8} {l:dG}(h:dH s l=true):∃t r,l=t::r/\iQ s t=true:=by
 match l with
 | []=>simp[dH] at h
 | t::r=>exact⟨t,r,rfl,h⟩
open Go.RowKit
section
variable {w w':World} {g:Nat} {t:TypeId} {cs:Array Value}
theorem _root_.Go.Proofs.YtndgjggokjickaaGreatDoor.aB.drewN (h:aB w g t cs)(n:Nat):aB (w.drewN n) g t cs:=h
end
variable{B:Nat}
theorem dQ{p:Nat} {a b:World}(h:a.grownBy b (some p))(hB:B<=a.heap.size)(hp:B<=p):Below B a b:=
 ⟨h.os,h.tape,h.output,h.size,λ k hk=>h.block k WC (λ e=>by injection e with e;omega)⟩
section
variable {α:Type} {f:α->List Value} {e:TypeId} {size:Nat} {w w':World} {base:Nat} {v:Value} {l:List α}
end
section
variable {P:Program} {l zs:List Oper} {Q:Exit->Act->World->Prop} {R:World->World->Prop} {V:Nat->World->Value->Prop} {a0:Act} {w0:World}
end
instance (B:Nat) (w0:World):Nonempty (Ext B w0):=⟨⟨w0,Below.refl _ _⟩⟩
section
variable {P:Program} {o:Oper} {ρ:Operand->Value} {w:World} {T:Value->World->Prop}
end
section
variable {α:Type} {f:α->List Value} {e:TypeId} {size:Nat} {base:Nat} {lv:Value} {l:List α} {y:α}
theorem yQ {a b:World}(h:a.grownBy b none):aj a b:=⟨h.os,h.tape,h.output,h.size,λ k hk=>h.block k hk Tad⟩
end
section
variable {P:Program} {l zs:List Oper} {Q:Exit->Act->World->Prop} {R:World->World->Prop} {V:Nat->World->Value->Prop} {U:Nat->World->(Operand->Value)->Prop} {a0:Act} {w0:World}
end
open Go.ChangeShapes Go.WideShapes Go.ChangeAt
theorem jO{w:World} {p:Addr} {v:Value}(h:w.cell? p=some v):p.block < w.heap.size:=by
 rcases Nat.lt_or_ge p.block w.heap.size with hlt | vt
 ·exact hlt
 ·unfold World.cell? at h;rw[Array.getElem?_eq_none vt] at h;simp at h
def strOf (l:List UInt8):Value:=.string ⟨l.toArray⟩
variable{α:Type}
theorem xG{f:α->List Value} {size:Nat}(hf:∀x,(f x).length=size):∀(l:List α) (k:Nat) (x:α),l[k]?=some x->∀r u,(f x)[r]?=some u->(l.flatMap f)[k*size+r]?=some u
 | [],k,x,h,_,_,_=>by simp at h
 | y::l,0,x,h,r,u,hu=>by
   simp at h;subst h;have hr:r <(f y).length:=by
    rcases Nat.lt_or_ge r (f y).length with h' | h'
    ·exact h'
    ·rw[getElem?_eq_none h'] at hu;cases hu
   rw[Nat.zero_mul,Nat.zero_add,flatMap_cons,getElem?_append_left hr];exact hu
 | y::l,k+1,x,h,r,u,hu=>by have:=xG hf l k x Tal r u hu;rw[flatMap_cons,getElem?_append_right (by rw[hf,Nat.succ_mul];omega),hf];rw[show(k+1)*size+r - size=k*size+r by rw[Nat.succ_mul];omega];exact this
section
variable {α:Type} {f:α->List Value} {e:TypeId} {size:Nat} {w w':World} {base:Nat} {v:Value} {l:List α}
theorem _root_.Go.Proofs.YtndgjggokjickaaGreatDoor.aI.cell (hf:∀x,(f x).length=size)(h:aI f e size w base v l) {k:Nat} {x:α}(ho:l[k]?=some x):
  ∃g c,v=aH g l.length c/\base<=g/\g < w.heap.size/\∀r u,(f x)[r]?=some u->w.cell? ⟨g,k*size+r,none⟩=some u:=by
 have hk:k < l.length:=by exact ZfY
 rcases h.2 with ⟨_,h0⟩|⟨g,cap,cur,rfl,hb,h2,hn,hm,hs,ht⟩
 ·omega
 ·have hlt:g < w.heap.size:=by exact ZfN
  refine⟨g,cap,rfl,hb,hlt,λ r u hu=>?_⟩;have h1:=xG hf l k x ho r u hu;rw[<- ht] at h1
  have Kx:cur[k*size+r]?=some u:=by
   rw[getElem?_take] at h1;split at h1
   ·simpa using h1
   ·cases h1
  unfold World.cell?;simp[h2,Kx]
theorem _root_.Go.Proofs.YtndgjggokjickaaGreatDoor.aI.form (h:aI f e size w base v l):∃A c,v=.slice A l.length c:=by obtain⟨A,c,hv,_⟩:=h.reads;exact⟨A,c,hv⟩
end
structure Ex where
 op:Int
 v:Val
 name:ByteArray
 width:Int
 A:Option Addr
 n:Nat
 c:Nat
def bH (y:Ex):List Value:=[ag y.op,ag y.v.k,af y.v.n,.string y.v.s,.string y.name,af y.width,.slice y.A y.n y.c]
def mA (y:Ex):Value:=.agg (bH y).toArray
variable{β:Type}
def RL(f:β->List Value)(size:Nat)(w:World)(S:Nat->Prop)(A:Option Addr)(l:List β):Prop:=
 l=[]\/∃b off,A=some ⟨b,off,none⟩/\S b/\∀i y j u,l[i]?=some y->(f y)[j]?=some u->w.cell? ⟨b,off+i*size+j,none⟩=some u
variable{w':World}{S S':Nat->Prop}
theorem RL.keep{f:β->List Value} {size:Nat} {w:World}  {A:Option Addr} {l:List β}(h:RL f size w S A l)(hk:∀b,S b->(∀o,w'.cell? ⟨b,o,none⟩=w.cell? ⟨b,o,none⟩)/\S' b):RL f size w' S' A l:=by
 rcases h with h |⟨b,off,h1,h2,h3⟩
 ·exact .inl h
 ·exact .inr ⟨b,off,h1,(hk b h2).2,λ i y j u hy hu=>((hk b h2).1 _).trans (h3 i y j u hy hu)⟩
mutual
def Tr.at_ (w:World)(S:Nat->Prop):Tr->Ex->Prop
 | .mk op v name width args,y=>y.op=op/\y.v=v/\y.name=name/\y.width=width/\y.n=args.length/\∃ys,RL bH 7 w S y.A ys/\Tr.aO w S args ys
def Tr.aO (w:World)(S:Nat->Prop):List Tr->List Ex->Prop
 | [],ys=>ys=[]
 | t::ts,ys=>∃y ys',ys=y::ys'/\Tr.at_ w S t y/\Tr.aO w S ts ys'
end
mutual
theorem Tr.at_.keep {w w':World} {S S':Nat->Prop}(hk:∀b,S b->(∀o,w'.cell? ⟨b,o,none⟩=w.cell? ⟨b,o,none⟩)/\S' b):∀(t:Tr) (y:Ex),t.at_ w S y->t.at_ w' S' y
 | .mk op v name width args,y,h=>by unfold Tr.at_ at h ⊢;obtain⟨h1,h2,h3,h4,h5,ys,h6,h7⟩:=h;exact⟨h1,h2,h3,h4,h5,ys,h6.keep hk,Tr.aO.keep hk args ys h7⟩
theorem Tr.aO.keep {w w':World} {S S':Nat->Prop}(hk:∀b,S b->(∀o,w'.cell? ⟨b,o,none⟩=w.cell? ⟨b,o,none⟩)/\S' b):∀(ts:List Tr) (ys:List Ex),Tr.aO w S ts ys->Tr.aO w' S' ts ys
 | [],ys,h=>by unfold Tr.aO at h ⊢;exact h
 | t::ts,ys,h=>by unfold Tr.aO at h ⊢;obtain⟨y,ys',h1,h2,h3⟩:=h;exact⟨y,ys',h1,Tr.at_.keep hk t y h2,Tr.aO.keep hk ts ys' h3⟩
end
theorem Tr.aO.length{w:World} :∀ {ts:List Tr} {ys:List Ex},Tr.aO w S ts ys->ys.length=ts.length
 | [],ys,h=>by unfold Tr.aO at h;subst h;rfl
 | t::ts,ys,h=>by unfold Tr.aO at h;obtain⟨y,ys',rfl,_,h3⟩:=h;simp[Tr.aO.length h3]
variable{y:Ex}
theorem Tr.fL{w:World}  {t:Tr} (h:t.at_ w S y):Tr.aO w S [t] [y]:=by unfold Tr.aO;exact⟨y,[],rfl,h,by unfold Tr.aO;rfl⟩
variable{u:Tr}{z:Ex}
theorem Tr.abL{w:World}  {t:Tr} (h:t.at_ w S y)(k:u.at_ w S z):Tr.aO w S [t,u] [y,z]:=by unfold Tr.aO;exact⟨y,[z],rfl,h,Tr.fL k⟩
theorem Tr.all_nil{w:World} :Tr.aO w S [] []:=by unfold Tr.aO;rfl
structure El (α:Type) where
 β:Type
 f:β->List Value
 size:Nat
 hf:∀y,(f y).length=size
 rel:World->(Nat->Prop)->α->β->Prop
 keep:∀ {w w':World} {S S':Nat->Prop} {x:α} {y:β},(∀b,S b->(∀o,w'.cell? ⟨b,o,none⟩=w.cell? ⟨b,o,none⟩)/\S' b)->rel w S x y->rel w' S' x y
inductive mD {α β:Type} (R:α->β->Prop):List α->List β->Prop
 | nil:mD R [] []
 | cons {x:α} {y:β} {l:List α} {m:List β}:R x y->mD R l m->mD R (x::l) (y::m)
variable{R R':α->β->Prop}
theorem mD.imp(h:∀x y,R x y->R' x y):∀ {l:List α} {m:List β},mD R l m->mD R' l m
 | _,_,.nil=> .nil
 | _,_,.cons a b=> .cons (h _ _ a) (b.imp h)
theorem mD.len:∀ {l:List α} {m:List β},mD R l m->m.length=l.length
 | _,_,.nil=>rfl
 | _,_,.cons a b=>by simp[b.len]
theorem mD.append:∀ {l l':List α} {m m':List β},mD R l m->mD R l' m'->mD R (l++l') (m++m')
 | _,_,_,_,.nil,k=>k
 | _,_,_,_,.cons a b,k=> .cons a (b.append k)
theorem mD.one{x:α} {y:β}(h:R x y):mD R [x] [y]:=.cons h .nil
def El.lies(E:El α)(w:World)(S:Nat->Prop)(A:Option Addr)(n:Nat)(l:List α):Prop:=n=l.length/\∃ys,RL E.f E.size w S A ys/\mD (E.rel w S) l ys
variable{E:El α}
theorem El.lies.keep{w:World}  {A:Option Addr} {n:Nat} {l:List α}(h:E.lies w S A n l)(hk:∀b,S b->(∀o,w'.cell? ⟨b,o,none⟩=w.cell? ⟨b,o,none⟩)/\S' b):E.lies w' S' A n l:=by obtain⟨h1,ys,h2,h3⟩:=h;exact⟨h1,ys,h2.keep hk,h3.imp λ x y=>E.keep hk⟩
theorem El.Zm(E:El α)(w:World)(S:Nat->Prop):E.lies w S none 0 []:=⟨rfl,[],.inl rfl,.nil⟩
def Ix:El Tr:=⟨Ex,bH,7,λ _=>rfl,Tr.at_,λ hk h=>Tr.at_.keep hk _ _ h⟩
def ry:El (Tr×ByteArray):=⟨Ex×ByteArray,λ y=>bH y.1++ [.string y.2],8,λ _=>rfl,λ w S x y=>x.1.at_ w S y.1/\y.2=x.2,λ hk h=>⟨Tr.at_.keep hk _ _ h.1,h.2⟩⟩
def sH:El (Tr×Bool):=⟨Ex×Bool,λ y=>bH y.1++ [.bool y.2],8,λ _=>rfl,λ w S x y=>x.1.at_ w S y.1/\y.2=x.2,λ hk h=>⟨Tr.at_.keep hk _ _ h.1,h.2⟩⟩
def Sb:El Int:=⟨Int,λ y=> [af y],1,λ _=>rfl,λ _ _ x y=>y=x,λ _ h=>h⟩
def jg (B:Nat)(w:World):Nat->Prop:=λ b=>B<=b/\b < w.heap.size
theorem cell_of_heap{w:World} {b:Nat}(h:w'.heap[b]?=w.heap[b]?)(o:Nat):w'.cell? ⟨b,o,none⟩=w.cell? ⟨b,o,none⟩:=by unfold World.cell?;simp only[h]
theorem lK{g:Nat} {w:World}(h:w.grownBy w' (some g))(hg:g < B):∀b,jg B w b->(∀o,w'.cell? ⟨b,o,none⟩=w.cell? ⟨b,o,none⟩)/\jg B w' b:=λ b hb=>
 ⟨cell_of_heap (h.block b hb.2 (λ e=>by injection e with e;have:=hb.1;omega)),hb.1,Nat.lt_of_lt_of_le hb.2 h.size⟩
theorem iP{w:World}(h:aj w w'):∀b,jg B w b->(∀o,w'.cell? ⟨b,o,none⟩=w.cell? ⟨b,o,none⟩)/\jg B w' b:=λ b hb=>
 ⟨cell_of_heap (h.block b hb.2),hb.1,Nat.lt_of_lt_of_le hb.2 h.size⟩
variable{q:Nat}
theorem sI{w:World}(hq:q < B)(i:Nat)(u:Value):∀b,jg B w b->(∀o,(w.setCell ⟨q,i,none⟩ u).cell? ⟨b,o,none⟩=w.cell? ⟨b,o,none⟩)/\jg B (w.setCell ⟨q,i,none⟩ u) b:=λ b hb=>
 ⟨cell_of_heap (Below.heap_setCell w ⟨q,i,none⟩ u b (by have:=hb.1;simp;omega)),hb.1,by simpa [World.setCell] using hb.2⟩
variable{B':Nat}
theorem iY{w:World}(h:B'<=B):∀b,jg B w b->(∀o,w.cell? ⟨b,o,none⟩=w.cell? ⟨b,o,none⟩)/\jg B' w b:=λ b hb=>⟨λ _=>rfl,Nat.le_trans h hb.1,hb.2⟩
section
variable {B B' g q:Nat} {w w':World} {t:Tr} {y:Ex}
theorem Tr.at_.grown (h:t.at_ w (jg B w) y)(hg:w.grownBy w' (some g))(hB:g < B):t.at_ w' (jg B w') y:=Tr.at_.keep (lK hg hB) t y h
theorem Tr.at_.later (h:t.at_ w (jg B w) y)(hb:aj w w'):t.at_ w' (jg B w') y:=Tr.at_.keep (iP hb) t y h
theorem Tr.at_.set (h:t.at_ w (jg B w) y)(hq:q < B)(i:Nat)(u:Value):t.at_ (w.setCell ⟨q,i,none⟩ u) (jg B (w.setCell ⟨q,i,none⟩ u)) y:=Tr.at_.keep (sI hq i u) t y h
theorem Tr.at_.more (h:t.at_ w (jg B w) y)(hB:B'<=B):t.at_ w (jg B' w) y:=Tr.at_.keep (iY hB) t y h
end
section
variable {α:Type} {E:El α} {B B' g q:Nat} {w w':World} {A:Option Addr} {n:Nat} {l:List α}
theorem El.lies.more (h:E.lies w (jg B w) A n l)(hB:B'<=B):E.lies w (jg B' w) A n l:=h.keep (iY hB)
end
def Bx (B q:Nat)(w:World):Nat->Prop:=λ b=>B<=b/\b < w.heap.size/\b≠q
section
variable {B B' g q:Nat} {w w':World} {t:Tr} {y:Ex}
theorem vX (h:w.grownBy w' (some g))(hg:g < B):∀b,Bx B q w b->(∀o,w'.cell? ⟨b,o,none⟩=w.cell? ⟨b,o,none⟩)/\Bx B q w' b:=λ b hb=>
 ⟨cell_of_heap (h.block b hb.2.1 (λ e=>by injection e with e;have:=hb.1;omega)),hb.1,Nat.lt_of_lt_of_le hb.2.1 h.size,hb.2.2⟩
theorem BI (h:aj w w'):∀b,Bx B q w b->(∀o,w'.cell? ⟨b,o,none⟩=w.cell? ⟨b,o,none⟩)/\Bx B q w' b:=λ b hb=>
 ⟨cell_of_heap (h.block b hb.2.1),hb.1,Nat.lt_of_lt_of_le hb.2.1 h.size,hb.2.2⟩
theorem Zn (i:Nat)(u:Value):∀b,Bx B q w b->(∀o,(w.setCell ⟨q,i,none⟩ u).cell? ⟨b,o,none⟩=w.cell? ⟨b,o,none⟩)/\Bx B q (w.setCell ⟨q,i,none⟩ u) b:=λ b hb=>
 ⟨cell_of_heap (Below.heap_setCell w ⟨q,i,none⟩ u b (λ e=>hb.2.2 e)),hb.1,by simpa [World.setCell] using hb.2.1,hb.2.2⟩
theorem OU (hB:B'<=B):∀b,Bx B q w b->(∀o,w.cell? ⟨b,o,none⟩=w.cell? ⟨b,o,none⟩)/\jg B' w b:=λ b hb=>⟨λ _=>rfl,Nat.le_trans hB hb.1,hb.2.1⟩
theorem OV (o:Obj)(hB:B'<=B):∀b,jg B w b->(∀i,(w.alloc o).cell? ⟨b,i,none⟩=w.cell? ⟨b,i,none⟩)/\Bx B' w.heap.size (w.alloc o) b:=λ b hb=>
 ⟨cell_of_heap (Below.heap_alloc w o b hb.2),Nat.le_trans hB hb.1,by have:=hb.2;simp;omega,by have:=hb.2;omega⟩
theorem alM (hq:q < B)(hB:B'<=B):∀b,jg B w b->(∀i,w.cell? ⟨b,i,none⟩=w.cell? ⟨b,i,none⟩)/\Bx B' q w b:=λ b hb=>
 ⟨λ _=>rfl,Nat.le_trans hB hb.1,hb.2,by have:=hb.1;omega⟩
end
variable{G:Nat}{ys:List β}
theorem OW{f:β->List Value} {size:Nat}(hf:∀x,(f x).length=size) {w:World}   {T:TypeId} (h:aB w G T (ys.flatMap f).toArray)(hS:S G):RL f size w S (some ⟨G,0,none⟩) ys:=by refine .inr ⟨G,0,rfl,hS,λ i y j u hy hu=>?_⟩;have:=xG hf ys i y hy j u hu;have hc:=h.cell (i*size+j);rw[Nat.zero_add,hc];exact Ze5
theorem uj (y:Ex):(bH y).length=7:=rfl
def uk:Val:=⟨0,0,⟨#[]⟩⟩
def opY (op:Int)(G n:Nat):Ex:=⟨op,uk,⟨#[]⟩,0,some ⟨G,0,none⟩,n,n⟩
variable{x2:Tr}{y2:Ex}
theorem agT{w:World}   {T:TypeId} {x:Tr} (op:Int)(h:aB w G T (bH y++bH y2).toArray)(hS:S G)(hx:x.at_ w S y)(hx2:x2.at_ w S y2):(Ap op [x,x2]).at_ w S (opY op G 2):=by unfold Ap Tr.at_;exact⟨rfl,rfl,rfl,rfl,rfl,[y,y2],OW uj Tal hS,Tr.abL hx hx2⟩
theorem Iy (w:World)(S:Nat->Prop)(v:Val):(tB v).at_ w S ⟨1,v,⟨#[]⟩,0,none,0,0⟩:=by unfold tB Tr.at_;exact Zf0
theorem BJ (w:World)(S:Nat->Prop)(n:ByteArray):(ui n).at_ w S ⟨2,uk,n,0,none,0,0⟩:=by unfold ui Tr.at_;exact Zf0
theorem agU (w:World)(S:Nat->Prop)(op:Int):(Ap op []).at_ w S ⟨op,uk,⟨#[]⟩,0,none,0,0⟩:=by unfold Ap Tr.at_;exact Zf0
inductive cj where
 | good (l:dG)
 | bad (n:Nat)
def cj.left:cj->Nat
 | .good l=>l.length
 | .bad n=>n
def cj.gT:cj->Bool
 | .good _=>true
 | .bad _=>false
def cj.words:cj->dG
 | .good l=>l
 | .bad _=> []
def dn(p:Ps α):cj->cj
 | .bad n=> .bad n
 | .good l=>match p l with
   | .ok (_,r)=> .good r
   | .error n=> .bad n
def km(p:Ps α):cj->α->Prop
 | .bad _,_=>True
 | .good l,x=>match p l with
   | .ok (y,_)=>x=y
   | .error _=>True
variable{σ:cj}
theorem Uz{p:Ps α} {f:α->Ps β}  {x:α}(h:km p σ x):dn (p >>= f) σ=dn (f x) (dn p σ):=by
 match σ with
 | .bad n=>rfl
 | .good l=>
   have aqH:∀l,(p>>=f) l=match p l with | .error n=>.error n | .ok (x,r)=>f x r:=λ _=>rfl
   simp only[dn,km,aqH] at h ⊢
   cases e:p l with
   | error n=>rfl
   | ok y=>obtain⟨y,r⟩:=y;rw[e] at h;simp only at h;subst h;rfl
theorem UC(x:α)(σ:cj):dn (pure x:Ps α) σ=σ:=by cases σ <;> rfl
theorem FE(p:Ps α)(n:Nat)(x:α):km p (.bad n) x:=trivial
def cj.head (s:List UInt8)(σ:cj):Bool:=dH s σ.words
theorem Le (s:List UInt8)(σ:cj):dn (may s) σ=if σ.head s then .good σ.words.tail else σ:=by
 match σ with
 | .bad n=>rfl
 | .good l=>simp only[dn,may,cj.head,cj.words];exact Zho
theorem FH (s:List UInt8)(σ:cj):dn (must s) σ=if σ.head s then .good σ.words.tail else .bad σ.left:=by
 match σ with
 | .bad n=>rfl
 | .good l=>simp only[dn,must,cj.head,cj.words,cj.left];exact Zho
theorem OX (p:Ps Unit)(σ:cj):km p σ ():=by
 match σ with
 | .bad n=>trivial
 | .good l=>simp only[km];split <;> trivial
def cj.of (W:dG):cj->Prop
 | .good l=>l <:+ W/\yP l
 | .bad n=>0 < n/\n<=W.length
variable{W:dG}
theorem cj.OY(h:σ.of W):0 < σ.left/\σ.left<=W.length:=by
 match σ with
 | .bad n=>exact h
 | .good l=>exact⟨h.2.pos,h.1.length_le⟩
theorem cj.of_next{l:dG}(h:(cj.good l).of W):∃t r,l=t::r/\W[W.length - l.length]?=some t:=by
 obtain⟨⟨b,hb⟩,h2⟩:=h
 match l,h2.pos with
 | t::r,_=>refine⟨t,r,rfl,?_⟩;rw[<- hb,length_append,Nat.add_sub_cancel,getElem?_append_right (Nat.le_refl _),Nat.sub_self];rfl
def ib (p:UInt8->Bool)(l:List UInt8)(k:Nat):Nat:=k+((l.drop k).takeWhile p).length
theorem abM (p:UInt8->Bool)(l:List UInt8)(k:Nat)(hk:k<=l.length):ib p l k<=l.length:=by have:=(takeWhile_sublist (p:=p) (l:=l.drop k)).length_le;simp only[length_drop] at this;unfold ib;omega
theorem eV (s:ByteArray)(k:Nat)(hk:k < s.size):s.data.toList[k]?=some s[k]:=by rw[getElem?_eq_getElem Ta3];simp[ByteArray.getElem_eq_getElem_data]
variable{l:List UInt8}
theorem cH{k:Nat} {c:UInt8}(h:l[k]?=some c):l.drop k=c::l.drop (k+1):=by
 have hk:k < l.length:=by
  rcases Nat.lt_or_ge k l.length with h' | h'
  ·exact h'
  ·rw[getElem?_eq_none h'] at h;cases h
 rw[drop_eq_getElem_cons hk];rw[getElem?_eq_getElem hk] at h;injection h with h;rw[h]
theorem BK{p:UInt8->Bool}  {k:Nat} {c:UInt8}(h:l[k]?=some c)(hp:p c=true):ib p l k=ib p l (k+1):=by unfold ib;rw[cH h,takeWhile_cons,if_pos hp,length_cons];omega
theorem Sc{p:UInt8->Bool}  {k:Nat} {c:UInt8}(h:l[k]?=some c)(hp:p c=false):ib p l k=k:=by unfold ib;rw[cH h,takeWhile_cons,if_neg (by rw[hp];decide)];rfl
theorem Lf{p:UInt8->Bool}  {k:Nat}(h:l.length<=k):ib p l k=k:=by unfold ib;rw[drop_eq_nil_of_le h];rfl
theorem Sd (p:UInt8->Bool):∀r:List UInt8,r.drop (r.takeWhile p).length=r.dropWhile p
 | []=>rfl
 | c::r=>by
   rw[takeWhile_cons,dropWhile_cons];split
   ·simpa using Sd p r
   ·rfl
theorem abN (p:UInt8->Bool)(r:List UInt8):r.take (r.takeWhile p).length=r.takeWhile p:=by
 induction r with
 | nil=>rfl
 | cons c r ih=>
   rw[takeWhile_cons];split
   ·simpa using ih
   ·rfl
theorem BL (p:UInt8->Bool)(l:List UInt8)(k:Nat):l.drop (ib p l k)=(l.drop k).dropWhile p:=by unfold ib;rw[<- drop_drop,Sd]
theorem Lg (p:UInt8->Bool)(l:List UInt8)(k:Nat):(l.drop k).take (ib p l k - k)=(l.drop k).takeWhile p:=by unfold ib;rw[Nat.add_sub_cancel_left,abN]
theorem ko:∀(b:Bool) (r:List UInt8),cy b r <:+ r
 | _,[]=>by simp[cy]
 | true,c::r=>by
   simp only[cy];split
   ·exact(ko false r).trans (suffix_cons _ _)
   ·exact(ko true r).trans (suffix_cons _ _)
 | false,c::r=>by
   simp only[cy];split
   ·exact(ko false r).trans (suffix_cons _ _)
   ·split
    ·exact(ko true r).trans (suffix_cons _ _)
    ·exact suffix_refl _
theorem drop_suffix(h:r <:+ l):l.drop (l.length - r.length)=r:=by obtain⟨p,rfl⟩:=h;simp
theorem Zo (l:List UInt8)(c:UInt8):ly (l++ [c])=ly l*10+(c.toNat - 48):=by simp[ly]
theorem Zp (l:List UInt8):∀v,v<=l.foldl (λ v c=>v*10+(c.toNat - 48)) v:=by
 induction l with
 | nil=>intro v;exact Nat.le_refl _
 | cons c l ih=>intro v;have:=ih (v*10+(c.toNat - 48));simp only[foldl_cons];omega
theorem Sg{p:UInt8->Bool}(l:List UInt8):∀c∈l.takeWhile p,p c=true:=λ c hc=>List.all_eq_true.1 (all_takeWhile (p:=p) (l:=l)) c hc
def alN (f:FuncId)(p:UInt8->Bool):Prop:=∀(c:UInt8) (W:World),ar f #[ag (c.toNat:Int)] W λ e w'=>e=.returned (.bool (p c))/\W=w'
theorem mf{a b:Bool}(h:a=b):Ending.returned (.bool a)=.returned (.bool b):=by rw[h]
theorem mV{k:IntKind} {a b:Int}(h:a=b):Ending.returned (.int k a)=.returned (.int k b):=by rw[h]
theorem OZ (c:UInt8):fJ c=((decide ((97:Int)<=c.toNat)&& decide ((c.toNat:Int)<=122))||(decide ((65:Int)<=c.toNat)&& decide ((c.toNat:Int)<=90))||((c.toNat:Int)==95)):=by rw[Bool.eq_iff_iff];simp only[fJ,UInt8.le_iff_toNat_le,<- UInt8.toNat_inj,Bool.or_eq_true,Bool.and_eq_true,decide_eq_true_eq,beq_iff_eq];simp;omega
theorem UD (c:UInt8):bD c=(decide ((48:Int)<=c.toNat)&& decide ((c.toNat:Int)<=57)):=by rw[Bool.eq_iff_iff];simp only[bD,UInt8.le_iff_toNat_le,Bool.and_eq_true,decide_eq_true_eq];simp;omega
theorem agV (c:UInt8)(k:UInt8):(c==k)=((c.toNat:Int)==(k.toNat:Int)):=by rw[Bool.eq_iff_iff];simp[<- UInt8.toNat_inj];omega
theorem xH (c:UInt8):rb c=(((c.toNat:Int)==32)||((c.toNat:Int)==9)||((c.toNat:Int)==10)||((c.toNat:Int)==13)):=by simp only[rb,agV];rfl
theorem bP{w:World}  {t:TypeId} {a b c d:Value}(h:aB w q t #[a,b,c,d]):
  w.cell? ⟨q,0,none⟩=some a/\w.cell? ⟨q,1,none⟩=some b/\w.cell? ⟨q,2,none⟩=some c/\w.cell? ⟨q,3,none⟩=some d/\w.frozen? ⟨q,0,none⟩=false/\w.frozen? ⟨q,1,none⟩=false/\w.frozen? ⟨q,2,none⟩=false/\w.frozen? ⟨q,3,none⟩=false:=
 ⟨h.cell 0,h.cell 1,h.cell 2,h.cell 3,h.frozen 0,h.frozen 1,h.frozen 2,h.frozen 3⟩
theorem pk (s:ByteArray)(a b:Nat):(s.extract a b).data.toList=(s.data.toList.take b).drop a:=by rw[ByteArray.data_extract,Array.toList_extract,extract_eq_take_drop,drop_take]
def fF (s:ByteArray)(a:Nat):Nat:=s.size - (cy false (s.data.toList.drop a)).length
theorem mW (s:ByteArray)(a:Nat):s.data.toList.drop (fF s a)=cy false (s.data.toList.drop a):=by have h:cy false (s.data.toList.drop a)<:+ s.data.toList:=(ko _ _).trans (List.drop_suffix _ _);have:=drop_suffix h;simpa [fF] using this
theorem xI (s:ByteArray)(a:Nat):fF s a<=s.size:=Nat.sub_le _ _
theorem UE(s:ByteArray) {a b:Nat}(h:cy false (s.data.toList.drop a)=cy false (s.data.toList.drop b)):fF s a=fF s b:=by unfold fF;rw[h]
theorem mX (p:UInt8->Bool)(s:ByteArray)(k:Nat):(s.extract k (ib p s.data.toList k)).data.toList=(s.data.toList.drop k).takeWhile p:=by rw[pk,<- Lg,drop_take]
theorem abO (p:UInt8->Bool)(l:List UInt8)(k:Nat):ib p l k - k=((l.drop k).takeWhile p).length:=by unfold ib;omega
theorem vY(p:UInt8->Bool)(s:ByteArray) {k:Nat}(hk:k<=s.size):s.size - ((s.data.toList.drop k).dropWhile p).length=ib p s.data.toList k:=by rw[<- BL,length_drop];have:=abM p s.data.toList k Ta3;simp at this ⊢;omega
def more (acc:List UInt8)(x:Option (List UInt8×List UInt8)):Option (List UInt8×List UInt8):=x.map λ y=>(acc++y.1,y.2)
theorem Zq (x:Option (List UInt8×List UInt8)):more [] x=x:=by cases x <;> rfl
theorem Pa{c:UInt8}(h:c≠39)(r acc:List UInt8):more acc (fK (c::r))=more (acc++ [c]) (fK r):=by
 cases r with
 | nil=>simp[fK,h,more]
 | cons d r=>simp only[fK,if_neg h,more];cases fK (d::r)<;> simp
theorem Zr (r acc:List UInt8):more acc (fK (39::39::r))=more (acc++ [39]) (fK r):=by simp only[fK,more,if_true];cases fK r <;> simp
theorem Lh(h:r.head?≠some 39)(acc:List UInt8):more acc (fK (39::r))=some (acc,r):=by
 cases r with
 | nil=>simp[fK,more]
 | cons d r=>
   have:d≠39:=λ e=>h (by rw[e];rfl)
   simp[fK,this,more]
theorem BM (w:World)(a b:Nat):(w.drewN a).drewN b=w.drewN (a+b):=by simp[World.drewN,Nat.add_assoc]
theorem abP{i:Nat}(hi:i < 15):∃x,signs[i]?=some x/\signs.drop i=x::signs.drop (i+1)/\1<=x.length/\x.length<=2:=by
 have key:∀i,i < 15->∃x,signs[i]?=some x/\1<=x.length/\x.length<=2:=by
  intro i hi
  match i,hi with
  | 0,_ | 1,_ | 2,_ | 3,_ | 4,_ | 5,_ | 6,_ | 7,_ | 8,_ | 9,_ | 10,_ | 11,_ | 12,_ | 13,_ | 14,_=>exact⟨_,rfl,by decide,by decide⟩
  | n+15,h=>omega
 obtain⟨x,h1,h2,h3⟩:=key i hi;refine⟨x,h1,?_,h2,h3⟩;have hlt:i < signs.length:=hi;exact ZfZ
theorem Sh:nE.length=27:=by decide+kernel
theorem agW{i:Nat}(hi:i < 27):∃x,nE[i]?=some x/\nE.take (i+1)=nE.take i++ [x]/\(nE.take i).contains x=false:=by
 have hlt:i < nE.length:=by rw[Sh];exact hi
 refine⟨nE[i],getElem?_eq_getElem hlt,by rw[take_succ_eq_append_getElem hlt],?_⟩;have key:(List.range 27).all (λ i=> !(nE.take i).contains (nE.getD i []))=true:=by decide+kernel
 have:=List.all_eq_true.1 key i (List.mem_range.2 hi);rw[getD_eq_getElem?_getD,getElem?_eq_getElem hlt] at this;exact Ze5
theorem UF (c:UInt8):(Im c=true/\decide ((65:Int)<=c.toNat)=true/\decide ((c.toNat:Int)<=90)=true)\/(Im c=false/\decide ((65:Int)<=c.toNat)=true/\decide ((c.toNat:Int)<=90)=false)\/(Im c=false/\decide ((65:Int)<=c.toNat)=false):=by
 have e:Im c=(decide ((65:Int)<=c.toNat)&& decide ((c.toNat:Int)<=90)):=by rw[Bool.eq_iff_iff];simp only[Im,UInt8.le_iff_toNat_le,Bool.and_eq_true,decide_eq_true_eq];simp;omega
 rw[e];by_cases h1:(65:Int)<=c.toNat <;> by_cases h2:(c.toNat:Int)<=90 <;> simp[h1,h2]
def Zs (b:Bool)(w:World)(e:Ending)(w':World):Prop:=e=.returned (.bool b)/\aj w w'
theorem ei:alN 174 fJ:=by intro c W;rw[OZ];have h1:=c.toNat_lt;generalize c.toNat=n at*;go_enter Tryz.func174,Tryz.ntmps174;exact Zd6
theorem eK:alN 175 bD:=by intro c W;rw[UD];have h1:=c.toNat_lt;generalize c.toNat=n at*;go_enter Tryz.func175,Tryz.ntmps175;exact Zd6
theorem Ef (w:World):ar 198 #[] w λ e w'=>e=.returned (aH w.heap.size 27 27)/\w'=w.alloc (.cells (nE.map λ l=>Value.string ⟨l.toArray⟩).toArray 9):=by go_enter Tryz.func198,Tryz.ntmps198;exact Zc7
variable{x:List UInt8}
theorem Zt{i:Nat} (h1:nE[i]?=some x):nE.drop i=x::nE.drop (i+1):=by
 have hlt:i < nE.length:=by
  rcases Nat.lt_or_ge i nE.length with h | h
  ·exact h
  ·rw[getElem?_eq_none h] at h1;cases h1
 exact ZfZ
theorem UG (l:List UInt8):(⟨l.toArray⟩:ByteArray).toList=l:=by rw[ByteArray.toList_eq]
theorem Eg (s:ByteArray)(w:World):ar 183 #[.string s] w (Zs (tz s.data.toList) w):=by
 go_enter Tryz.func183,Tryz.ntmps183;go_wp2_with fail;refine(Ef w).mono ?_;rintro e w1 ⟨rfl,rfl⟩;have HB:=aa (aB.new w 9 (nE.map λ l=>Value.string ⟨l.toArray⟩).toArray);have b1:=ah w (.cells (nE.map λ l=>Value.string ⟨l.toArray⟩).toArray 9);generalize w.alloc (.cells (nE.map λ l=>Value.string ⟨l.toArray⟩).toArray 9)=W at*;go_wp2_with fail;go_loop [4] (λ u=>∃i:Nat,i<=27/\u=af i/\tz s.data.toList=(nE.drop i).contains s.data.toList) (λ u=>27 - (intOf u).toNat);case atStart=>exact⟨0,by omega,rfl,rfl⟩
 case round=>
  obtain⟨i,hi,rfl,hf⟩:=hrel;have H2:=aa hf;clear hf;by_cases hlt:i < 27
  ·obtain⟨x,hx,_,_⟩:=agW hlt;have hcell:=HB.ae.cell i;have hx2:(nE.map λ l=>Value.string ⟨l.toArray⟩).toArray[i]?=some (.string ⟨x.toArray⟩):=by simp[hx]
   rw[hx2] at hcell;have Z6:=aa (Zt hx);have e0:=UG x;have Iz:=aa e0;clear hx hx2 e0;by_cases he:s.data.toList=x
   ·have HE:=aa he;have t2:(x==s.toList)=true:=by rw[ByteArray.toList_eq,he];simp
    clear he;go_wp2_with fail;go_ret;refine⟨mf ?_,b1⟩;rw[H2.ae,Z6.ae,HE.ae];simp
   ·have HE:=aa he;have t2:(x==s.toList)=false:=by rw[ByteArray.toList_eq,beq_eq_false_iff_ne];exact λ e=>he e.symm
    clear he;go_wp2_with fail;go_round
    case rel=>
     refine⟨i+1,by omega,by go_num,?_⟩;rw[H2.ae,Z6.ae,contains_cons];have:(s.data.toList==x)=false:=by simpa using HE.ae
     rw[this];rfl
    case measure=>exact Za1
  ·obtain rfl:i=27:=by omega
   go_wp2_with fail;go_ret;refine⟨mf ?_,b1⟩;rw[H2.ae,drop_eq_nil_of_le (Nat.le_of_eq Sh)];rfl
theorem IB (w:World)(g:Nat)(c:UInt8)(h:aB w g 5 #[ag (c.toNat:Int)]):(convert 97 9 (aH g 1 1)).run Tryz.prog w=.ok (.string ⟨#[c]⟩) w:=by
 have:=run_convert_bytes_back (P:=Tryz.prog) w 97 9 5 ⟨g,0,none⟩ 1 [c] Tryz.underlying97 Tryz.underlying5 Tryz.underlying9 (λ j hj=>by
  have:j=0:=by simpa using hj
  subst this
  have h0:=h.cell 0
  simpa [Addr.add] using h0)
 exact Ze5
theorem abQ{c:UInt8}(h:Im c=true):(vT c).toNat=c.toNat+32:=by unfold vT;rw[if_pos h];simp[Im,UInt8.le_iff_toNat_le] at h;rw[UInt8.toNat_add];simp;omega
theorem Si{c:UInt8}(h:Im c=false):vT c=c:=by unfold vT;rw[h];rfl
theorem mg (l:List UInt8)(c:UInt8):(⟨l.toArray⟩:ByteArray)++⟨#[c]⟩=⟨(l++ [c]).toArray⟩:=by apply ByteArray.ext;simp
theorem FI (s:ByteArray)(w:World)(hs:s.size<=4294967280):ar 176 #[.string s] w λ e w'=>e=.returned (.string ⟨(s.data.toList.map vT).toArray⟩)/\aj w w':=by
 have HLEN:=aa (show s.data.toList.length=s.size by simp);go_enter Tryz.func176,Tryz.ntmps176;go_wp2_with fail;go_loopw [3,4] (λ x u wr=>∃(i:Nat) (l:List UInt8),i<=s.size/\u=af i/\x=.string ⟨l.toArray⟩/\l.length=i/\s.data.toList.map vT=l++(s.data.toList.drop i).map vT/\aj w wr) (λ _ u _=>s.size - (intOf u).toNat);case atStart=>exact⟨0,[],by omega,rfl,rfl,rfl,rfl,Below.refl _ _⟩
 case round=>
  obtain⟨i,l,hi,rfl,rfl,hl,hm,hb⟩:=hrel;have HM:=aa hm;have hl2:l.length<=s.size:=by omega
  have HL:=aa hl;have zL:=aa (show l.length<=s.size by omega);clear hm hl;by_cases hlt:i < s.size
  ·have HD:=aa (cH (eV s i hlt));rcases UF s[i] with ⟨hc,t1,t2⟩|⟨hc,t1,t2⟩|⟨hc,t1⟩
   ·have Lj:=abQ hc;have hn:s[i].toNat<=90:=by have:=of_decide_eq_true t2;omega
    have hr:=IB _ _ (vT s[i]) (aB.new wr 5 #[ag ((vT s[i]).toNat:Int)]);rw[Lj] at hr;rw[show((s[i].toNat+32:Nat):Int)=(s[i].toNat:Int)+32 from rfl] at hr;have um:=aa Lj;clear Lj hc;go_wp2_with fail;go_roundw;case rel=>refine⟨i+1,l++ [vT s[i]],by omega,by go_num,by rw[mg],by rw[length_append,HL.ae];rfl,?_,hb.trans ((ah wr _).mono hb.size)⟩;rw[HM.ae,HD.ae];simp
    case measure=>exact Za1
   ·exact Zci
   ·exact Zci
  ·go_wp2_with fail;go_ret;refine⟨?_,hb⟩;rw[HM.ae,drop_eq_nil_of_le Tat];simp
theorem BN{s:ByteArray} {a b:Nat}(h:cy false (s.data.toList.drop a)=cy false (s.data.toList.drop b)):fF s a=fF s b:=UE s h
theorem sJ{s:ByteArray} {a:Nat}(ha:a<=s.size)(h:cy false (s.data.toList.drop a)=s.data.toList.drop a):fF s a=a:=by unfold fF;rw[h,length_drop];simp;omega
theorem ziq.Kco(h:p:=by rintro⟨_,h⟩;rw[IC.ae] at h;exact H46.ae Tal):p:=h
theorem zir.Kco(h:p:=by rintro⟨_,h⟩;rw[drop_eq_nil_of_le Tat] at h;simp at h):p:=h
theorem zis.Kco(h:p:=by rintro⟨h,_⟩;exact H45.ae h):p:=h
theorem FJ (s:ByteArray)(at_:Nat)(w:World)(ha:at_<=s.size)(hs:s.size<=4294967280):ar 131 #[.string s,af at_] w λ e w'=>e=.returned (af (fF s at_))/\w=w':=by
 have HLEN:=aa (show s.data.toList.length=s.size by simp);go_enter Tryz.func131,Tryz.ntmps131;go_wp2_with fail;go_loop [1] (λ u=>∃i:Nat,i<=s.size/\u=af i/\fF s at_=fF s i) (λ u=>s.size - (intOf u).toNat);case atStart=>exact⟨at_,ha,rfl,rfl⟩
 case round=>
  obtain⟨i,hi,rfl,hf⟩:=hrel;have H2:=aa hf;clear hf;by_cases hlt:i < s.size
  ·have HD:=aa (cH (eV s i hlt));cases hb:rb s[i]
   ·have Au:s[i]=45\/s[i]≠45:=by by_cases h:s[i]=45 <;> simp[h]
    rw[xH] at hb;simp only[Bool.or_eq_false_iff] at hb;obtain⟨⟨⟨b1,b2⟩,b3⟩,b4⟩:=hb;have HB:=aa (show rb s[i]=false by rw[xH,b1,b2,b3,b4];rfl);rcases Au with Au | Au
    ·have t1:(((s[i].toNat:Nat):Int)==45)=true:=by rw[Au];rfl
     have t2:(((s[i].toNat:Nat):Int) != 45)=false:=by rw[Au];rfl
     have H45:=aa Au;clear Au;by_cases asH:i+1 < s.size
     ·have IC:=aa (cH (eV s (i+1) asH));have n1:=decide_eq_false (show¬((s.size:Int)<=(i:Int)+1) by omega);by_cases h46:s[i+1]=45
      ·have u1:(((s[i+1].toNat:Nat):Int)==45)=true:=by rw[h46];rfl
       have u2:(((s[i+1].toNat:Nat):Int) != 45)=false:=by rw[h46];rfl
       have HC:=aa (show cy false (s.data.toList.drop i)=cy true (s.data.toList.drop i) by
        rw[HD.ae,IC.ae,h46,H45.ae]
        simp[cy,rb])
       clear h46;go_wp2_with fail;go_loop [1] (λ u=>∃k:Nat,i<=k/\k<=s.size/\u=af k/\cy false (s.data.toList.drop i)=cy true (s.data.toList.drop k)) (λ u=>s.size - (intOf u).toNat);case atStart=>exact⟨i,Nat.le_refl _,hi,rfl,HC.ae⟩
       case round=>
        obtain⟨k,BO,hk2,rfl,hf⟩:=hrel;have HF:=aa hf;clear hf;by_cases Ah:k < s.size
        ·have HDK:=aa (cH (eV s k Ah));by_cases h10:s[k]=10
         ·have v1:(((s[k].toNat:Nat):Int)==10)=true:=by rw[h10];rfl
          have v2:(((s[k].toNat:Nat):Int) != 10)=false:=by rw[h10];rfl
          have H10:=aa h10;have hne:i≠k:=by intro e;subst e;have:=H45.ae.symm.trans h10;exact absurd this Tab
          clear h10;go_wp2_with fail;go_round;case rel=>refine⟨k,hk2,rfl,?_⟩;rw[H2.ae];refine BN ?_;rw[HF.ae,HDK.ae,H10.ae];simp[cy,rb]
          case measure=>exact Za1
         ·have v1:(((s[k].toNat:Nat):Int)==10)=false:=by rw[beq_eq_false_iff_ne];intro h;exact h10 (UInt8.toNat_inj.1 (by simpa using(by omega:s[k].toNat=10)))
          have v2:(((s[k].toNat:Nat):Int) != 10)=true:=by simpa [bne] using v1
          have H10:=aa h10;clear h10;go_wp2_with fail;go_round;case rel=>refine⟨k+1,by omega,Ah,by go_num,?_⟩;rw[HF.ae,HDK.ae,cy,if_neg H10.ae]
          case measure=>exact Za1
        ·go_wp2_with fail;go_round;case rel=>refine⟨k,hk2,rfl,?_⟩;rw[H2.ae];refine BN ?_;rw[HF.ae,drop_eq_nil_of_le Tat];simp[cy]
         case measure=>exact Za1
      ·have u1:(((s[i+1].toNat:Nat):Int)==45)=false:=by rw[beq_eq_false_iff_ne];intro h;exact h46 (UInt8.toNat_inj.1 (by simpa using(by omega:s[i+1].toNat=45)))
       have u2:(((s[i+1].toNat:Nat):Int) != 45)=true:=by simpa [bne] using u1
       have H46:=aa h46;clear h46;open ziq in exact Zhp
     ·have n1:=decide_eq_true (show((s.size:Int)<=(i:Int)+1) by omega);open zir in exact Zhp
    ·have t1:(((s[i].toNat:Nat):Int)==45)=false:=by rw[beq_eq_false_iff_ne];intro h;exact Au (UInt8.toNat_inj.1 (by simpa using(by omega:s[i].toNat=45)))
     have t2:(((s[i].toNat:Nat):Int) != 45)=true:=by simpa [bne] using t1
     have H45:=aa Au;clear Au;open zis in exact Zhp
   ·have HB:=aa hb;rw[xH] at hb;cases b1:(((s[i].toNat:Nat):Int)==32)<;> cases b2:(((s[i].toNat:Nat):Int)==9)<;> cases b3:(((s[i].toNat:Nat):Int)==10)<;> cases b4:(((s[i].toNat:Nat):Int)==13);all_goals try (exfalso;rw[b1,b2,b3,b4] at hb;exact absurd hb Tab)
    all_goals
     clear hb;go_wp2_with fail;go_round;case rel=>refine⟨i+1,hlt,by go_num,?_⟩;rw[H2.ae];refine BN ?_;rw[HD.ae,cy,if_pos HB.ae]
     case measure=>simp[intOf];omega
  ·go_wp2_with fail;go_ret;refine⟨mV ?_,rfl⟩;rw[H2.ae,sJ hi];rw[drop_eq_nil_of_le Tat];rfl
theorem Zv:∀(l:List UInt8) (v:Nat),v*10 ^ l.length<=l.foldl (λ v c=>v*10+(c.toNat - 48)) v
 | [],v=>by simp
 | c::l,v=>by
   have:=Zv l (v*10+(c.toNat - 48));simp only[foldl_cons,length_cons,Nat.pow_succ];have h:v*10*10 ^ l.length<=(v*10+(c.toNat - 48))*10 ^ l.length:=Nat.mul_le_mul_right _ WC;have e:v*(10 ^ l.length*10)=v*10*10 ^ l.length:=by rw[Nat.mul_comm (10 ^ l.length),Nat.mul_assoc]
   rw[e];omega
theorem Zw(hd:∀c∈l,bD c=true)(hl:19 < l.length)(h0:l.head?≠some 48):9223372036854775807 < ly l:=by
 match l with
 | []=>simp at hl
 | c::r=>
   have hc:=hd c mem_cons_self;simp[bD,UInt8.le_iff_toNat_le] at hc;have h48:c.toNat≠48:=λ e=>h0 (by rw[show c=48 from UInt8.toNat_inj.1 e];rfl)
   have h1:=Zv r (0*10+(c.toNat - 48));have h2:10 ^ 19<=10 ^ r.length:=Nat.pow_le_pow_right Tab (by simp at hl;omega);have h3:1*10 ^ r.length<=(0*10+(c.toNat - 48))*10 ^ r.length:=Nat.mul_le_mul_right _ WC;show _ < List.foldl _ _ _;rw[foldl_cons];have h4:(10:Nat)^ 19=10000000000000000000:=by decide
   omega
theorem Zx{i:Nat} {c:UInt8}(h:l[i]?=some c):ly (l.take (i+1))=ly (l.take i)*10+(c.toNat - 48):=by rw[take_add_one,h];exact Zo _ _
theorem Pb (l:List UInt8)(i:Nat):ly (l.take i)<=ly l:=by
 conv=>rhs;rw[<- take_append_drop i l]
 unfold ly;rw[foldl_append];exact Zp _ _
theorem Zy{c:UInt8}(h:bD c=true):48<=c.toNat/\c.toNat<=57:=by simpa [bD,UInt8.le_iff_toNat_le] using h
def jQ (q:List UInt8)(w:World)(e:Ending)(w':World):Prop:=(if vU q=true then e=.returned (.tuple #[af (ly q),.bool true])else e=.returned (.tuple #[af 0,.bool false]))/\w=w'
variable{e:Ending}
theorem Pc{q:List UInt8} {w:World} (h:vU q=false)(he:e=.returned (.tuple #[af 0,.bool false])):jQ q w e w:=by unfold jQ;rw[h,if_neg Tab];exact⟨he,rfl⟩
theorem abR{q:List UInt8} {w:World} (h:vU q=true)(he:e=.returned (.tuple #[af (ly q),.bool true])):jQ q w e w:=by unfold jQ;rw[if_pos h];exact⟨he,rfl⟩
theorem yR (s:ByteArray)(w:World)(hd:∀c∈s.data.toList,bD c=true)(h0:0 < s.size)(hs:s.size<=4294967280):ar 177 #[.string s] w (jQ s.data.toList w):=by
 have HLEN:=aa (show s.data.toList.length=s.size by simp);have HDG:=aa hd;have Sj:s.data.toList.head?=some s[0]:=by rw[head?_eq_getElem?];exact eV s 0 h0
 have HH:=aa Sj;clear hd Sj;by_cases hz:1 < s.size/\s[0]=48
 ·have t1:(((s[0].toNat:Nat):Int)==48)=true:=by rw[hz.2];rfl
  have HB:=aa (show vU s.data.toList=false by
   have:¬s.data.toList.length<=1:=by rw[HLEN.ae];omega
   simp only[vU,HH.ae,hz.2,this]
   rfl)
  have hz1:=hz.1;exact Zgk
 ·by_cases alO:19 < s.size
  ·have t1:(((s[0].toNat:Nat):Int)==48)=false:=by rw[beq_eq_false_iff_ne];intro h;exact hz ⟨by omega,UInt8.toNat_inj.1 Tbm⟩
   have HB:=aa (show vU s.data.toList=false by
    have h1:=Zw HDG.ae (by rw[HLEN.ae];exact alO) (by rw[HH.ae];intro e;injection e with e;exact hz ⟨by omega,e⟩)
    have h2:¬ly s.data.toList<=9223372036854775807:=by omega
    simp only[vU,h2]
    simp)
   exact Zgk
  ·have HF:=aa (show(decide (s.data.toList.length<=1)|| !(s.data.toList.head?==some 48))=true by
    rw[HLEN.ae,HH.ae]
    by_cases h1:s.size<=1
    ·simp[h1]
    ·have:s[0]≠48:=λ e=>hz ⟨by omega,e⟩
     simp[h1,this])
   have hz2:¬(1 < s.size)\/(1 < s.size/\(((s[0].toNat:Nat):Int)==48)=false):=by
    by_cases h1:1 < s.size
    ·refine .inr ⟨h1,?_⟩;rw[beq_eq_false_iff_ne];intro h;exact hz ⟨h1,UInt8.toNat_inj.1 Tbm⟩
    ·exact .inl h1
   clear hz
   rcases hz2 with hz2 |⟨hz1,hz2⟩;all_goals
    go_enter Tryz.func177,Tryz.ntmps177;go_wp2_with fail;go_loop [4,5] (λ v u=>∃i:Nat,i<=s.size/\u=af i/\v=af (ly (s.data.toList.take i):Nat)/\ly (s.data.toList.take i)<=9223372036854775807) (λ _ u=>s.size - (intOf u).toNat);case atStart=>exact⟨0,by omega,rfl,rfl,by simp[ly]⟩
    case round=>
     obtain⟨i,hi,rfl,rfl,hv⟩:=hrel;by_cases hlt:i < s.size
     ·have HB:=aa (eV s i hlt);obtain⟨d1,d2⟩:=Zy (HDG.ae s[i] (mem_of_getElem? HB.ae));have HV:=aa (Zx HB.ae);have BP:=aa (Pb s.data.toList (i+1));generalize NJ:ly (s.data.toList.take i)=v at*;have HVV:=aa NJ;clear NJ;by_cases Lk:v*10+(s[i].toNat - 48)<=9223372036854775807
      ·have n1:=decide_eq_false (show¬((9223372036854775807 - ((s[i].toNat:Int) - 48))/ 10 <(v:Int)) by omega);go_wp2_with fail;go_round;case rel=>
        refine⟨i+1,hlt,by go_num,?_,by rw[HV.ae];exact Lk⟩;rw[HV.ae];have:((v*10+(s[i].toNat - 48):Nat):Int)=(v:Int)*10+((s[i].toNat:Int) - 48):=by omega
        rw[this]
       case measure=>simp[intOf];omega
      ·have n1:=decide_eq_true (show((9223372036854775807 - ((s[i].toNat:Int) - 48))/ 10 <(v:Int)) by omega);go_wp2_with fail;go_ret2;refine Pc ?_ rfl;have h1:=BP.ae;rw[HV.ae] at h1;have h2:¬ly s.data.toList<=9223372036854775807:=by omega
       simp only[vU,h2];simp
     ·go_wp2_with fail;go_ret2;have e1:s.data.toList.take i=s.data.toList:=take_of_length_le Tat;rw[e1] at hv ⊢;exact abR (by rw[vU,HF.ae];simpa using hv) rfl
def zM (s:ByteArray)(at_:Nat)(w:World)(r:Except Nat (Wd×List UInt8))(e:Ending)(w':World):Prop:=
 match r with
 | .ok (d,rest)=>e=.returned (.tuple #[.agg #[ag d.k,.string ⟨d.s.toArray⟩,af d.n,af at_],af (s.size - rest.length:Nat),af 0])/\aj w w'
 | .error x=>e=.returned (.tuple #[.agg #[ag 0,au,af 0,af 0],af 0,af x])/\aj w w'
theorem vZ{w:World}(h:Below B w w') (hq:B<=q)(a b c d:Value):Below B w ((((w'.setCell ⟨q,0,none⟩ a).setCell ⟨q,1,none⟩ b).setCell ⟨q,2,none⟩ c).setCell ⟨q,3,none⟩ d):=
 (((h.setCell (p:=⟨q,0,none⟩) hq a).setCell (p:=⟨q,1,none⟩) hq b).setCell (p:=⟨q,2,none⟩) hq c).setCell (p:=⟨q,3,none⟩) hq d
theorem Zz (s:ByteArray)(at_:Nat)(w:World)(ha:at_ < s.size)(hdg:fJ s[at_]=true)(hs:s.size<=4294967280):
  ar 132 #[.string s,af at_] w (zM s at_ w (ia (s.data.toList.drop at_))):=by
 have hd:=cH (eV s at_ ha);have hc:ia (s.data.toList.drop at_)=if ib eP s.data.toList at_ - at_<=32 then .ok (⟨1,((s.data.toList.drop at_).takeWhile eP).map vT,0⟩,(s.data.toList.drop at_).dropWhile eP)else .error 2:=by rw[abO,hd];simp only[ia,if_pos hdg]
 generalize ia (s.data.toList.drop at_)=R at*;have Y8:=aa hc;have HL0:=aa hdg;have HLEN:=aa (show s.data.toList.length=s.size by simp);clear hc hd hdg;go_enter Tryz.func132,Tryz.ntmps132;go_wp2_with (go_at_call 174;refine(ei s[at_] _).mono ?_;rintro e w' ⟨rfl,rfl⟩;rw[HL0.ae]);have HZ:=aa (aB.new w 172 #[ag 0,au,af 0,af 0]);have bb:=ah w (.cells #[ag 0,au,af 0,af 0] 172);have hsz:(w.alloc (.cells #[ag 0,au,af 0,af 0] 172)).heap.size=w.heap.size+1:=by simp
 generalize w.alloc (.cells #[ag 0,au,af 0,af 0] 172)=W at*;have HSZ:=aa hsz;clear hsz;go_loop [8] (λ u=>∃k:Nat,at_<=k/\k<=s.size/\u=af k/\ib eP s.data.toList at_=ib eP s.data.toList k) (λ u=>s.size - (intOf u).toNat);case atStart=>exact⟨at_,Nat.le_refl _,by omega,rfl,rfl⟩
 case round=>
  obtain⟨k,BO,hk2,rfl,hf⟩:=hrel;have HF:=aa hf;clear hf;by_cases Ah:k < s.size
  ·have HB:=aa (eV s k Ah);cases hl:fJ s[k]
   ·have HL:=aa hl;cases hd:bD s[k]
    ·have HD:=aa hd;have mL:=aa (show ib eP s.data.toList at_=k by rw[HF.ae];exact Sc HB.ae (by simp[eP,hl,hd]));clear hl hd;by_cases h32:k - at_<=32
     ·have n1:=decide_eq_false (show¬(32:Int)<(k:Int) - at_ by omega);go_wp2_with (first
       |(go_at_call 174;refine(ei s[k] _).mono ?_;rintro e w' ⟨rfl,rfl⟩;rw[HL.ae])
       |(go_at_call 175;refine(eK s[k] _).mono ?_;rintro e w' ⟨rfl,rfl⟩;rw[HD.ae]))
      exact Za6
     ·have n1:=decide_eq_true (show(32:Int)<(k:Int) - at_ by omega);obtain⟨z0,z1,z2,z3,y0,y1,y2,y3⟩:=bP HZ.ae;go_wp2_with (first
       |(go_at_call 174;refine(ei s[k] _).mono ?_;rintro e w' ⟨rfl,rfl⟩;rw[HL.ae])
       |(go_at_call 175;refine(eK s[k] _).mono ?_;rintro e w' ⟨rfl,rfl⟩;rw[HD.ae]))
      exact ZeZ
    ·have HD:=aa hd;have mL:=aa (show ib eP s.data.toList at_=ib eP s.data.toList (k+1) by rw[HF.ae];exact BK HB.ae (by simp[eP,hl,hd]));clear hl hd;go_wp2_with (first
      |(go_at_call 174;refine(ei s[k] _).mono ?_;rintro e w' ⟨rfl,rfl⟩;rw[HL.ae])
      |(go_at_call 175;refine(eK s[k] _).mono ?_;rintro e w' ⟨rfl,rfl⟩;rw[HD.ae]))
     exact ZdX
   ·have HL:=aa hl;have mL:=aa (show ib eP s.data.toList at_=ib eP s.data.toList (k+1) by rw[HF.ae];exact BK HB.ae (by simp[eP,hl]));clear hl;go_wp2_with (go_at_call 174;refine(ei s[k] _).mono ?_;rintro e w' ⟨rfl,rfl⟩;rw[HL.ae]);exact ZdX
  ·have mL:=aa (show ib eP s.data.toList at_=k by rw[HF.ae];exact Lf Tat);by_cases h32:k - at_<=32
   ·have n1:=decide_eq_false (show¬(32:Int)<(k:Int) - at_ by omega);go_wp2_with fail;exact Za6
   ·have n1:=decide_eq_true (show(32:Int)<(k:Int) - at_ by omega);obtain⟨z0,z1,z2,z3,y0,y1,y2,y3⟩:=bP HZ.ae;go_wp2_with fail;exact ZeZ
theorem zgp.KbA(h:p:=by rw[if_neg Tab] at he;subst he;exact ZcI):p:=h
theorem zgq.KbA(h:p:=by rw[if_pos rfl] at he;subst he;go_wp2_with (go_at_call 174;refine(ei s[k] _).mono ?_;rintro e w' ⟨rfl,rfl⟩;rw[ZA.ae]);exact Zdd):p:=h
theorem zgr.KbA(h:p:=by
 rw[if_pos rfl] at he;subst he;go_wp2_with (go_at_call 174;refine(ei s[k] _).mono ?_;rintro e w' ⟨rfl,rfl⟩;rw[ZA.ae]);refine bodyPost_ret (v:=.tuple #[.agg #[ag 0,au,af 0,af 0],af 0,af 30]) ZbI rfl ?_
 ·rw[HR.ae];exact Zb2):p:=h
theorem zew.KaS(h:p:=by
 cases Sm:vU ((s.data.toList.drop at_).takeWhile bD)
 ·have pU:=aa Sm;clear Sm;open zgp in exact Zel
 ·have pU:=aa Sm;clear Sm;cases xJ:fJ s[k]
  ·have ZA:=aa xJ;have HR:=aa (show R=.ok (⟨2,[],ly ((s.data.toList.drop at_).takeWhile bD)⟩,(s.data.toList.drop at_).dropWhile bD) by
    rw[rz.ae,pU.ae,Sk.ae,cH HB.ae]
    simp[xJ])
   clear xJ;open zgq in exact Zel
  ·have ZA:=aa xJ;have HR:=aa (show R=.error 30 by
    rw[rz.ae,pU.ae,Sk.ae,cH HB.ae]
    simp[xJ])
   clear xJ;open zgr in exact Zel):p:=h
theorem zex.KaS(h:p:=by
 cases Sm:vU ((s.data.toList.drop at_).takeWhile bD)
 ·have pU:=aa Sm;clear Sm;go_wp2_with fail;refine HN.ae.mono ?_;unfold jQ;rw[HE.ae,pU.ae];rintro e w1 ⟨he,rfl⟩;rw[if_neg Tab] at he;subst he;exact ZcI
 ·have pU:=aa Sm;clear Sm;have HR:=aa (show R=.ok (⟨2,[],ly ((s.data.toList.drop at_).takeWhile bD)⟩,(s.data.toList.drop at_).dropWhile bD) by
   rw[rz.ae,pU.ae,Sk.ae,drop_eq_nil_of_le Tat]
   rfl)
  go_wp2_with fail;refine HN.ae.mono ?_;unfold jQ;rw[HE.ae,pU.ae];rintro e w1 ⟨he,rfl⟩;rw[if_pos rfl] at he;subst he;go_wp2_with fail;exact Zdd):p:=h
theorem one_num (s:ByteArray)(at_:Nat)(w:World)(ha:at_ < s.size)(hdg:fJ s[at_]=false)(hc:bD s[at_]=true)(hs:s.size<=4294967280):
  ar 132 #[.string s,af at_] w (zM s at_ w (ia (s.data.toList.drop at_))):=by
 have hd:=cH (eV s at_ ha);have mB:ia (s.data.toList.drop at_)=if vU ((s.data.toList.drop at_).takeWhile bD)&& !(((s.data.toList.drop at_).dropWhile bD).head?.any fJ)then .ok (⟨2,[],ly ((s.data.toList.drop at_).takeWhile bD)⟩,(s.data.toList.drop at_).dropWhile bD)else .error 30:=by rw[hd];simp only[ia,hdg,if_pos hc];rfl
 have hq:0 <((s.data.toList.drop at_).takeWhile bD).length:=by rw[hd,takeWhile_cons,if_pos hc];simp
 generalize ia (s.data.toList.drop at_)=R at*;have rz:=aa mB;have alQ:=aa hq;have Y8:=aa hc;have HL0:=aa hdg;have HLEN:=aa (show s.data.toList.length=s.size by simp);clear mB hd hc hdg hq;go_enter Tryz.func132,Tryz.ntmps132;go_wp2_with (first
  |(go_at_call 174;refine(ei s[at_] _).mono ?_;rintro e w' ⟨rfl,rfl⟩;rw[HL0.ae])
  |(go_at_call 175;refine(eK s[at_] _).mono ?_;rintro e w' ⟨rfl,rfl⟩;rw[Y8.ae]))
 have HZ:=aa (aB.new w 172 #[ag 0,au,af 0,af 0]);have bb:=ah w (.cells #[ag 0,au,af 0,af 0] 172);generalize w.alloc (.cells #[ag 0,au,af 0,af 0] 172)=W at*;go_loop [8] (λ u=>∃k:Nat,at_<=k/\k<=s.size/\u=af k/\ib bD s.data.toList at_=ib bD s.data.toList k) (λ u=>s.size - (intOf u).toNat);case atStart=>exact⟨at_,Nat.le_refl _,by omega,rfl,rfl⟩
 case round=>
  obtain⟨k,BO,hk2,rfl,hf⟩:=hrel;have HF:=aa hf;clear hf;by_cases Ah:k < s.size
  ·have HB:=aa (eV s k Ah);cases hd:bD s[k]
   ·have HD:=aa hd;have mL:=aa (show ib bD s.data.toList at_=k by rw[HF.ae];exact Sc HB.ae hd);clear hd;open zew in exact Zcj
   ·have HD:=aa hd;have mL:=aa (show ib bD s.data.toList at_=ib bD s.data.toList (k+1) by rw[HF.ae];exact BK HB.ae hd);clear hd;go_wp2_with (go_at_call 175;refine(eK s[k] _).mono ?_;rintro e w' ⟨rfl,rfl⟩;rw[HD.ae]);exact ZdX
  ·have mL:=aa (show ib bD s.data.toList at_=k by rw[HF.ae];exact Lf Tat);open zex in exact Zcj
theorem yS (s:ByteArray)(k:Nat)(hk:k < s.size):s.extract k (k+1)=⟨#[s[k]]⟩:=by
 have h:=pk s k (k+1)
 have h2:(s.data.toList.take (k+1)).drop k=[s[k]]:=by
  rw[drop_take,cH (eV s k hk)];have:k+1 - k=1:=by omega
  rw[this];rfl
 rw[h2] at h;apply Go.WideShapes.bytes_inj;rw[h]
theorem lz (s:ByteArray)(a b:Nat)(x y:Int)(hx:x=a)(hy:y=b)(hab:a<=b)(hb:b<=s.size)(w:World):
  (Instr.slice 9 (.string s) (some (af x)) (some (af y)) none).run Tryz.prog w=.ok (.string (s.extract a b)) w:=by subst hx hy;have:=run_slice_string (P:=Tryz.prog) (w:=w) 9 s .i64 .i64 a b Tryz.underlying9 WC WC WC;exact Ze5
theorem zf8.Kbv(h:p:=by
 have HZ:=aa (aB.new w 172 #[ag 0,au,af 0,af 0]);have bb:=ah w (.cells #[ag 0,au,af 0,af 0] 172);generalize w.alloc (.cells #[ag 0,au,af 0,af 0] 172)=W at*;obtain⟨z0,z1,z2,z3,y0,y1,y2,y3⟩:=bP HZ.ae;clear t0;go_loop [8,11] (λ u x=>∃(k:Nat) (acc:List UInt8),k<=s.size/\acc.length<=k/\u=af k/\x=.string ⟨acc.toArray⟩/\more [] (fK (s.data.toList.drop (at_+1)))=more acc (fK (s.data.toList.drop k))) (λ u _=>s.size - (intOf u).toNat);case atStart=>exact⟨at_+1,[],ha,by simp,by go_num,rfl,rfl⟩
 case round=>
  obtain⟨k,acc,hk,abS,rfl,rfl,hf⟩:=hrel;have HF:=aa hf;clear hf;by_cases Ah:k < s.size
  ·have HB:=aa (eV s k Ah);by_cases hq:s[k]=39
   ·have HQ:=aa hq;have t1:(((s[k].toNat:Nat):Int)==39)=true:=by rw[hq];rfl
    clear hq;by_cases BO:k+1 < s.size
    ·have eL:=aa (eV s (k+1) BO);have n2:=decide_eq_false (show¬((s.size:Int)<=(k:Int)+1) by omega);by_cases JK:s[k+1]=39
     ·have UH:=aa JK;have t2:(((s[k+1].toNat:Nat):Int)==39)=true:=by rw[JK];rfl
      have t3:(((s[k+1].toNat:Nat):Int) != 39)=false:=by rw[JK];rfl
      have hx:=yS s (k+1) BO;have Av:=lz s (k+1) (k+1+1) ((k:Int)+1) ((k:Int)+1+1) WC WC WC WC W;rw[hx,JK] at Av;clear JK hx;go_wp2_with fail;go_round;case rel=>refine⟨k+2,acc++ [39],by omega,by simp;omega,by go_num,by rw[mg],?_⟩;rw[HF.ae,cH HB.ae,cH eL.ae,HQ.ae,UH.ae,Zr]
      case measure=>exact Za1
     ·have t2:(((s[k+1].toNat:Nat):Int)==39)=false:=by rw[beq_eq_false_iff_ne];intro h;exact JK (UInt8.toNat_inj.1 (by simpa using(by omega:s[k+1].toNat=39)))
      have t3:(((s[k+1].toNat:Nat):Int) != 39)=true:=by simpa [bne] using t2
      have aha:=aa (show(s.data.toList.drop (k+1)).head?≠some 39 by rw[cH eL.ae];simpa using JK);clear JK;exact Zcq
    ·have n2:=decide_eq_true (show((s.size:Int)<=(k:Int)+1) by omega);have aha:=aa (show(s.data.toList.drop (k+1)).head?≠some 39 by rw[drop_eq_nil_of_le Tat];simp);exact Zcq
   ·have HQ:=aa hq;have t1:(((s[k].toNat:Nat):Int)==39)=false:=by rw[beq_eq_false_iff_ne];intro h;exact hq (UInt8.toNat_inj.1 (by simpa using(by omega:s[k].toNat=39)))
    have Av:=lz s k (k+1) (k:Int) ((k:Int)+1) rfl WC WC WC W;rw[yS s k Ah] at Av;clear hq;go_wp2_with fail;go_round;case rel=>refine⟨k+1,acc++ [s[k]],by omega,by simp;omega,by go_num,by rw[mg],?_⟩;rw[HF.ae,cH HB.ae,Pa HQ.ae]
    case measure=>exact Za1
  ·have ZC:=aa (show s.data.toList.drop k=[] by rw[drop_eq_nil_of_le Tat]);go_wp2_with fail;refine bodyPost_ret (v:=.tuple #[.agg #[ag 0,au,af 0,af 0],af 0,af 30]) ZbI rfl ?_
   ·rw[rz.ae,HF.ae,ZC.ae];exact Zb2):p:=h
theorem ZB (s:ByteArray)(at_:Nat)(w:World)(ha:at_ < s.size)(hc:fJ s[at_]=false)(hdg:bD s[at_]=false)(hq:s[at_]=39)(hs:s.size<=4294967280):
  ar 132 #[.string s,af at_] w (zM s at_ w (ia (s.data.toList.drop at_))):=by
 have hd:=cH (eV s at_ ha)
 have mB:ia (s.data.toList.drop at_)=match more [] (fK (s.data.toList.drop (at_+1)))with
   | some (t,rest)=> .ok (⟨3,t,0⟩,rest)
   | none=> .error 30:=by
  rw[Zq,hd];simp only[ia,hc,hdg,if_pos hq];rfl
 generalize ia (s.data.toList.drop at_)=R at*;have t0:(((s[at_].toNat:Nat):Int)==39)=true:=by rw[hq];rfl
 open zf8 in exact Zd9
theorem UI{s:ByteArray} {a:Nat} (hb:a+x.length<=s.size):((s.extract a (a+x.length)).toList==x)=x.isPrefixOf (s.data.toList.drop a):=by
 rw[ByteArray.toList_eq,pk,drop_take,Nat.add_sub_cancel_left];rw[Bool.eq_iff_iff,beq_iff_eq,isPrefixOf_iff_prefix];constructor
 ·intro h;refine⟨(s.data.toList.drop a).drop x.length,?_⟩;have:=take_append_drop x.length (s.data.toList.drop a);rwa [h] at this
 ·rintro⟨r,h⟩;rw[<- h];simp
theorem UJ{s:ByteArray} {a:Nat} (hb:¬a+x.length<=s.size)(ha:a<=s.size):x.isPrefixOf (s.data.toList.drop a)=false:=by rw[Bool.eq_false_iff];intro h;rw[isPrefixOf_iff_prefix] at h;have:=h.length_le;rw[length_drop] at this;simp at this;omega
theorem zf9.Kbv(h:p:=by
 have HZ:=aa ((aB.new w 172 #[ag 0,au,af 0,af 0]).alloc (.cells (signs.map λ l=>Value.string ⟨l.toArray⟩).toArray 9));have hG:aB ((w.alloc (.cells #[ag 0,au,af 0,af 0] 172)).alloc (.cells (signs.map λ l=>Value.string ⟨l.toArray⟩).toArray 9)) (w.heap.size+1) 9 (signs.map λ l=>Value.string ⟨l.toArray⟩).toArray:=by have:=aB.new (w.alloc (.cells #[ag 0,au,af 0,af 0] 172)) 9 (signs.map λ l=>Value.string ⟨l.toArray⟩).toArray;simpa using this
 have Kx:aj w ((w.alloc (.cells #[ag 0,au,af 0,af 0] 172)).alloc (.cells (signs.map λ l=>Value.string ⟨l.toArray⟩).toArray 9)):=((Below.refl _ _).alloc (Nat.le_refl _) _).alloc Tad _;have HG:=aa hG;clear hG t0;simp only[signs,map_cons,map_nil] at HZ HG Kx;generalize (w.alloc (.cells #[ag 0,au,af 0,af 0] 172)).alloc _=W at*;go_loopw [13] (λ u wr=>∃i n:Nat,i<=15/\u=af i/\wr=W.drewN n/\kP signs (s.data.toList.drop at_)=kP (signs.drop i) (s.data.toList.drop at_)) (λ u _=>15 - (intOf u).toNat);case atStart=>exact⟨0,0,by omega,rfl,rfl,rfl⟩
 case round=>
  obtain⟨i,n,hi,rfl,rfl,hsg⟩:=hrel;have pU:=aa hsg;clear hsg;have HZn:=aa (HZ.ae.drewN n);have bb:=Kx.trans ((mU W n).mono Kx.size);by_cases alT:i < 15
  ·obtain⟨x,hx,hdx,hx1,hx2⟩:=abP alT
   have hcell:(W.drewN n).cell? ⟨w.heap.size+1,i,none⟩=some (.string ⟨x.toArray⟩):=by
    rw[(HG.ae.drewN n).cell i];have:(signs.map λ l=>Value.string ⟨l.toArray⟩).toArray[i]?=some (.string ⟨x.toArray⟩):=by simp[hx]
    exact this
   generalize hWn:W.drewN n=Wn at*;have HWN:=aa hWn;have Z6:=aa hdx;clear hWn hx hdx;by_cases hto:at_+x.length<=s.size
   ·have n1:=decide_eq_true (show((at_:Int)+(x.length:Int))<=(s.size:Int) by omega);have HT:=aa (UI hto);cases hp:x.isPrefixOf (s.data.toList.drop at_)
    ·have HP:=aa hp;have t1:((s.extract at_ (at_+x.length)).toList==x)=false:=HT.ae.trans hp;have Av:=λ W':World=>lz s at_ (at_+x.length) (at_:Int) ((at_:Int)+(x.length:Int)) rfl WC WC hto W'
     clear hp;exact Zdg
    ·have HP:=aa hp;have t1:((s.extract at_ (at_+x.length)).toList==x)=true:=HT.ae.trans hp;have Av:=λ W':World=>lz s at_ (at_+x.length) (at_:Int) ((at_:Int)+(x.length:Int)) rfl WC WC hto W'
     clear hp;go_wp2_with fail;go_quiet (fail);obtain⟨z0,z1,z2,z3,y0,y1,y2,y3⟩:=bP (HZn.ae.drewN nq);have bq:=bb.trans ((mU Wn nq).mono bb.size);have Zd:(Wn.drewN nq).cell? ⟨w.heap.size+1,i,none⟩=some (.string ⟨x.toArray⟩):=hcell;generalize Wn.drewN nq=Wq at*;clear hcell;go_wp2_with fail;refine bodyPost_ret (v:=.tuple #[.agg #[ag 4,.string ⟨x.toArray⟩,af 0,af at_],af ((at_:Int)+(x.length:Int)),af 0]) ZbI rfl ?_
     ·have e1:kP signs (s.data.toList.drop at_)=some x:=by rw[pU.ae,Z6.ae,kP,if_pos HP.ae]
      rw[rz.ae,e1];unfold zM;simp only;have e2:s.size - ((s.data.toList.drop at_).drop x.length).length=at_+x.length:=by rw[drop_drop,length_drop,HLEN.ae];omega
      rw[e2];exact⟨rfl,vZ bq (Nat.le_refl _) _ _ _ _⟩
   ·have n1:=decide_eq_false (show¬((at_:Int)+(x.length:Int))<=(s.size:Int) by omega);have HP:=aa (UJ hto WC);exact Zdg
  ·obtain rfl:i=15:=by omega
   obtain⟨z0,z1,z2,z3,y0,y1,y2,y3⟩:=bP HZn.ae;generalize W.drewN n=Wn at*;exact ZcI):p:=h
theorem ZE (s:ByteArray)(at_:Nat)(w:World)(ha:at_ < s.size)(hc:fJ s[at_]=false)(hdg:bD s[at_]=false)(hq:s[at_]≠39)(hs:s.size<=4294967280):
  ar 132 #[.string s,af at_] w (zM s at_ w (ia (s.data.toList.drop at_))):=by
 have hd:=cH (eV s at_ ha)
 have mB:ia (s.data.toList.drop at_)=match kP signs (s.data.toList.drop at_)with
   | some x=> .ok (⟨4,x,0⟩,(s.data.toList.drop at_).drop x.length)
   | none=> .error 30:=by
  rw[hd];simp only[ia,hc,hdg,if_neg hq];rfl
 generalize ia (s.data.toList.drop at_)=R at*;have t0:(((s[at_].toNat:Nat):Int)==39)=false:=by rw[beq_eq_false_iff_ne];intro h;exact hq (UInt8.toNat_inj.1 (by simpa using(by omega:s[at_].toNat=39)))
 open zf9 in exact Zd9
theorem abT (s:ByteArray)(at_:Nat)(w:World)(ha:at_ < s.size)(hs:s.size<=4294967280):
  ar 132 #[.string s,af at_] w (zM s at_ w (ia (s.data.toList.drop at_))):=by
 cases hl:fJ s[at_]
 ·cases hd:bD s[at_]
  ·by_cases hq:s[at_]=39
   ·exact ZB s at_ w ha hl hd hq hs
   ·exact ZE s at_ w ha hl hd hq hs
  ·exact one_num s at_ w ha hl hd hs
 ·exact Zz s at_ w ha hl hs
def LX (n:Nat)(r:List UInt8):Except (Nat×Nat) (List rp):=xC n (n+1) r
def pre (acc:List rp):Except (Nat×Nat) (List rp)->Except (Nat×Nat) (List rp)
 | .error e=> .error e
 | .ok l=> .ok (acc++l)
def ZF (n:Nat):rp:=⟨⟨0,[],0⟩,n⟩
theorem xK (b:Bool)(r:List UInt8):cy false (cy b r)=cy b r:=by
 induction r generalizing b with
 | nil=>cases b <;> rfl
 | cons d r ih=>
   cases b with
   | true=>
     simp only[cy];split
     ·exact ih false
     ·exact ih true
   | false=>
     by_cases h1:rb d=true
     ·simp only[cy,if_pos h1];exact ih false
     ·by_cases h2:d=45/\r.head?=some 45
      ·simp only[cy,if_neg h1,if_pos h2];exact ih true
      ·have:cy false (d::r)=d::r:=by simp only[cy,if_neg h1,if_neg h2]
       rw[this,this]
theorem Sn (n:Nat)(r:List UInt8):LX n (cy false r)=LX n r:=by unfold LX;simp only[xC];have:=xK false r;rw[this]
theorem ahc{n:Nat} (h:cy false r=[]):LX n r=.ok [ZF n]:=by unfold LX;simp only[xC,h];rfl
variable{r':List UInt8}
theorem ahd{n:Nat}  {c:UInt8} {e:Nat}(h:cy false r=c::r')(ho:ia (c::r')=.error e):LX n r=.error (n - (c::r').length,e):=by unfold LX;simp only[xC,h,ho]
theorem alU{n:Nat}  {c:UInt8} {w:Wd}(hr:r.length<=n)(h:cy false r=c::r')(ho:ia (c::r')=.ok (w,rest)):LX n r=pre [⟨w,n - (c::r').length⟩] (LX n rest):=by
 have h1:=Ao ho;have h2:=kj false r;rw[h] at h2;unfold LX;conv=>lhs;unfold xC
 simp only[h,ho];rw[FD n n (n+1) rest WC WC];cases xC n (n+1) rest <;> rfl
theorem abU (a b:List rp)(x:Except (Nat×Nat) (List rp)):pre a (pre b x)=pre (a++b) x:=by cases x <;> simp[pre]
theorem abV (x:Except (Nat×Nat) (List rp)):pre [] x=x:=by cases x <;> rfl
theorem ZG{x:Nat}(h:ia r=.error x):x=2\/x=30:=by
 cases r with
 | nil=>simp[ia] at h;exact .inr h.symm
 | cons c r=>
   simp only[ia] at h;split at h
   ·split at h
    ·cases h
    ·injection h with h;exact .inl h.symm
   ·split at h
    ·exact Zfu
    ·split at h
     ·exact Zfu
     ·exact Zfu
theorem Ll{w:Wd}(h:ia r=.ok (w,rest)):rest <:+ r:=by obtain⟨b,hb,_⟩:=BG h;exact⟨b,hb.symm⟩
def rB (t:rp):List Value:=[ag t.w.k,.string ⟨t.w.s.toArray⟩,af t.w.n,af t.p]
theorem Lm:(Tryz.prog.info? 172).map (λ i=>(i.zero,i.size,i.bytes))=some (some (.agg #[ag 0,au,af 0,af 0]),4,40):=by exact Zgx
def Ln (w:World)(base:Nat)(v:Value)(l:List rp):Prop:=aI rB 172 4 w base v l
def wh (s:ByteArray)(w:World)(e:Ending)(w':World):Prop:=
 match zK s.data.toList with
 | .error (p,x)=>e=.returned (.tuple #[az,af p,af x])/\aj w w'
 | .ok l=>∃v,e=.returned (.tuple #[v,af 0,af 0])/\Ln w' w.heap.size v l/\aj w w'
theorem ZH{s:ByteArray}(h:4096 < s.size):zK s.data.toList=.error (0,2):=by unfold zK;rw[if_pos Tal]
theorem abW{s:ByteArray}(h:¬4096 < s.size):zK s.data.toList=LX s.size s.data.toList:=by
 unfold zK LX;have:s.data.toList.length=s.size:=by simp
 rw[this,if_neg h]
structure ZI (s:ByteArray) (w:World) (a:Nat) (v:Value) (acc:List rp) (wr:World):Prop where
 bel:aj w wr
 own:Ln wr w.heap.size v acc
 le:a<=s.size
 len:acc.length<=a
 skip:cy false (s.data.toList.drop a)=s.data.toList.drop a
 more:LX s.size s.data.toList=pre acc (LX s.size (s.data.toList.drop a))
theorem ZJ (s:ByteArray)(w:World)(hs:s.size<=4294967280):ar 85 #[.string s] w (wh s w):=by
 by_cases alV:4096 < s.size
 ·unfold wh;rw[ZH alV];go_enter Tryz.func85,Tryz.ntmps85;go_wp2_with fail;go_ret3;exact⟨rfl,Below.refl _ _⟩
 ·have HPO:=aa (abW alV);have HLEN:=aa (show s.data.toList.length=s.size by simp);go_enter Tryz.func85,Tryz.ntmps85;go_wp2_with fail;refine(FJ s 0 _ (Nat.zero_le _) hs).mono ?_;rintro e w1 ⟨rfl,rfl⟩
  have hA:ZI s w (fF s 0) (az) [] w:=by
   refine⟨Below.refl _ _,aI.nil,xI _ _,Nat.zero_le _,?_,?_⟩
   ·rw[mW];exact xK _ _
   ·rw[mW,Sn,abV];rfl
  generalize fF s 0=a0 at*;have HA:=aa hA;clear hA;go_wp2_with fail;go_loopw [5,6] (λ x y wr=>∃(a:Nat) (acc:List rp) (u:Value),x=u/\y=af a/\ZI s w a u acc wr) (λ _ y _=>s.size - (intOf y).toNat);case atStart=>exact⟨a0,[],_,rfl,rfl,HA.ae⟩
  case round=>
   obtain⟨a,acc,u,hu,rfl,hA⟩:=hrel;have hu2:=hu.symm;clear hu;subst hu2;have ahe:=hA.bel.size;have abS:=hA.len;have hae:=hA.le;have Z7:=aa hA;clear hA;by_cases ha:a < s.size
   ·go_wp2_with fail;refine(abT s a _ ha hs).mono ?_;intro e w2 hp;have HB:=aa (eV s a ha);rcases hres:ia (s.data.toList.drop a)with x |⟨d,rest⟩
    ·rw[hres] at hp;obtain⟨rfl,hb⟩:=hp;have hx:=ZG hres;have jH:=aa hres;have n1:((x:Int)==0)=false:=by rcases hx with rfl | rfl <;> rfl
     have n2:((x:Int) != 0)=true:=by rcases hx with rfl | rfl <;> rfl
     have n3:¬((x:Int)=0):=by omega
     clear hres;go_wp2_with fail;go_ret3;unfold wh;rw[HPO.ae,Z7.ae.more,ahd (by rw[Z7.ae.skip];exact cH HB.ae) (by rw[<- cH HB.ae];exact jH.ae)];have e1:s.size - (s[a]::s.data.toList.drop (a+1)).length=a:=by rw[<- cH HB.ae,length_drop,HLEN.ae];omega
     rw[e1];exact⟨rfl,Z7.ae.bel.trans ((hb.mono ahe).trans ((ah w2 _).mono (by have:=hb.size;omega)))⟩
    ·rw[hres] at hp;obtain⟨rfl,hb⟩:=hp;have jH:=aa hres;clear hres;have bW:=((Below.refl w2.heap.size w2).alloc (Nat.le_refl _) (.cells (rB ⟨d,a⟩).toArray 172)).alloc Tad (.cells (rB ⟨d,a⟩).toArray 172);have hown:Ln w2 w.heap.size u acc:=Z7.ae.own.later hb;have HO:=aa (hown.later bW);have hG:aB ((w2.alloc (.cells (rB ⟨d,a⟩).toArray 172)).alloc (.cells (rB ⟨d,a⟩).toArray 172)) (w2.heap.size+1) 172 (rB ⟨d,a⟩).toArray:=by have:=aB.new (w2.alloc (.cells (rB ⟨d,a⟩).toArray 172)) 172 (rB ⟨d,a⟩).toArray;simpa using this
     have HG:=aa hG;have alW:aj w ((w2.alloc (.cells (rB ⟨d,a⟩).toArray 172)).alloc (.cells (rB ⟨d,a⟩).toArray 172)):=Z7.ae.bel.trans ((hb.mono ahe).trans (bW.mono (by have:=hb.size;omega)));have BQ:=aa alW;clear hown hG alW bW hb;have Sp:rest <:+ s.data.toList:=(Ll jH.ae).trans (List.drop_suffix _ _);have hq:s.data.toList.drop (s.size - rest.length)=rest:=by have:=drop_suffix Sp;rwa [HLEN.ae] at this
     have azU:rest.length < s.size - a:=by have:=Ao jH.ae;rwa [length_drop,HLEN.ae] at this
     have HQ:=aa hq;have azV:s.size - rest.length<=fF s (s.size - rest.length):=by unfold fF;rw[HQ.ae];have:=kj false rest;omega
     clear hq Sp;unfold rB at HG HO BQ;go_wp2_with (first
      |(at_builtin
        refine aU rfl (.tmp 30) (.tmp 32) 164 rfl _ 40 Tryz.underlying164 Lm rfl WC ⟨d,a⟩ rfl (by simp[rB,Value.oneCell']) rfl HO.ae (w2.heap.size+1) rfl HG.ae WC WC BQ.ae.size ?_
        intro v2 w3 o2 g2
        have b2:=br HO.ae g2 BQ.ae.size
        have O2:=aa o2
        have B2:=aa (BQ.ae.trans b2)
        clear o2 g2 HO HG b2 BQ))
     refine(FJ s (s.size - rest.length) _ (Nat.sub_le _ _) hs).mono ?_;rintro e w4 ⟨rfl,rfl⟩;go_wp2_with fail;go_roundw
     case rel=>
      refine⟨fF s (s.size - rest.length),acc++ [rp.mk d a],v2,rfl,rfl,B2.ae,O2.ae,xI _ _,?_,?_,?_⟩
      ·rw[length_append,length_singleton];omega
      ·rw[mW];exact xK _ _
      ·have e1:s.size - (s[a]::s.data.toList.drop (a+1)).length=a:=by rw[<- cH HB.ae,length_drop,HLEN.ae];omega
       rw[Z7.ae.more,alU (by rw[length_drop,HLEN.ae];omega) (by rw[Z7.ae.skip];exact cH HB.ae) (by rw[<- cH HB.ae];exact jH.ae),e1,abU,mW,Sn,HQ.ae]
     case measure=>have:=xI s (s.size - rest.length);exact Za1
   ·have hnil:s.data.toList.drop a=[]:=drop_eq_nil_of_le Tat;have ZC:=aa hnil;clear hnil;have bW:=(Below.refl wr.heap.size wr).alloc (Nat.le_refl _) (.cells (rB (ZF s.size)).toArray 172);have HO:=aa (Z7.ae.own.later bW);have HG:=aa (aB.new wr 172 (rB (ZF s.size)).toArray);have BQ:=aa (Z7.ae.bel.trans (bW.mono ahe));clear bW;unfold rB ZF at HG HO BQ;go_wp2_with (first
     |(at_builtin
       refine aU rfl (.tmp 37) (.tmp 41) 164 rfl _ 40 Tryz.underlying164 Lm rfl WC (ZF s.size) rfl (by simp[rB,Value.oneCell']) rfl HO.ae wr.heap.size rfl HG.ae WC WC BQ.ae.size ?_
       intro v2 w3 o2 g2
       have b2:=br HO.ae g2 BQ.ae.size
       have O2:=aa o2
       have B2:=aa (BQ.ae.trans b2)
       clear o2 g2 HO HG b2 BQ))
    go_ret3;unfold wh;rw[HPO.ae,Z7.ae.more,ZC.ae,ahc rfl];exact⟨v2,rfl,O2.ae,B2.ae⟩
theorem Sq (t:rp):(rB t).length=4:=rfl
variable{base:Nat}
theorem Ln.at_{w:World}  {v:Value} {l:List rp}(h:Ln w base v l) {k:Nat} {t:rp}(hk:l[k]?=some t):
  ∃g c,v=aH g l.length c/\g < w.heap.size/\w.cell? ⟨g,k*4,none⟩=some (ag t.w.k)/\w.cell? ⟨g,k*4+1,none⟩=some (.string ⟨t.w.s.toArray⟩)/\w.cell? ⟨g,k*4+2,none⟩=some (af t.w.n)/\w.cell? ⟨g,k*4+3,none⟩=some (af t.p):=by obtain⟨g,c,hv,_,hlt,hc⟩:=aI.cell Sq h hk;exact⟨g,c,hv,hlt,hc 0 _ rfl,hc 1 _ rfl,hc 2 _ rfl,hc 3 _ rfl⟩
theorem Ln.cells{w:World}  {A:Option Addr} {n c:Nat} {l:List rp}(h:Ln w base (.slice A n c) l)(hne:l≠ []):
  ∃g,A=some ⟨g,0,none⟩/\base<=g/\g < w.heap.size/\∀k t,l[k]?=some t->w.cell? ⟨g,k*4,none⟩=some (ag t.w.k)/\w.cell? ⟨g,k*4+1,none⟩=some (.string ⟨t.w.s.toArray⟩)/\w.cell? ⟨g,k*4+2,none⟩=some (af t.w.n)/\w.cell? ⟨g,k*4+3,none⟩=some (af t.p):=by
 match l,hne with
 | t0::l,_=>obtain⟨g,c0,hv,hb,hlt,_⟩:=aI.cell Sq h (k:=0) (x:=t0) rfl;injection hv with hA _ _;refine⟨g,hA,hb,hlt,λ k t hk=>?_⟩;obtain⟨g',c',hv',_,a⟩:=h.at_ hk;injection hv' with hA' _ _;rw[hA] at hA';injection hA' with hA';injection hA' with hg _ _;subst hg;exact a
structure dr where
 g:Nat
 gl:Nat
 c:Nat
 UK:List rp
def dr.n (ρ:dr):Nat:=ρ.UK.length
def dr.ws (ρ:dr):dG:=ρ.UK.map (·.w)
def dr.bad (ρ:dr):cj->Int
 | .good _=> -1
 | .bad m=>(ρ.n:Int) - m
def dr.cells (ρ:dr)(σ:cj)(big:Bool):Array Value:= #[aH ρ.gl ρ.n ρ.c,af ((ρ.n:Int) - σ.left),af (ρ.bad σ),.bool big]
structure dr.at (ρ:dr) (w:World) (σ:cj) (big:Bool):Prop where
 blk:aB w ρ.g 169 (ρ.cells σ big)
 lt:ρ.gl < ρ.g
 cell:∀k t,ρ.UK[k]?=some t->w.cell? ⟨ρ.gl,k*4,none⟩=some (ag t.w.k)/\w.cell? ⟨ρ.gl,k*4+1,none⟩=some (.string ⟨t.w.s.toArray⟩)/\w.cell? ⟨ρ.gl,k*4+2,none⟩=some (af t.w.n)/\w.cell? ⟨ρ.gl,k*4+3,none⟩=some (af t.p)
 of:σ.of ρ.ws
 small:ρ.n<=5000
 ZK:∀t∈ρ.UK,0<=t.w.n/\t.w.n<=9223372036854775807
section
variable {ρ:dr} {w w':World} {σ:cj} {big:Bool}
theorem dr.at.later (h:ρ.at w σ big)(hb:aj w w'):ρ.at w' σ big:=
 ⟨h.blk.later hb,h.lt,λ k t hk=>by
   have hl:ρ.gl < w.heap.size:=Nat.lt_trans h.lt h.blk.lt
   have c:=λ o=>hb.cell (p:=⟨ρ.gl,o,none⟩) hl
   obtain⟨h1,h2,h3,h4⟩:=h.cell k t hk
   exact⟨(c _).trans h1,(c _).trans h2,(c _).trans h3,(c _).trans h4⟩,h.of,h.small,h.ZK⟩
theorem dr.at.FK (h:ρ.at w σ big):ρ.g < w.heap.size:=h.blk.lt
theorem dr.at.set {yT:cj} {Pf:Bool}(h:ρ.at w σ big)(hw:aB w' ρ.g 169 (ρ.cells yT Pf))(hg:w.grownBy w' (some ρ.g))(ho:yT.of ρ.ws):ρ.at w' yT Pf:=
 ⟨hw,h.lt,λ k t hk=>by
   have hl:ρ.gl < w.heap.size:=Nat.lt_trans h.lt h.blk.lt
   have c:=cell_of_heap (hg.block ρ.gl hl (λ e=>by injection e with e;have:=h.lt;omega))
   obtain⟨h1,h2,h3,h4⟩:=h.cell k t hk
   exact⟨(c _).trans h1,(c _).trans h2,(c _).trans h3,(c _).trans h4⟩,ho,h.small,h.ZK⟩
theorem dr.at.left (h:ρ.at w σ big):0 < σ.left/\σ.left<=ρ.n:=by have:=cj.OY h.of;simpa [dr.ws,dr.n] using this
theorem dr.at.far {q:Nat}(h:ρ.at w σ big)(hq:ρ.g < q)(i:Nat)(u:Value):ρ.at (w.setCell ⟨q,i,none⟩ u) σ big:=
 ⟨h.blk.far (p:=⟨q,i,none⟩) Tac u,h.lt,λ k t hk=>by
   have c:=cell_of_heap (Below.heap_setCell w ⟨q,i,none⟩ u ρ.gl (by have:=h.lt;simp;omega))
   obtain⟨h1,h2,h3,h4⟩:=h.cell k t hk
   exact⟨(c _).trans h1,(c _).trans h2,(c _).trans h3,(c _).trans h4⟩,h.of,h.small,h.ZK⟩
theorem dr.at.next (h:ρ.at w σ big):∃t:rp,ρ.UK[ρ.n - σ.left]?=some t/\(∀l,σ=.good l->∃r,l=t.w::r):=by
 obtain⟨h1,h2⟩:=h.left;have hlt:ρ.n - σ.left < ρ.UK.length:=by unfold dr.n at*;omega
 refine⟨_,getElem?_eq_getElem hlt,?_⟩;rintro l rfl;obtain⟨t,r,hl,hk⟩:=cj.of_next h.of;refine⟨r,?_⟩;have e:ρ.ws.length - l.length=ρ.n - (cj.good l).left:=by simp[dr.ws,dr.n,cj.left]
 rw[e] at hk;unfold dr.ws at hk;rw[getElem?_map,getElem?_eq_getElem hlt] at hk;simp only[Option.map_some] at hk;injection hk with hk;rw[hk];exact hl
end
structure eE (ρ:dr) (W w':World) (yT:cj) (Pf:Bool):Prop where
 at_:ρ.at w' yT Pf
 grown:W.grownBy w' (some ρ.g)
section
variable {ρ:dr} {W w w':World} {σ yT:cj} {big Pf:Bool}
theorem eE.refl (h:ρ.at w σ big):eE ρ w w σ big:=⟨h,aR (Below.refl _ _)⟩
theorem eE.cW (h:ρ.at w σ big)(hb:aj w w'):eE ρ w w' σ big:=⟨h.later hb,aR hb⟩
theorem eE.later (h:eE ρ W w σ big)(hb:aj w w'):eE ρ W w' σ big:=⟨h.at_.later hb,aY h.grown (aR hb)⟩
theorem eE.trans (h:eE ρ W w σ big)(k:eE ρ w w' yT Pf):eE ρ W w' yT Pf:=⟨k.at_,aY h.grown k.grown⟩
theorem eE.size (h:eE ρ W w σ big):W.heap.size<=w.heap.size:=h.grown.size
theorem eE.far {q:Nat}(h:eE ρ W w σ big)(hW:ρ.g < W.heap.size)(hq:W.heap.size<=q)(i:Nat)(u:Value):eE ρ W (w.setCell ⟨q,i,none⟩ u) σ big:=by
 refine⟨h.at_.far WC i u,h.grown.os,h.grown.tape,h.grown.output,?_,λ k hk hkg=>?_⟩
 ·have:(w.setCell ⟨q,i,none⟩ u).heap.size=w.heap.size:=by simp[World.setCell]
  rw[this];exact h.grown.size
 ·rw[Below.heap_setCell w ⟨q,i,none⟩ u k Tac];exact h.grown.block k hk hkg
theorem eE.blk {q:Nat} {t:TypeId} {cs:Array Value}(h:eE ρ W w σ big)(hq:aB W q t cs)(hg:q≠ρ.g):aB w q t cs:=hq.grown h.grown λ e=>hg Tbh
end
end Go.Proofs.YtndgjggokjickaaGreatDoor.R
