/- Parts of the proof. -/
import Derived.Laws.CopyOwn
import Derived.Lib.ItoaLen
import Derived.Lib.AppendZeros
import Derived.Lib.ParseIntB
import Derived.Lib.Case
import Derived.Test.YtndgjggokjickaaGreatDoorXW3
namespace Go.Proofs.YtndgjggokjickaaGreatDoor
open List
variable{p:Prop}
set_option maxHeartbeats 90000000
set_option maxRecDepth 100000
open Go.RowKit
set_option linter.unusedVariables false
def np (u:Nat->Value)(M:List Nat)(σ:Nat->Option Value)(i:Nat)(_:World)(v:Value):Prop:=if i∈M then σ i=some v else v=u i
def jF (σ:Nat->Option Value)(i:Nat)(v:Value):Nat->Option Value:=λ j=>if j=i then some v else σ j
theorem FB (σ:Nat->Option Value)(i:Nat)(v:Value):jF σ i v i=some v:=by simp[jF]
variable{j:Nat}
theorem abN(σ:Nat->Option Value) {i:Nat}(v:Value)(h:j≠i):jF σ i v j=σ j:=by simp[jF,h]
def aeP (P:Program)(l:List Oper)(u:Nat->Value)(M:List Nat)(G:(Nat->Option Value)->World->Prop)(a0:Act)(i:Nat)(o:Oper):Prop:=
 ∀ρ w σ,oz ρ->G σ w->lJ l (np u M σ) a0.eval ρ w o (tmpsOf o)->(∀e∈eX o,e∈M->(σ e).isSome=true)->(i∈M->σ i=none)->o.guard=none/\
  if i∈M then xa P o ρ w λ v w'=>G (jF σ i v) w' else(execOp ρ o).run P w=.ok (.value (u i)) w
def OH (P:Program)(l:List Oper)(u:Nat->Value)(M:List Nat)(G:(Nat->Option Value)->World->Prop)(a0:Act):List Oper->Nat->Prop
 | [],_=>True
 | o::rest,i=>aeP P l u M G a0 i o/\OH P l u M G a0 rest (i+1)
variable{P:Program}{L:List Oper}{u:Nat->Value}{M:List Nat}{G:(Nat->Option Value)->World->Prop}{a0:Act}
theorem FC:∀ {l:List Oper} {k:Nat},OH P L u M G a0 l k->∀i o,l[i]?=some o->aeP P L u M G a0 (k+i) o
 | [],_,_,i,o,h=>by simp at h
 | x::l,k,hs,0,o,h=>by simp at h;subst h;exact hs.1
 | x::l,k,hs,i+1,o,h=>by have:=FC hs.2 i o Tak;rwa [show k+1+i=k+(i+1) by omega] at this
section
variable {P:Program} {l zs:List Oper} {Q:Exit->Act->World->Prop} {u:Nat->Value} {M:List Nat} {G:(Nat->Option Value)->World->Prop} {a0:Act} {w0:World} {V:Nat->World->Value->Prop}
theorem zb2.Kam(h:p:=by
 have hK:=xd (V:=V) (λ d=>a.eval (.tmp d)) l 0 a0 (λ i o d hi hd=>by
  rw[Nat.zero_add]
  have rW:i < l.length:=by
   rcases Nat.lt_or_ge i l.length with h' | h'
   ·exact h'
   ·rw[getElem?_eq_none h'] at hi;cases hi
  exact I.new i o d hi (hall i rW) hd) hf
 rw[<- ha] at hK;exact Zbk):p:=h
theorem FD {N:Nat}(aZ:dN l N l 0=true)(hz:eL (l++zs) zs l.length=true) {listed:Array Bool} {a:Act} {w:World}(hf:bD V (λ a w=>wpList P (l++zs).toArray Q zs a w) l 0 a0 w)(I:Inv l V (λ _ _=>True) a0 w0 (l++zs).length listed a w)
  (h0:bw l.length listed=0):wpAny P .any (l++zs).toArray Q zs.length listed a w:=by
 open zb2 in exact ZaE
theorem zfk.Kbd(h:p:=by
 by_cases hjm:i∈M
 ·rw[if_pos hjm] at hstep;refine jx hstep ?_;intro v w' Rs;have hne:∀Kx,Kx≠i->jF σ i v Kx=σ Kx:=λ Kx hi=>abN σ v hi
  have I':Inv l (np u M (jF σ i v)) (λ _ _=>True) a0 w0 (l++zs).length listed a w:=I.imp (λ Kx w x h=>by
   unfold np at*
   by_cases Rp:Kx∈M
   ·rw[if_pos Rp] at h ⊢
    rw[hne Kx (λ e=>by subst e;rw[hnone Rp] at h;cases h)]
    exact h
   ·rw[if_neg Rp] at h ⊢;exact h)
  refine ih _ _ _ (jF σ i v) (I'.step aZ (λ _ _ _ _ h _=>h) (λ _ _ _ _ _=>trivial) uX zt AL eY trivial ?_) Rs ?_ YX
  ·unfold np;rw[if_pos hjm];exact FB σ i v
  ·intro k hk;rw[eH _ _ _ YW];by_cases hkj:k=i
   ·subst hkj;rw[FB];simp
   ·rw[if_neg hkj,hne k hkj];exact cf k hk
 ·rw[if_neg hjm] at hstep;refine jx (T:=λ v w'=>v=u i/\w'=w) (aq hstep ⟨rfl,rfl⟩) ?_;rintro v w' ⟨rfl,rfl⟩;refine ih _ _ _ σ (I.step aZ (λ _ _ _ _ h _=>h) (λ _ _ _ _ _=>trivial) uX zt AL eY trivial ?_) hg ?_ YX
  ·unfold np;rw[if_neg hjm]
  ·intro k hk;rw[eH _ _ _ YW,if_neg (λ e:k=i=>hjm (by rw[<- e];exact hk))];exact cf k hk):p:=h
theorem zao.Kc(h:p:=by
 have hst:=FC hs i oj uX;rw[Nat.zero_add] at hst;have mq:=Inv.reads aZ I uX AL eY (tmpsOf oj) (λ _ h=>h)
 have hnone:i∈M->σ i=none:=λ hjm=>by
  cases pR:σ i with
  | none=>rfl
  | some v=>have:=(cf i hjm).2 (by rw[pR];rfl);rw[AL] at this;cases this
 obtain⟨hgd,hstep⟩:=hst a.eval w σ (mB a) hg mq (λ e he hem=>(cf e hem).1 (eY e he)) hnone;open zfk in exact Zc6):p:=h
theorem qU {id:Nat} {ops:List Oper}(zs:List Oper)(l:List Oper)(kE:ops=l++zs)(u:Nat->Value)(M:List Nat)(G:(Nat->Option Value)->World->Prop)(nK:∀σ w,G σ w->G σ w.drew)(hG:G (λ _=>none) w0)
  (hm:P.follows .mixedOrders=true) (aZ:dN l a0.tmps.size l 0=true) (hz:eL (l++zs) zs l.length=true) (JY:M.all (λ Kx=>decide (Kx < l.length))=true)
  (hs:OH P l u M G a0 l 0) (hf:∀σ w,(∀Kx∈M,(σ Kx).isSome=true)->G σ w->bD (np u M σ) (λ a w=>wpList P ops.toArray Q zs a w) l 0 a0 w):(Code.region id ops.toArray true).wp P Q a0 w0:=by
 subst kE
 have main:∀(fuel:Nat) (listed:Array Bool) (a:Act) (w:World) (σ:Nat->Option Value),Inv l (np u M σ) (λ _ _=>True) a0 w0 (l++zs).length listed a w->G σ w->(∀Kx∈M,(listed.getD Kx false=true↔(σ Kx).isSome=true))->fuel=bw l.length listed+zs.length->wpAny P .any (l++zs).toArray Q fuel listed a w:=by
  intro fuel
  induction fuel with
  | zero=>
    intro listed a w σ I hg cf hfu;have h0:bw l.length listed=0:=by omega
    have hz0:zs.length=0:=by omega
    have hall:=ed h0;have:=FD aZ hz (hf σ w (λ Kx hi=>(cf Kx hi).1 (hall Kx (of_decide_eq_true (List.all_eq_true.1 JY Kx hi)))) hg) I h0;rwa [hz0] at this
  | succ fuel ih=>
    intro listed a w σ I hg cf hfu;by_cases h0:bw l.length listed=0
    ·have hall:=ed h0;have:=FD aZ hz (hf σ w (λ Kx hi=>(cf Kx hi).1 (hall Kx (of_decide_eq_true (List.all_eq_true.1 JY Kx hi)))) hg) I h0;exact Zfc
    ·open zao in exact Zab
 refine wp_region_any hm ?_;have:=main (l++zs).toArray.size (Array.replicate (l++zs).toArray.size false) a0 w0.drew (λ _=>none) ⟨trivial,rfl,rfl,λ _ _=>rfl,(λ Kx o d _ h=>by rw[bh] at h;cases h),(λ Kx o _ h=>by rw[bh] at h;cases h),by simp,λ Kx _=>bh _ _⟩ (nK _ _ hG) (λ Kx _=>by rw[bh];simp) (by
  have:bw l.length (Array.replicate (l++zs).toArray.size false)=l.length:=by
   unfold bw
   rw[List.filter_eq_self.2 (λ Kx _=>by rw[bh];rfl),length_range]
  rw[this];simp)
 exact this
end
open Go.ChangeShapes Go.WideShapes Go.ChangeAt
structure Cel where
 i:Nat
 T:TypeId
 c:Array Value
 s:Nat
 d:Array Value
section
variable {P:Program} {Q:Exit->Act->World->Prop} {a0:Act} {w0:World}
end
section
variable {P:Program} {l:List Oper} {u:Nat->Value} {X:List Cel} {CL:List Nat} {a0:Act} {B:Nat} {w0:World} {i:Nat} {o:Oper}
end
variable{q:Nat}{old:Array Value}
theorem agU{w:World}  {T:TypeId} (h:aB w q T old)(cs:Array Value):aB (w.setRow q cs) q T cs:=setRow_heap w q old cs T (0,0) h
variable{w':World}{B:Nat}
theorem Za{w:World} (h:Below B w w')(hq:B<=q)(cs:Array Value):Below B w (w'.setRow q cs):=below_setRow h hq cs
set_option linter.unusedSimpArgs false
def zH (w:World):Prop:=Lib.TabIs Tryz.prog w "internal/strconv.uint64pow10" .u64 Lib.pow10Tab
theorem zH.later{w:World}(h:zH w)(hb:aj w w'):zH w':=by
 unfold zH Lib.TabIs World.var? at*
 cases hg:Tryz.prog.globalNamed "internal/strconv.uint64pow10" with
 | none=>rw[hg] at h;simp at h
 | some g=>
   rw[hg] at h;simp only[Option.bind_some] at h ⊢
   have:g < w.heap.size:=by
    rcases Nat.lt_or_ge g w.heap.size with hlt | ve
    ·exact hlt
    ·rw[Array.getElem?_eq_none ve] at h;simp at h
   rw[hb.block g this];exact h
theorem mN (w:World):∀k,aj w (w.drewN k)
 | 0=>Below.refl _ _
 | k+1=>(mN w k).drew
theorem OI (w:World)(k:Nat)(os:Array Obj):aj w («Sort».grow (w.drewN k) os):=by
 have h:=mN w k;refine⟨h.os,h.tape,h.output,?_,λ i hi=>?_⟩
 ·have:=h.size;simp[«Sort».grow]
 ·rw[<- h.block i hi];have:=h.size;simp only[«Sort».grow];rw[Array.getElem?_append_left WC]
theorem xt (a b:Int)(w:World):ar 97 #[ag a,ag b] w λ e w'=>e=.returned (.bool (cg a b))/\aj w w':=by
 have hb:=Below.refl w.heap.size w;unfold cg;by_cases h1:a=0
 ·subst h1;go_enter Tryz.func97,Tryz.ntmps97;exact Zdi
 have t1:(a==0)=false:=by simp[h1]
 have t1':decide (a=0)=false:=by simp[h1]
 have T1:=aa t1;by_cases h2:b=0
 ·subst h2;clear h1;go_enter Tryz.func97,Tryz.ntmps97;go_wp2_with fail;go_ret;exact⟨by rw[T1.ae];rfl,hb⟩
 have t2:(b==0)=false:=by simp[h2]
 have t2':decide (b=0)=false:=by simp[h2]
 have T2:=aa t2;clear h1 h2;go_enter Tryz.func97,Tryz.ntmps97;go_wp2_with fail;go_ret;exact⟨by rw[T1.ae,T2.ae];simp,hb⟩
def nr (r:Int×Int):Int:=if r.2=0/\cg r.1 1=false then 40 else r.2
variable{t:Int}
theorem FE:nr (t,0)=if cg t 1=false then 40 else 0:=by
 unfold nr;by_cases h:cg t 1=false
 ·rw[if_pos h,if_pos ⟨rfl,h⟩]
 ·rw[if_neg h,if_neg (λ h2=>h h2.2)]
variable{e:Int}
theorem BA(h:e≠0):nr (t,e)=e:=if_neg (λ h2=>h h2.1)
theorem tX (t e:Int)(w:World):ar 58 #[ag t,af e] w λ e_ w'=>e_=.returned (af (nr (t,e)))/\aj w w':=by
 obtain⟨r,hr⟩:∃r,r=nr (t,e):=⟨_,rfl⟩;rw[<- hr];by_cases h1:e=0
 ·subst h1;rw[FE] at hr;have hg:=xt t 1;cases hv:cg t 1
  ·rw[hv] at hg hr;have hr2:r=40:=hr;exact Ze4
  ·rw[hv] at hg hr;have hr2:r=0:=hr;exact Ze4
 ·rw[BA h1] at hr;subst hr;have t1:(r==0)=false:=by simp[h1]
  have t1':decide (r=0)=false:=by simp[h1]
  have hb:=Below.refl w.heap.size w;clear h1;go_enter Tryz.func58,Tryz.ntmps58;exact Zdi
def jb (k:Int):ByteArray:=⟨#[35]⟩++⟨(Lib.itoa k).toArray⟩
def KZ (k:Int):Ex:=⟨2,⟨0,0,⟨#[]⟩⟩,jb k,0,none,0,0⟩
theorem zbl.Kaf(h:p:=by exact bodyPost_ret (v:=.agg #[ag 2,ag 0,af 0,au,.string (({ data:= #[35] }:ByteArray)++ { data:=(Lib.itoa k).toArray }),af 0,az]) (by simp[results,Tryz.results60,go_sem,z0,z1,x2,x3,x4,x5,x6];done) rfl ⟨rfl,hb3⟩):p:=h
theorem zeR.Ka3(h:p:=by
 rw[<- hg] at HX ⊢;have vU:=aa hg;clear hg;go_wp2_with fail;refine(Tryz.strconv_Itoa k HK.ae.1 HK.ae.2 W1 HE.ae).mono ?_;rintro e w1 ⟨rfl,kk,os,rfl⟩;have b1:=OI W1 kk os;generalize «Sort».grow (W1.drewN kk) os=Kx at*;have H2:=aa (HX.later b1);have HB:=aa (ai.then bb b1);have hgb:w.heap.size<=g:=by rw[vU.ae];exact Nat.le_refl _
 have yK:=aa hgb;have EXI:(Tryz.prog.info? 46).map (·.size)=some 7:=by kernel_rfl
 have HEX:=aa EXI;clear HX bb b1 hgb EXI;go_wp2_with (refine wpList_store_row rfl 46 (.tmp 2) (.tmp 6) rfl g #[ag 2,ag 0,af 0,au,.string (({ data:= #[35] }:ByteArray)++ { data:=(Lib.itoa k).toArray }),af 0,az] rfl rfl 46 dh H2.ae HEX.ae rfl Va ?_);rotate_left
 ·simp only[Act.put];have k1:=agU H2.ae #[ag 2,ag 0,af 0,au,.string (({ data:= #[35] }:ByteArray)++ { data:=(Lib.itoa k).toArray }),af 0,az];have hb3:=Za HB.ae yK.ae #[ag 2,ag 0,af 0,au,.string (({ data:= #[35] }:ByteArray)++ { data:=(Lib.itoa k).toArray }),af 0,az];generalize World.setRow _ _ _=W2 at*;open zbl in exact Zav
 ·exfalso;have:=Lib.itoa_length_le k HK.ae.1 HK.ae.2;omega):p:=h
theorem oU (k:Int)(h0: -9223372036854775808<=k)(h1:k<=9223372036854775807)(w:World)(hE:zH w):ar 60 #[af k] w λ e w'=>e=.returned (mn (KZ k))/\aj w w':=by have bb:=ah w (.cells dh 46);have HX:=aB.new w 46 dh;have HE:=aa (hE.later bb);have HK:=aa (And.intro h0 h1);clear hE h0 h1;go_enter Tryz.func60,Tryz.ntmps60;open zeR in exact ZcH
mutual
def Tr.depth:Tr->Int
 | .mk op v name width args=>RowKit.wrap64 (Tr.iC args+1)
def Tr.iC:List Tr->Int
 | []=>0
 | t::ts=>max t.depth (Tr.iC ts)
end
def agV (f:FuncId)(w:World)(y:Ex)(b:Int):Prop:=∀W,aj w W->ar f #[.agg (ay y)] W λ e w'=>e=.returned (af b)/\aj W w'
def zI:List Int->Int
 | []=>0
 | a::l=>max a (zI l)
theorem xu:∀(l:List Int) (a:Int),zI (l++ [a])=max (zI l) a
 | [],a=>by simp only[nil_append,zI];omega
 | b::l,a=>by simp only[cons_append,zI,xu l a];omega
theorem yL:∀ts:List Tr,Tr.iC ts=zI (ts.map Tr.depth)
 | []=>by simp[Tr.iC,zI]
 | t::ts=>by simp[Tr.iC,zI,yL ts]
theorem zc1.Kay(h:p:=by
 generalize hm:zI ((args.take k).map (·.2))=m;have HM:=aa hm;clear hm;by_cases hmd:m < v
 ·exact Zb9
 ·exact Zb9):p:=h
theorem zf5.Kbw(h:p:=by
 clear x6;go_loopw [3,9] (λ m iv wr=>∃k:Nat,k<=args.length/\iv=af k/\m=af (zI ((args.take k).map (·.2)))/\aj W wr) (λ _ iv _=>args.length - (intOf iv).toNat);case atStart=>exact Zf5
 case round=>
  obtain⟨k,hi,rfl,rfl,hW⟩:=hrel;have x6:=(HX.later hW).cell 6;simp only[Uaa] at x6;by_cases hlt:k < args.length
  ·obtain⟨b,off,rfl,kz,hex⟩:=(HA.ae.below (ai.then HB.ae hW)).at_ (show k <(args.map (·.1)).length by simpa using hlt);have js:(args.map (·.1))[k]' Tan=args[k].1:=by simp
   open zc1 in exact Zbc
  ·obtain rfl:k=args.length:=by omega
   have lN:args.take args.length=args:=take_length;rw[lN];generalize hmx:zI (args.map (·.2))=m;have HMX:=aa hmx;clear hmx;exact ZgY):p:=h
theorem OJ (JL:Int)(KK:Val)(kS:ByteArray)(gO:Int)(A:Option Addr)(c:Nat)(args:List (Ex×Int))(w:World)(hl:args.length<=1599289640356)(hA:RE w w.heap.size A (args.map (·.1)))(hE:∀a∈args,agV 57 w a.1 a.2):ar 57 #[.agg #[ag JL,ag KK.k,af KK.n,.string KK.s,.string kS,af gO,.slice A args.length c]] w λ e w'=>e=.returned (af (wrap64 (zI (args.map (·.2))+1)))/\aj w w':=by have HA:=aa hA;have HE:=aa hE;clear hA hE;have HX:=aB.new w 46 #[ag JL,ag KK.k,af KK.n,.string KK.s,.string kS,af gO,.slice A args.length c];have hb0:=ah w (.cells #[ag JL,ag KK.k,af KK.n,.string KK.s,.string kS,af gO,.slice A args.length c] 46);go_enter Tryz.func57,Tryz.ntmps57;go_upto_region 1 with fail;generalize w.alloc _=W at*;have HB:=aa hb0;clear hb0;open zf5 in exact Zd5
theorem Tr.Zb (t:Tr)(y:Ex)(w:World)(aZ:t.ok)(hat:t.at_ w (Old w) y):∀W,aj w W->ar 57 #[mn y] W λ e w'=>e=.returned (af t.depth)/\aj W w':=by refine Tr.tell Tr.depth (λ _=>True) (λ W y r=>ar 57 #[mn y] W λ e w'=>e=.returned (af r)/\aj W w') (λ _ _ _ _ _ _ _ _=>trivial) ?_ t y w aZ trivial hat;intro op v name width ts A c args w aZ _ hlen hm hA _ hE;have k:=OJ op v name width A c args w (by unfold Tr.ok at aZ;rw[hlen];exact aZ.2.1) hA hE;unfold Tr.depth;rw[yL,<- hm];exact k
def t5V (y:Ex)(gp:Nat)(cV:Value)(t e:Int):Nat->World->Value->Prop
 | 0,_,v=>v=.agg (ay y)
 | 1,_,v=>v=aw gp
 | 2,_,v=>v=aw gp
 | 3,_,v=>v=ba gp 8
 | 4,_,v=>v=cV
 | 5,_,v=>v=.tuple #[ag t,af e]
 | 6,_,v=>v=.tuple #[ag t,af e]
 | 7,_,v=>v=ag t
 | 8,_,v=>v=af e
 | 9,_,v=>v=ag t
 | 10,_,v=>v=af e
 | _,_,_=>False
theorem xw (y:Ex)(gp:Nat)(cV:Value)(t e:Int):∀i w w' v,t5V y gp cV t e i w v->ai w w'->t5V y gp cV t e i w' v:=by exact Zdo
theorem zhB.Kb4(h:p:=by
 replace q5: .tuple #[ag bt,af er]=a5:=Eq.symm q5;subst q5;replace q6: .tuple #[ag bt,af er]=a6:=Eq.symm q6;subst q6;replace q7: ag bt=a7:=Eq.symm q7;subst q7;replace q8: af er=a8:=Eq.symm q8;subst q8;replace q9: ag bt=a9:=Eq.symm q9;subst q9;replace Uu: af er=FH:=Eq.symm Uu;subst Uu;simp only[bD,Act.put,Uac];have eD:=ai.then hB (ai.then hb (ai.then Mp hL));have t1:(er != 0)=true:=by have:=Oa.ae;simpa using this
 have t2:decide (er=0)=false:=by have:=Oa.ae;simpa using this
 clear wU k1 Nx Qi Mp hL hb hB;go_wp2_with fail;exact bodyPost_ret (v:=.tuple #[ag 0,af er]) Tao rfl ⟨rfl,eD⟩):p:=h
theorem zfZ.Kbu(h:p:=by
 refine bA 11 (t5V y gp cV bt er) (xw _ _ _ _ _) Va Va Va ?_ ?_
 ·exact ZaT
 open zhB in exact Zfv):p:=h
theorem ze4.Ka7(h:p:=by clear Hu;generalize bad=y at*;unfold cw at hex;open zfZ in exact Zd2):p:=h
theorem zdn.KaC(h:p:=by
 go_loopw [6,15] (λ kv i wr=>∃k:Nat,k<=args.length/\i=af k/\aF dP 5 1 wr W1.heap.size kv ((args.take k).map (·.2))/\aj W1 wr) (λ _ i _=>args.length - (intOf i).toNat);case atStart=>exact ZcE
 case round=>
  obtain⟨k,hk,rfl,hp,hb⟩:=hrel;have HK:=aa hp;clear hp;rcases Nat.lt_or_ge k args.length with hlt | ve
  ·have zA:k < n:=by have:=HN.ae;omega
   obtain⟨b,off,rfl,kz,hex⟩:=(HA.ae.below hb).at_ (show k <(args.map (·.1)++bad::post).length by simp;omega);have js:(args.map (·.1)++bad::post)[k]' Tab=args[k].1:=by rw[getElem_append_left Tan];simp
   exact Zas
  ·open ze4 in exact ZcP):p:=h
theorem Us (gp:Nat)(cV:Value)(op:Int)(xv:Val)(name:ByteArray)(width:Int)(A:Option Addr)(n c:Nat)(args:List (Ex×Int))(bad:Ex)(bt er:Int)(post:List Ex)(w:World)(sx:gp < w.heap.size)(Zc:w.cell? ⟨gp,8,none⟩=some cV)(hn:args.length+1+post.length=n)(hl:n<=1599289640356)(hA:RE w w.heap.size A (args.map (·.1)++bad::post))(hE:∀a∈args,oJ w cV a.1 a.2 0)(jV:oJ w cV bad bt er)(her:er≠0):
  ar 153 #[aw gp,.agg #[ag op,ag xv.k,af xv.n,.string xv.s,.string name,af width,.slice A n c]] w λ en w'=>en=.returned (.tuple #[ag 0,af er])/\aj w w':=by have HN:=aa hn;have Hu:=aa jV;have Oa:=aa her;clear hn jV her;open zdn in exact Zbj
def RK (w:World)(B:Nat)(A:Option Addr)(l:List Int):Prop:=l=[]\/∃g,A=some ⟨g,0,none⟩/\g < B/\∀(i:Nat) x,l[i]?=some x->w.cell? ⟨g,i,none⟩=some (ag x)
variable{l:List Int}
theorem Zg{w:World} {A:Option Addr} (h:l=[]\/∃g,A=some ⟨g,0,none⟩/\g < w.heap.size/\∀i x j u,l[i]?=some x->j < 1->(dP x)[j]?=some u->w.cell? ⟨g,i*1+j,none⟩=some u):RK w w.heap.size A l:=by
 rcases h with h |⟨g,h1,h2,h3⟩
 ·exact .inl h
 ·exact .inr ⟨g,h1,h2,λ i x hx=>by have:=h3 i x 0 _ hx WC rfl;simpa using this⟩
theorem RK.at_{w:World}  {A:Option Addr} (h:RK w B A l) {k:Nat}(hk:k < l.length):∃g,A=some ⟨g,0,none⟩/\g < B/\w.cell? ⟨g,k,none⟩=some (ag l[k]):=by
 rcases h with h |⟨g,h1,h2,h3⟩
 ·subst h;simp at hk
 ·exact⟨g,h1,h2,h3 k _ (getElem?_eq_getElem hk)⟩
def jG (op:Int)(ks:List Int):Int×Int:=
 if (ks.length:Int)≠iA op then(0,21)
 else if (op=23\/op=26)/\cg (ks.getD 0 0) 2=false then(0,40)
 else if ks.length=2/\cg (ks.getD 1 0) 2=false then(0,40)
 else if ks.length=0\/op=23\/op=26\/op=22 then(2,0)
 else(ks.getD 0 0,0)
theorem La {op:Int}:iA op=0\/iA op=1\/iA op=2:=by
 unfold iA Ic;repeat' split
 all_goals simp
theorem Lb{op:Int}(h:op=23\/op=26):iA op=1:=by
 rcases h with rfl | rfl <;> rfl
theorem OL:iA 22=1:=rfl
theorem zhW.Kce(h:p:=by clear gZ;exact ZeJ):p:=h
theorem zhX.Kce(h:p:=by have c0':=(b3.cell (p:=⟨g0,0,none⟩) hg0).trans HC0.ae;clear gZ;go_wp2_with fail;exact bodyPost_ret (v:=.tuple #[ag k0,af 0]) Tao rfl ⟨rfl,ai.then fG.ae b3⟩):p:=h
theorem zdo.KaC(h:p:=by
 go_loopw [6,15] (λ kv i wr=>∃k:Nat,k<=args.length/\i=af k/\aF dP 5 1 wr W1.heap.size kv ((args.take k).map (·.2))/\aj W1 wr) (λ _ i _=>args.length - (intOf i).toNat);case atStart=>exact ZcE
 case round=>
  obtain⟨k,hk,rfl,hp,hb⟩:=hrel;have HK:=aa hp;clear hp;rcases Nat.lt_or_ge k args.length with hlt | ve
  ·have zA:k < n:=by have:=HN.ae;omega
   obtain⟨b,off,rfl,kz,hex⟩:=(HA.ae.below hb).at_ (show k <(args.map (·.1)).length by simpa using hlt);have js:(args.map (·.1))[k]' Tan=args[k].1:=by simp
   exact Zas
  ·have lN:args.take k=args:=take_of_length_le ve;have zA:¬k < n:=by have:=HN.ae;omega
   rw[lN] at HK;obtain⟨A9,c9,hu9,hKC⟩:=ek (f:=dP) (size:=1) (λ _=>rfl) HK.ae;have zu:(args.map (·.2)).length=n:=by rw[length_map];exact HN.ae
   rw[zu] at hu9;have HRK:=aa (Zg hKC);subst hu9;have bz:=HX.later hb;have eD:=ai.then hB hb;have fG:=aa eD;generalize pP:args.map (·.2)=ks at*;have Xo:=aa zu;clear hKC hB HX pP zu eD HK Ze BC HA HE lN ve;have gZ:=bz.cell 0;simp only[Uaa] at gZ;go_upto_region 10 with fail
   obtain⟨sb,hsb⟩:∃sb:Bool,(sb=true->op=23\/op=26)/\(sb=false->op≠23/\op≠26):=by
    by_cases h:op=23\/op=26
    ·exact Zgr
    ·exact⟨false,λ h=> Tad,λ _=>⟨λ h2=>h (.inl h2),λ h2=>h (.inr h2)⟩⟩
   have sW:=aa hsb;clear hsb;go_cut [11] (λ sv wx=>sv=.bool sb/\wx=wr)
   case first=>
    cases sb
    ·obtain⟨h1,h2⟩:=sW.ae.2 rfl;have s1:(op==23)=false:=by simp[h1]
     have s2:(op==26)=false:=by simp[h2]
     have s3:decide (op=23)=false:=by simp[h1]
     have s4:decide (op=26)=false:=by simp[h2]
     clear h1 h2;go_wp2_with fail;go_meet;exact Zfo
    ·rcases sW.ae.1 rfl with h1 | h1
     ·have s1:(op==23)=true:=by simp[h1]
      have s3:decide (op=23)=true:=by simp[h1]
      clear h1;go_wp2_with fail;go_meet;exact Zfo
     ·have s1:(op==23)=false:=by simp[h1]
      have s2:(op==26)=true:=by simp[h1]
      have s3:decide (op=23)=false:=by simp[h1]
      have s4:decide (op=26)=true:=by simp[h1]
      clear h1;go_wp2_with fail;go_meet;exact Zfo
   case rest=>
   obtain⟨rfl,rfl⟩:=hcut;have Uw:=YO op;clear gZ hb zA hk;by_cases TU:(n:Int)=iA op
   case neg=>
    have hr:rt=(0,21):=by rw[Ld.ae];unfold jG;rw[Xo.ae];exact if_pos TU
    subst hr;obtain⟨ao,hao⟩:∃ao,ao=iA op:=⟨_,rfl⟩;rw[<- hao] at Uw TU;have t1:((n:Int) != ao)=true:=by simp[TU]
    have t2:decide ((n:Int)=ao)=false:=by simp[TU]
    have t3:((n:Int)==ao)=false:=by simp[TU]
    have Io:=aa Uw;have gZ:=bz.cell 0;simp only[Uaa] at gZ;clear Uw TU hao;go_wp2_with fail;refine(Io.ae _).mono ?_;rintro e w2 ⟨rfl,b3⟩;go_wp2_with fail;exact bodyPost_ret (v:=.tuple #[ag 0,af 21]) Tao rfl ⟨rfl,ai.then fG.ae b3⟩
   have Ux:=Xo.ae;have HNA:=aa TU;rw[<- TU] at Uw;have tY:n=0\/n=1\/n=2:=by rcases @La op with h | h | h <;> omega
   have Io:=aa Uw;clear Uw TU;have gZ:=bz.cell 0;simp only[Uaa] at gZ;rcases tY with rfl | rfl | rfl
   ·have pP:ks=[]:=eq_nil_of_length_eq_zero Ux;subst pP;clear Ux;have hsb:sb=false:=by exact Zg7
    subst hsb;have hr:rt=(2,0):=by rw[Ld.ae];unfold jG;rw[if_neg (λ h=>h HNA.ae),if_neg (λ h=>by rcases sW.ae.2 rfl with ⟨a,b⟩;rcases h.1 with c | c;exact a c;exact b c),if_neg (λ h=>by cases h.1),if_pos (.inl rfl)]
    subst hr;go_wp2_with fail;refine(Io.ae _).mono ?_;rintro e w2 ⟨rfl,b3⟩;exact ZeJ
   ·obtain⟨k0,rfl⟩:∃k0,ks=[k0]:=by
     match ks,Ux with
     | [k0],_=>exact⟨k0,rfl⟩
    clear Ux;obtain⟨g0,rfl,hg0,hc0⟩:=HRK.ae.at_ (show 0 < [k0].length by simp);have hc0:wc.cell? ⟨g0,0,none⟩=some (ag k0):=hc0;have HC0:=aa hc0;clear hc0;cases sb
    ·by_cases Uy:op=22
     ·have hr:rt=(2,0):=by rw[Ld.ae];unfold jG;rw[if_neg (λ h=>h HNA.ae),if_neg (λ h=>by rcases sW.ae.2 rfl with ⟨a,b⟩;rcases h.1 with c | c;exact a c;exact b c),if_neg (λ h=>by cases h.1),if_pos (.inr (.inr (.inr Uy)))]
      subst hr;have s1:(op==22)=true:=by simp[Uy]
      have s2:decide (op=22)=true:=by simp[Uy]
      open zhW in exact Zgh
     ·have hr:rt=(k0,0):=by rw[Ld.ae];unfold jG;rw[if_neg (λ h=>h HNA.ae),if_neg (λ h=>by rcases sW.ae.2 rfl with ⟨a,b⟩;rcases h.1 with c | c;exact a c;exact b c),if_neg (λ h=>by cases h.1),if_neg (λ h=>by rcases sW.ae.2 rfl with ⟨a,b⟩;rcases h with c | c | c | c;cases c;exact a c;exact b c;exact Uy c)];rfl
      subst hr;have s1:(op==22)=false:=by simp[Uy]
      have s2:decide (op=22)=false:=by simp[Uy]
      open zhX in exact Zgh
    ·have hgo:=xt k0 2;have abO:=sW.ae.1 rfl;cases hv:cg k0 2
     ·have hr:rt=(0,40):=by rw[Ld.ae];unfold jG;rw[if_neg (λ h=>h HNA.ae),if_pos ⟨abO,hv⟩]
      subst hr;rw[hv] at hgo;have Xp:=aa hgo;clear hgo hv abO;go_wp2_with fail;refine(Io.ae _).mono ?_;rintro e w2 ⟨rfl,b3⟩;have c0':=(b3.cell (p:=⟨g0,0,none⟩) hg0).trans HC0.ae;exact Zc0
     ·have hr:rt=(2,0):=by rw[Ld.ae];unfold jG;rw[if_neg (λ h=>h HNA.ae),if_neg (λ h=>by have:=h.2;rw[show [k0].getD 0 0=k0 from rfl,hv] at this;cases this),if_neg (λ h=>by cases h.1),if_pos (by rcases abO with h | h;exact .inr (.inl h);exact .inr (.inr (.inl h)))]
      subst hr;rw[hv] at hgo;have Xp:=aa hgo;clear hgo hv abO;go_wp2_with fail;refine(Io.ae _).mono ?_;rintro e w2 ⟨rfl,b3⟩;have c0':=(b3.cell (p:=⟨g0,0,none⟩) hg0).trans HC0.ae;clear gZ;go_wp2_with fail;refine(Xp.ae _).mono ?_;rintro e KK ⟨rfl,b2⟩;go_wp2_with fail;exact bodyPost_ret (v:=.tuple #[ag 2,af 0]) Tao rfl ⟨rfl,ai.then (ai.then fG.ae b3) b2⟩
   ·obtain⟨k0,Kx,rfl⟩:∃k0 Kx,ks=[k0,Kx]:=by
     match ks,Ux with
     | [k0,Kx],_=>exact⟨k0,Kx,rfl⟩
    clear Ux;have hsb:sb=false:=by exact Zg7
    subst hsb;have Uy:op≠22:=λ h=>by have h1:=HNA.ae;rw[h,OL] at h1;omega
    obtain⟨g0,rfl,hg0,hc0⟩:=HRK.ae.at_ (show 0 < [k0,Kx].length by simp);obtain⟨g1,hg1,_,hc1⟩:=HRK.ae.at_ (show 1 < [k0,Kx].length by simp);injection hg1 with hg1;injection hg1 with hg1 _ _;subst hg1;have hc0:wc.cell? ⟨g0,0,none⟩=some (ag k0):=hc0;have hc1:wc.cell? ⟨g0,1,none⟩=some (ag Kx):=hc1;have HC0:=aa hc0;have Nn:=aa hc1;have s1:(op==22)=false:=by simp[Uy]
    have s2:decide (op=22)=false:=by simp[Uy]
    have H22:=aa Uy;clear hc0 hc1 Uy;have hgo:=xt Kx 2;cases hv:cg Kx 2
    ·have hr:rt=(0,40):=by rw[Ld.ae];unfold jG;rw[if_neg (λ h=>h HNA.ae),if_neg (λ h=>by rcases sW.ae.2 rfl with ⟨a,b⟩;rcases h.1 with c | c;exact a c;exact b c),if_pos ⟨rfl,hv⟩]
     subst hr;rw[hv] at hgo;have Xp:=aa hgo;clear hgo hv;go_wp2_with fail;refine(Io.ae _).mono ?_;rintro e w2 ⟨rfl,b3⟩;have c1':=(b3.cell (p:=⟨g0,1,none⟩) hg0).trans Nn.ae;exact Zc0
    ·have hr:rt=(k0,0):=by rw[Ld.ae];unfold jG;rw[if_neg (λ h=>h HNA.ae),if_neg (λ h=>by rcases sW.ae.2 rfl with ⟨a,b⟩;rcases h.1 with c | c;exact a c;exact b c),if_neg (λ h=>by have:=h.2;rw[show [k0,Kx].getD 1 0=Kx from rfl,hv] at this;cases this),if_neg (λ h=>by rcases sW.ae.2 rfl with ⟨a,b⟩;rcases h with c | c | c | c;cases c;exact a c;exact b c;exact H22.ae c)];rfl
     subst hr;rw[hv] at hgo;have Xp:=aa hgo;clear hgo hv;go_wp2_with fail;refine(Io.ae _).mono ?_;rintro e w2 ⟨rfl,b3⟩;have c1':=(b3.cell (p:=⟨g0,1,none⟩) hg0).trans Nn.ae;clear gZ;go_wp2_with fail;refine(Xp.ae _).mono ?_;rintro e KK ⟨rfl,b2⟩;have c10:=((bz.later b3).later b2).cell 0;simp only[Uaa] at c10;have c0':=(b2.cell (p:=⟨g0,0,none⟩) (Nat.lt_of_lt_of_le hg0 b3.size)).trans ((b3.cell (p:=⟨g0,0,none⟩) hg0).trans HC0.ae);clear c1';go_wp2_with fail;exact bodyPost_ret (v:=.tuple #[ag k0,af 0]) Tao rfl ⟨rfl,ai.then (ai.then fG.ae b3) b2⟩):p:=h
theorem Uv (gp:Nat)(cV:Value)(op:Int)(xv:Val)(name:ByteArray)(width:Int)(A:Option Addr)(n c:Nat)(args:List (Ex×Int))(w:World)(sx:gp < w.heap.size)(Zc:w.cell? ⟨gp,8,none⟩=some cV)(hn:args.length=n)(hl:n<=1599289640356)(hA:RE w w.heap.size A (args.map (·.1)))(hE:∀a∈args,oJ w cV a.1 a.2 0):
  ar 153 #[aw gp,.agg #[ag op,ag xv.k,af xv.n,.string xv.s,.string name,af width,.slice A n c]] w λ en w'=>en=.returned (.tuple #[ag (jG op (args.map (·.2))).1,af (jG op (args.map (·.2))).2])/\aj w w':=by have HN:=aa hn;clear hn;obtain⟨rt,hrt⟩:∃rt,rt=jG op (args.map (·.2)):=⟨_,rfl⟩;rw[<- hrt];have Ld:=aa hrt;clear hrt;open zdo in exact Zbj
def fV (cols:List aW)(op:Int)(args:List Tr):Int×Int:=
 if gP (Tr.types cols args)≠0 then(0,gP (Tr.types cols args))else jG op ((Tr.types cols args).map (·.1))
variable{CA:Option Addr}{cc:Nat}
theorem Tr.Le{cols:List aW}  (cf:cols.length<=140737488355328)(gp:Nat):∀(t:Tr) (y:Ex) (w:World),t.ok->t.at_ w (Old w) y->RC w w.heap.size CA cols->gp < w.heap.size->w.cell? ⟨gp,8,none⟩=some (.slice CA cols.length cc)->
  ar 153 #[aw gp,mn y] w λ e w'=>e=.returned (.tuple #[ag (fV cols t.op t.args).1,af (fV cols t.op t.args).2])/\aj w w'
 | .mk op v name width ts,y,w,aZ,hat,hC,sx,Zc=>by
   unfold Tr.at_ at hat;obtain⟨h1,h2,h3,h4,h5,ys,h6,h7⟩:=hat;unfold Tr.ok at aZ;obtain⟨l,ft,hl2,tT⟩:=Tr.Bh cols CA cc cf ts ys w aZ.2.2.2.2.2 h7 hC;obtain⟨JL,yv,kS,gO,yA,yn,yc⟩:=y;dsimp only at h1 h2 h3 h4 h5 h6;subst h1 h2 h3 h4 h5;have hlen:l.length=ts.length:=by
    have:(l.map (·.1)).length=ys.length:=by rw[ft]
    rw[length_map,h7.length] at this;exact this
   have hA:RE w w.heap.size yA (l.map (·.1)):=by rw[ft];exact h6.old
   have hn:=aZ.2.1;show ar 153 #[aw gp,.agg #[ag JL,ag yv.k,af yv.n,.string yv.s,.string kS,af gO,.slice yA ts.length yc]] w λ e w'=>e=.returned (.tuple #[ag (fV cols JL ts).1,af (fV cols JL ts).2])/\aj w w'
   unfold fV;rw[<- hl2];rcases oL l with h0 |⟨pre,bad,post,rfl,Ee,jV⟩
   ·have hf:gP (l.map (·.2))=0:=qR λ a ha=>by obtain⟨z,hz,rfl⟩:=List.mem_map.1 ha;exact h0 z hz
    rw[if_neg (by rw[hf];decide)];have k:=Uv gp (.slice CA cols.length cc) JL yv kS gO yA ts.length yc (l.map λ a=>(a.1,a.2.1)) w sx Zc (by rw[length_map];exact hlen) hn Tat (λ a ha=>by
     obtain⟨z,hz,rfl⟩:=List.mem_map.1 ha
     have:=tT z hz
     rw[h0 z hz] at this
     exact this)
    have hm:(l.map λ a=>(a.1,a.2.1)).map (·.2)=(l.map (·.2)).map (·.1):=by simp[Function.comp_def]
    rw[hm] at k;exact k
   ·have hbE:=tT bad Tac;have hf:gP ((pre++bad::post).map (·.2))=bad.2.2:=by rw[map_append,map_cons];exact xi (λ a ha=>by obtain⟨z,hz',rfl⟩:=List.mem_map.1 ha;exact Ee z hz') jV
    rw[if_pos (by rw[hf];exact jV),hf];exact Us gp (.slice CA cols.length cc) JL yv kS gO yA ts.length yc (pre.map λ a=>(a.1,a.2.1)) bad.1 bad.2.1 bad.2.2 (post.map (·.1)) w sx Zc (by rw[<- hlen];simp;omega) hn Tat (λ a ha=>by
     obtain⟨z,hz',rfl⟩:=List.mem_map.1 ha
     have:=tT z (by simp[hz'])
     rw[Ee z hz'] at this
     exact this) hbE jV
def Qy.all (q:Qy):List Tr:=q.items.map (·.1)++(q.bT++q.aL++q.fq)++q.ord.map (·.1)
def Eh (k:Nat):Tr:=.mk 2 aN (jb k) 0 []
structure dy where
 aJ:List Tr
 aL:List aW
def qV (cols:List aW)(v:Val)(name:ByteArray)(width:Int)(n:Nat):Int:=
 let e:=(Tr.type cols (.mk 2 v name width (List.replicate n (.mk 1 aN ByteArray.empty 0 [])))).2
 if e≠0 then e else 42
mutual
def Tr.turn (aL:List Tr)(cols:List aW):Tr->dy->Except Int (Tr×dy)
 | .mk op v name width args,s=>
   match aL.findIdx? (λ g=>g.same (.mk op v name width args))with
   | some k=> .ok (Eh k,s)
   | none=>
     if isAgg op=true then
      if (fV cols op args).2≠0 then .error (fV cols op args).2
      else .ok (Eh s.aL.length,⟨s.aJ++ [.mk op v name width args],s.aL++ [⟨jb s.aL.length,(fV cols op args).1⟩]⟩)
     else match Tr.turns aL cols args s with
      | .error e=> .error e
      | .ok (ys,s')=>
        if op=2 then .error (qV cols v name width ys.length)
        else if ((Tr.mk op v name width ys).type s'.aL).2≠0 then .error ((Tr.mk op v name width ys).type s'.aL).2
        else .ok (.mk op v name width ys,s')
def Tr.turns (aL:List Tr)(cols:List aW):List Tr->dy->Except Int (List Tr×dy)
 | [],s=> .ok ([],s)
 | t::ts,s=>match Tr.turn aL cols t s with
   | .error e=> .error e
   | .ok (y,s')=>match Tr.turns aL cols ts s' with
     | .error e=> .error e
     | .ok (ys,Lf)=> .ok (y::ys,Lf)
end
def oV (g:Bool)(aL:List Tr)(cols:List aW)(t:Tr)(s:dy):Except Int (Tr×Int×dy):=
 if g=false then(if (t.type cols).2≠0 then .error (t.type cols).2 else .ok (t,(t.type cols).1,s))
 else match t.turn aL cols s with
  | .error e=> .error e
  | .ok (y,s')=>if (y.type s'.aL).2≠0 then .error (y.type s'.aL).2 else .ok (y,(y.type s'.aL).1,s')
structure ib where
 aK:Bool
 head:List aW
 st:dy
 items:List Tr
 having:List Tr
 order:List Tr
def oX (cols:List aW):List Tr->Except Int Unit
 | []=> .ok ()
 | t::ts=>if nr (t.type cols)≠0 then .error (nr (t.type cols))else oX cols ts
def kI (cols:List aW):List Tr->Nat->Except Int (List aW)
 | [],_=> .ok []
 | t::ts,k=>if (t.type cols).2≠0 then .error (t.type cols).2 else match kI cols ts (k+1)with
   | .error e=> .error e
   | .ok l=> .ok (⟨jb k,(t.type cols).1⟩::l)
def ie (t:Tr)(nm:ByteArray):ByteArray:=if nm.size=0/\t.op=2 then t.name else nm
def dm (g:Bool)(aL:List Tr)(cols:List aW):List (Tr×ByteArray)->dy->Except Int (List Tr×List aW×dy)
 | [],s=> .ok ([],[],s)
 |(t,nm)::l,s=>match oV g aL cols t s with
  | .error e=> .error e
  | .ok (y,k,s')=>match dm g aL cols l s' with
    | .error e=> .error e
    | .ok (ys,hd,Lf)=> .ok (y::ys,⟨ie t nm,k⟩::hd,Lf)
def dA (g:Bool)(aL:List Tr)(cols:List aW):List Tr->dy->Except Int (List Tr×dy)
 | [],s=> .ok ([],s)
 | t::l,s=>match oV g aL cols t s with
   | .error e=> .error e
   | .ok (y,k,s')=>if cg k 1=false then .error 40 else match dA g aL cols l s' with
     | .error e=> .error e
     | .ok (ys,Lf)=> .ok (y::ys,Lf)
def eu (g:Bool)(aL:List Tr)(cols:List aW):List (Tr×Bool)->dy->Except Int (List Tr×dy)
 | [],s=> .ok ([],s)
 |(t,_)::l,s=>match oV g aL cols t s with
  | .error e=> .error e
  | .ok (y,_,s')=>match eu g aL cols l s' with
    | .error e=> .error e
    | .ok (ys,Lf)=> .ok (y::ys,Lf)
def dn (q:Qy)(cols:List aW):Except Int ib:=
 if 1 < q.bT.length\/1 < q.fq.length\/1 < q.lim.length\/(q.lim.length=1/\q.lim.getD 0 0 < 0)then .error 1
 else if q.all.any (λ t=>decide (32 < t.depth))=true then .error 1
 else match oX cols q.bT with
 | .error e=> .error e
 | .ok _=>match kI cols q.aL 0 with
 | .error e=> .error e
 | .ok gc=>if q.items=[]/\q.aK=true then .error 42
 else match dm q.aK q.aL cols q.items ⟨[],gc⟩with
 | .error e=> .error e
 | .ok (is,hd,s1)=>match dA q.aK q.aL cols q.fq s1 with
 | .error e=> .error e
 | .ok (hs,s2)=>match eu q.aK q.aL cols q.ord s2 with
 | .error e=> .error e
 | .ok (os,s3)=> .ok ⟨q.aK,if q.items=[] then cols else hd,s3,is,hs,os⟩
def bB (cols:List aW)(row:List Val)(l:List Tr):Except Int (List Val):=
 if cM (Tr.iO cols row l)≠0 then .error (cM (Tr.iO cols row l))else .ok ((Tr.iO cols row l).map (·.1))
def dz (cols:List aW)(l:List Tr)(row:List Val):Bool×Int:=match l with
 | []=>(true,0)
 | t::_=>vu (t.eval cols row)
def bZ (cols:List aW)(l:List Tr)(rows:List (List Val)):List (List Val)×Int:=
 (rows.filter λ r=>(dz cols l r).2==0 &&(dz cols l r).1,cO (rows.map λ r=>(dz cols l r).2))
def FI (c:aW)(v:Val):Bool:=good v &&(v.k==0 || v.k==c.t)
def fJ:List aW->List Val->Bool
 | [],[]=>true
 | c::cs,v::vs=>FI c v && fJ cs vs
 | _,_=>false
noncomputable def gF (s:St):Val×Int:=open Classical in if h:∃r:Val×Int,gI s r.1 r.2/\r.1.Ok then Classical.choose h else if h:∃r:Val×Int,gI s r.1 r.2 then Classical.choose h else(aN,0)
theorem Ip{s:St}(h:∃v e,gI s v e):gI s (gF s).1 (gF s).2:=by
 obtain⟨v,e,hv⟩:=h;have h':∃r:Val×Int,gI s r.1 r.2:=⟨(v,e),hv⟩;by_cases h2:∃r:Val×Int,gI s r.1 r.2/\r.1.Ok
 ·unfold gF;rw[dif_pos h2];exact(Classical.choose_spec h2).1
 ·unfold gF;rw[dif_neg h2,dif_pos h'];exact Classical.choose_spec h'
theorem abP{s:St}(h:∃v e,gI s v e/\v.Ok):(gF s).1.Ok:=by obtain⟨v,e,hv⟩:=h;have h':∃r:Val×Int,gI s r.1 r.2/\r.1.Ok:=⟨(v,e),hv⟩;unfold gF;rw[dif_pos h'];exact(Classical.choose_spec h').2
def gS:List Tr->List Val->List (Val×Val)
 | [],_=> []
 | t::ts,l=>(if 0 < t.args.length then l.getD 0 aN else aN,if 1 < t.args.length then l.getD 1 aN else aN)::gS ts (l.drop t.args.length)
def iR (l:List (List Val)):List (List Val):=yH cH l
def pX (i:Nat)(l:List (List Val×List (Val×Val)))(k:List Val):List (Val×Val):=(l.filter λ r=>cH r.1 k==0).map λ r=>r.2.getD i (aN,aN)
noncomputable def dR (ops:List Int) (l:List (List Val×List (Val×Val))) (k:List Val):List (Val×Int):=(List.range ops.length).map λ i=>gF (kU (ops.getD i 0) (pX i l k))
noncomputable def jO (ng:Nat) (aJ:List Tr) (l:List (List Val)):Except Int (List (List Val)):=
 let ps:=l.map λ r=>(r.take ng,gS aJ (r.drop ng))
 let ks:=if ng=0 then [[]] else iR (ps.map (·.1))
 let e:=cO (ks.map λ k=>cM (dR (aJ.map Tr.op) ps k))
 if e≠0 then .error e else .ok (ks.map λ k=>k++(dR (aJ.map Tr.op) ps k).map (·.1))
variable{α:Type}
def Ei(l:List (Except Int α)):Except Int (List α):=
 if cO (l.map λ | .error e=>e | .ok _=>0)≠0 then .error (cO (l.map λ | .error e=>e | .ok _=>0))else .ok (l.filterMap λ | .ok x=>some x | .error _=>none)
structure fC where
 row:List Val
 keys:List Val
def Zh (d:Bool)(a b:Val):Int:=if d=true then -(bM a b)else bM a b
def vI:List Bool->List Val->List Val->Int
 | [],_,_=>0
 | d::ds,a,b=>ou (Zh d (a.headD aN) (b.headD aN)) (vI ds a.tail b.tail)
def BD (ds:List Bool)(a b:fC):Int:=ou (vI ds a.keys b.keys) (cH a.row b.row)
def mO (ds:List Bool)(l:List fC):List fC:=YZ (BD ds) l
noncomputable def pS (q:Qy) (p:ib) (cols:List aW) (rows:List (List Val)):Except Int (List (List Val)):=
 if (bZ cols q.bT rows).2≠0 then .error (bZ cols q.bT rows).2
 else if p.aK=false then .ok (bZ cols q.bT rows).1
 else match Ei ((bZ cols q.bT rows).1.map λ r=>bB cols r (q.aL++p.st.aJ.flatMap Tr.args))with
 | .error e=> .error e
 | .ok l=>match jO q.aL.length p.st.aJ l with
   | .error e=> .error e
   | .ok gs=>if (bZ p.st.aL p.having gs).2≠0 then .error (bZ p.st.aL p.having gs).2 else .ok (bZ p.st.aL p.having gs).1
def iT (p:ib)(cols:List aW):List aW:=if p.aK=true then p.st.aL else cols
def Sb (p:ib)(r l:List Val):fC:=⟨if p.items=[] then r else l.take p.items.length,l.drop p.items.length⟩
noncomputable def xx (p:ib) (cols:List aW) (rows:List (List Val)):Except Int (List fC):=
 Ei (rows.map λ r=>match bB (iT p cols) r (p.items++p.order)with | .error e=> .error e | .ok l=> .ok (Sb p r l))
noncomputable def iD (q:Qy) (cols:List aW) (rows:List (List Val)):Except Int (List aW×List (List Val)):=
 match dn q cols with
 | .error e=> .error e
 | .ok p=>if rows.any (λ r=> !fJ cols r)=true then .error 40
   else match pS q p cols rows with
   | .error e=> .error e
   | .ok left=>match xx p cols left with
     | .error e=> .error e
     | .ok ls=> .ok (p.head,((match q.lim with | []=>mO (q.ord.map λ o:Tr×Bool=>o.2) ls | n::_=>(mO (q.ord.map λ o:Tr×Bool=>o.2) ls).take n.toNat).map fC.row))
def abQ (gb:Nat)(b e:Int)(w:World)(en:Ending)(w':World):Prop:=en=.returned (.bool (e==0))/\aB w' gb 84 #[af (jo b e)]/\w.grownBy w' (some gb)
theorem BF{b:Int}:jo b 0=b:=if_neg (λ h=>h.1 rfl)
theorem Zi(h:e≠0):jo 0 e=e:=if_pos ⟨h,.inl rfl⟩
theorem Uz{b:Int}(h:e≠0)(hb:b≠0):jo b e=if e < b then e else b:=by
 unfold jo;by_cases h1:e < b
 ·rw[if_pos ⟨h,.inr h1⟩,if_pos h1]
 ·rw[if_neg (λ h2=>h2.2.elim hb h1),if_neg h1]
theorem vJ (gb:Nat)(b e:Int)(w:World)(h:aB w gb 84 #[af b]):ar 36 #[aw gb,af e] w (abQ gb b e w):=by
 have hg:=aR (p:=gb) (Below.refl w.heap.size w);have hc:=h.cell 0;have hf:=h.frozen 0;simp only[getElem?_toArray,getElem?_cons_zero] at hc;by_cases h0:e=0
 ·subst h0;have H:=aa h;clear h;go_enter Tryz.func36,Tryz.ntmps36;go_wp2_with fail;go_ret;exact⟨rfl,by rw[BF];exact H.ae,hg⟩
 have t1:(e==0)=false:=by simp[h0]
 have t2:(e != 0)=true:=by simp[h0]
 have t3:decide (e=0)=false:=by simp[h0]
 by_cases hb:b=0
 ·subst hb;have H:=aa h;have HP:=aa (Zi h0);have T1:=aa t1;clear h h0;exact ZeZ
 have u1:(b==0)=false:=by simp[hb]
 have u3:decide (b=0)=false:=by simp[hb]
 have hp:=Uz h0 hb;by_cases hl:e < b
 ·rw[if_pos hl] at hp;have v1:=decide_eq_true hl;have H:=aa h;have HP:=aa hp;have T1:=aa t1;clear h h0 hb hp hl;exact ZeZ
 ·rw[if_neg hl] at hp;have v1:=decide_eq_false hl;have H:=aa h;have HP:=aa hp;have T1:=aa t1;clear h h0 hb hp hl;go_enter Tryz.func36,Tryz.ntmps36;go_wp2_with fail;go_ret;exact⟨by rw[T1.ae];rfl,by rw[HP.ae];exact H.ae,hg⟩
def bX (r:aX):List Value:=[.slice r.A r.l.length r.c]
variable{base base':Nat}
theorem aF.down{f:α->List Value} {e:TypeId} {size:Nat} {w:World}  {v:Value} {l:List α}(h:aF f e size w base v l)(hb:base'<=base):aF f e size w base' v l:=by
 obtain⟨h1,h2⟩:=h;refine⟨h1,?_⟩;rcases h2 with h2 |⟨g,cap,cur,h3,h4,h5⟩
 ·exact .inl h2
 ·exact .inr ⟨g,cap,cur,h3,Nat.le_trans hb h4,h5⟩
theorem nR:(Tryz.prog.info? 38).map (λ i=>(i.zero,i.size,i.bytes))=some (some (az),1,24):=by exact Zgn
def fK (f:List Val->Bool×Int)(rs:List aX):List aX:=rs.filter λ r=>(f r.l).2==0 &&(f r.l).1
theorem tZ (f:List Val->Bool×Int)(rs:List aX)(r:aX):fK f (rs++ [r])=fK f rs++(if ((f r.l).2==0 &&(f r.l).1)=true then [r] else []):=by unfold fK;rw[filter_append];congr 1;rw[filter_cons];rfl
theorem qW (l:List Int)(e:Int):cO (l++ [e])=jo (cO l) e:=by unfold cO;rw[foldl_append];rfl
variable{wr w2:World}
theorem dS{w:World} {g:Nat}(h:aj w wr)(hg:wr.grownBy w2 (some g))(hB:w.heap.size<=g):aj w w2:=
 h.trans ⟨hg.os,hg.tape,hg.output,hg.size,λ k hk=>hg.block k (Nat.lt_of_lt_of_le hk h.size) (λ e=>by injection e with e;omega)⟩
def abR (kv:Value)(gb:Nat)(le:Int):Nat->World->Value->Prop
 | 0,_,v=>v=kv
 | 1,_,v=>v=aw gb
 | 2,_,v=>v=af le
 | 3,_,v=>v=kv
 | 4,_,v=>v=af le
 | _,_,_=>False
theorem BG (kv:Value)(gb:Nat)(le:Int):∀i w w' v,abR kv gb le i w v->ai w w'->abR kv gb le i w' v:=by exact ZgB
theorem zhR.Kcc(h:p:=by have Iq:=ai.then hb hL;have HK5:=JW.ae.later hL;go_wp2_with fail;exact bodyPost_ret (v:=.tuple #[u9,af FJ]) (by simp[results,Tryz.results32,go_sem]) rfl ⟨_,by rw[UC.ae],HK5.down (Nat.le_of_lt HS0.ae),Iq⟩):p:=h
theorem Zj (lV cV:Value)(f:List Val->Bool×Int)(rows:List aX)(RA:Option Addr)(rc:Nat)(w:World)(hr:rows.length<=1000000)(hR:RR w w.heap.size RA rows)
  (hT:∀r∈rows,∀W1,aj w W1->ar 16 #[lV,cV,.slice r.A r.l.length r.c] W1 λ e w'=>e=.returned (.tuple #[.bool (f r.l).1,af (f r.l).2])/\aj W1 w'):
  ar 32 #[lV,cV,.slice RA rows.length rc] w λ e w'=>∃v,e=.returned (.tuple #[v,af (cO (rows.map λ r=>(f r.l).2))])/\aF bX 38 1 w' w.heap.size v (fK f rows)/\aj w w':=by
 have HR:=aa hR;have HT:=aa hT;clear hR hT;have HX:=aB.new w 84 #[af 0];have h2:=ah w (.cells #[af 0] 84);have HS0:=aa (show w.heap.size <(w.alloc (.cells #[af 0] 84)).heap.size by rw[World.size_alloc];omega);go_enter Tryz.func32,Tryz.ntmps32;go_upto_region 2 with fail;generalize w.alloc _=W1 at*;obtain⟨g,hg⟩:∃g,g=w.heap.size:=⟨_,rfl⟩;rw[<- hg] at HX ⊢;have vU:=aa hg;clear hg;have H1:=aa HX;have H2:=aa h2;clear HX h2;go_wp2_with fail;go_loopw [9,16] (λ kv i wr=>∃k:Nat,k<=rows.length/\i=af k/\aF bX 38 1 wr W1.heap.size kv (fK f (rows.take k))/\aB wr g 84 #[af (cO ((rows.take k).map λ r=>(f r.l).2))]/\aj w wr/\W1.heap.size<=wr.heap.size) (λ _ i _=>rows.length - (intOf i).toNat);case atStart=>exact⟨0,Nat.zero_le _,rfl,aF.nil,H1.ae,H2.ae,Nat.le_refl _⟩
 case round=>
  clear H1 H2;obtain⟨k,hk,rfl,hK,hL,hb,hs⟩:=hrel;have JW:=aa hK;have Q3:=aa hL;clear hK hL;by_cases hlt:k < rows.length
  ·obtain⟨b,off,rfl,kz,hcell⟩:=(HR.ae.below hb).at_ hlt;have ht:=HT.ae rows[k] (getElem_mem hlt);have nt:=aa (show rows.take (k+1)=rows.take k++ [rows[k]] by rw[take_add_one,getElem?_eq_getElem hlt];rfl);generalize rows[k]=r at*;have nx:=aa (show fK f (rows.take (k+1))=fK f (rows.take k)++(if ((f r.l).2==0 &&(f r.l).1)=true then [r] else []) by rw[nt.ae,tZ]);have JQ:=aa (show cO ((rows.take (k+1)).map λ r=>(f r.l).2)=jo (cO ((rows.take k).map λ r=>(f r.l).2)) (f r.l).2 by rw[nt.ae,map_append];exact qW _ _);have zu:(fK f (rows.take k)).length<=1000000:=Nat.le_trans (length_filter_le _ _) TaH;generalize fK f (rows.take k)=ks at*;generalize cO ((rows.take k).map λ r=>(f r.l).2)=FJ at*;clear nt;obtain⟨is,alM⟩:∃is,is=(f r.l).1:=⟨_,rfl⟩;obtain⟨er,her⟩:∃er,er=(f r.l).2:=⟨_,rfl⟩;rw[<- alM,<- her] at ht nx;rw[<- her] at JQ;have oH:=aa ht;clear ht alM her;have Zk:=hcell.1;clear hcell;go_wp2_with fail;refine(oH.ae _ hb).mono ?_;rintro e w1 ⟨rfl,hB⟩;have hb1:=ai.then hb hB;replace JW:=aa (JW.ae.later hB);replace Q3:=aa (Q3.ae.later hB);replace hs:=Nat.le_trans hs hB.size;clear hB oH Zk hb;go_wp2_with fail;refine(vJ g FJ er _ Q3.ae).mono ?_;rintro e W2 ⟨rfl,hl2,hg2⟩;have hne:=JW.ae.other Q3.ae Taa;replace JW:=aa (JW.ae.grown hg2 hne);have hb2:=dS hb1 hg2 TaR;replace hs:=Nat.le_trans hs hg2.size;replace Q3:=aa hl2;clear hg2 hne hb1 hl2;by_cases he:er=0
   ·subst he;cases is
    ·go_wp2_with fail;go_roundw;case rel=>exact⟨k+1,hlt,by go_num,by rw[nx.ae];simpa using JW.ae,by rw[JQ.ae];exact Q3.ae,hb2,hs⟩
     case measure=>exact Za0
    ·go_upto_region 8 with fail;have b3:=ah W2 (.cells #[.slice r.A r.l.length r.c] 38);have hG:=aB.new W2 38 #[.slice r.A r.l.length r.c];have hb3:=ai.then hb2 b3
     replace JW:=aa (JW.ae.later b3);replace Q3:=aa (Q3.ae.later b3);have hbase:=Nat.le_trans hs b3.size;have HG:=aa hG;have hne:=JW.ae.other Q3.ae Taa;have nE:=aa hne;have HS:=aa hbase;clear hG b3 hne;go_wp2_with (first
      |(at_builtin
        refine aT rfl (.tmp 32) (.tmp 34) 29 rfl _ 24 Tryz.underlying29 nR rfl WC r rfl Taw rfl JW.ae W2.heap.size rfl HG.ae WC WC hbase ?_
        intro v4 w4 o4 g4
        have b4:=bj JW.ae g4 hbase
        have L4:=aa (Q3.ae.grown g4 (Ne.symm nE.ae))
        have s4:=Nat.le_trans HS.ae g4.size
        have O4:=aa o4
        clear o4 g4 JW HG Q3))
     go_roundw;case rel=>exact⟨k+1,hlt,by go_num,by rw[nx.ae];simpa using O4.ae,by rw[JQ.ae];exact L4.ae,hb3.trans (b4.mono (Nat.le_of_lt HS0.ae)),s4⟩
     case measure=>exact Za0
   ·have t1:(er==0)=false:=by simp[he]
    have T1:=aa t1;clear he;go_wp2_with fail;go_roundw;case rel=>exact⟨k+1,hlt,by go_num,by rw[nx.ae,T1.ae];simpa using JW.ae,by rw[JQ.ae];exact Q3.ae,hb2,hs⟩
    case measure=>exact Za0
  ·have lN:rows.take k=rows:=take_of_length_le WC;rw[lN] at JW Q3;have Ld:=aa (show cO (rows.map λ r=>(f r.l).2)=cO (rows.map λ r=>(f r.l).2)from rfl);generalize hle:cO (rows.map λ r=>(f r.l).2)=FJ at*;clear Ld;have UC:=aa hle;clear hle;go_upto_region 10 with fail;refine bA 5 (abR u9 g FJ) (BG _ _ _) Va Va Va ?_ ?_
   ·exact ZeF
   intro W3 hL;simp only[Uab];rintro a0 - a1 - a2 - a3 q9 FH Uu;replace q9:u9=a3:=Eq.symm q9;open zhR in exact Zgf
def bF (y:Ex):List Value:=[ag y.op,ag y.v.k,af y.v.n,.string y.v.s,.string y.name,af y.width,.slice y.A y.n y.c]
theorem fL:(Tryz.prog.info? 46).map (λ i=>(i.zero,i.size,i.bytes))=some (some (.agg dh),7,88):=by exact Zgn
theorem Zl (n:Nat)(hn:n<=1000000)(w:World):ar 69 #[az,af n] w λ e w'=>∃v,e=.returned v/\aF bF 46 7 w' w.heap.size v []/\aj w w':=by
 have hb:=Below.refl w.heap.size w;by_cases h0:n=0
 ·subst h0;go_enter Tryz.func69,Tryz.ntmps69;go_wp2_with fail;go_ret;exact⟨_,rfl,aF.nil,hb⟩
 obtain⟨i0,kR,hz0,hz1,hz2⟩:=info_parts fL;have hrun:=Lib.run_append_nil_zeros (P:=Tryz.prog) w 23 3 23 46 i0 _ .i64 .i64 Tryz.underlying23 Tryz.underlying3 kR hz0 n WC (by rw[hz1];decide) WC (by rw[hz2];omega);have ve:=grownCap_ge w n 0 46;have hle:=grownCap_le_maxLen w n 0 46 Tam
 have hown:aF bF 46 7 (w.drew.alloc (.cells (Builtin.zeroCells (Value.agg dh).cells n++Builtin.zeroCells (Value.agg dh).cells (grownCap w n 0 46 - n)) 46)) w.heap.size (aI w.heap.size 0 (grownCap w n 0 46)) []:=by
  refine⟨by simp,.inr ⟨w.heap.size,_,_,rfl,Nat.le_refl _,heap_alloc_new w.drew _,Nat.zero_le _,hle,?_,by simp⟩⟩;rw[Array.size_append,size_zeroCells,size_zeroCells];have e:(Value.agg dh).cells.size=7:=by kernel_rfl
  rw[e,<- Nat.add_mul];congr 1;omega
 have hb2:aj w (w.drew.alloc (.cells (Builtin.zeroCells (Value.agg dh).cells n++Builtin.zeroCells (Value.agg dh).cells (grownCap w n 0 46 - n)) 46)):=hb.drew.alloc (Nat.le_refl _) _;generalize World.alloc w.drew _=W at*;generalize grownCap w n 0 46=cp at*;have hnp:decide ((0:Int)<(n:Int))=true:=decide_eq_true WC;have aAg:decide (0 < n)=true:=decide_eq_true WC;have asR:=aa hrun;have asS:=aa hown;have fG:=aa hb2;clear hrun hown hb2 h0 hb;go_enter Tryz.func69,Tryz.ntmps69;go_wp2_with (first
  |(at_builtin
    refine Lib.wpList_append_run _ rfl (.tmp 20) (.tmp 21) 23 3 rfl _ _ rfl rfl _ _ asR.ae ?_))
 go_ret;exact⟨_,rfl,asS.ae,fG.ae⟩
end Go.Proofs.YtndgjggokjickaaGreatDoor
namespace Go.Proofs.YtndgjggokjickaaGreatDoor.R
open List
variable{p:Prop}
set_option maxHeartbeats 90000000
set_option maxRecDepth 100000
set_option linter.unusedSimpArgs false
set_option linter.unusedVariables false
def fM (c:UInt8):Bool:=(decide (97<=c)&& decide (c<=122))||(decide (65<=c)&& decide (c<=90))|| c==95
def bC (c:UInt8):Bool:=decide (48<=c)&& decide (c<=57)
def eQ (c:UInt8):Bool:=fM c || bC c
def qX (c:UInt8):Bool:=c==32 || c==9 || c==10 || c==13
def Ir (c:UInt8):Bool:=decide (65<=c)&& decide (c<=90)
def vK (c:UInt8):UInt8:=if Ir c then c+32 else c
def cy:Bool->List UInt8->List UInt8
 | _,[]=> []
 | true,c::r=>if c=10 then cy false r else cy true r
 | false,c::r=>if qX c then cy false r else if c=45/\r.head?=some 45 then cy true r else c::r
def lj (l:List UInt8):Nat:=l.foldl (λ v c=>v*10+(c.toNat - 48)) 0
def vL (l:List UInt8):Bool:=(decide (l.length<=1)|| !(l.head?==some 48))&& decide (lj l<=9223372036854775807)
def fN:List UInt8->Option (List UInt8×List UInt8)
 | []=>none
 | [c]=>if c=39 then some ([],[])else none
 | c::d::r=>if c=39 then(if d=39 then(fN r).map λ x=>(39::x.1,x.2)else some ([],d::r))else(fN (d::r)).map λ x=>(c::x.1,x.2)
def signs:List (List UInt8):=[[60,62],[60,61],[62,61],[40],[41],[44],[42],[43],[45],[47],[37],[61],[60],[62],[59]]
def kJ:List (List UInt8)->List UInt8->Option (List UInt8)
 | [],_=>none
 | s::l,r=>if s.isPrefixOf r then some s else kJ l r
structure Wd where
 k:Nat
 s:List UInt8
 n:Int
deriving DecidableEq
structure qY where
 w:Wd
 p:Nat
deriving DecidableEq
def ij:List UInt8->Except Nat (Wd×List UInt8)
 | []=> .error 30
 | c::r=>
   if fM c then(if ((c::r).takeWhile eQ).length<=32 then .ok (⟨1,((c::r).takeWhile eQ).map vK,0⟩,(c::r).dropWhile eQ)else .error 2)
   else if bC c then(if vL ((c::r).takeWhile bC)&& !(((c::r).dropWhile bC).head?.any fM)then .ok (⟨2,[],lj ((c::r).takeWhile bC)⟩,(c::r).dropWhile bC)else .error 30)
   else if c=39 then(match fN r with
    | some (t,rest)=> .ok (⟨3,t,0⟩,rest)
    | none=> .error 30)
   else match kJ signs (c::r)with
    | some s=> .ok (⟨4,s,0⟩,(c::r).drop s.length)
    | none=> .error 30
def xy (n:Nat):Nat->List UInt8->Except (Nat×Nat) (List qY)
 | 0,_=> .error (0,30)
 | f+1,r=>match cy false r with
   | []=> .ok [⟨⟨0,[],0⟩,n⟩]
   | c::r'=>match ij (c::r')with
     | .error e=> .error (n - (c::r').length,e)
     | .ok (w,rest)=>match xy n f rest with
       | .error e=> .error e
       | .ok l=> .ok (⟨w,n - (c::r').length⟩::l)
def zK (s:List UInt8):Except (Nat×Nat) (List qY):=if 4096 < s.length then .error (0,2)else xy s.length (s.length+1) s
def ny:List (List UInt8):=[[97,110,100],[97,115],[98,121],[99,97,108,108],[99,114,101,97,116,101],[100,101,108,101,116,101],[100,101,115,99],[100,114,111,112],[102,97,108,115,101],[102,114,111,109],[103,114,111,117,112],[104,97,118,105,110,103],[105,110,115,101,114,116],[105,110,116,111],[105,115],[108,105,109,105,116],[110,111,116],[110,117,108,108],[111,110,108,121],[111,114],[111,114,100,101,114],[115,101,108,101,99,116],[115,101,116],[116,114,117,101],[117,112,100,97,116,101],[118,97,108,117,101,115],[119,104,101,114,101]]
def sY (s:List UInt8):Bool:=ny.contains s
theorem jY:∀(b:Bool) (r:List UInt8),(cy b r).length<=r.length
 | _,[]=>by simp[cy]
 | true,c::r=>by have h1:=jY false r;have h2:=jY true r;simp only[cy];split <;> simp only[length_cons] <;> omega
 | false,c::r=>by
   have h1:=jY false r;have h2:=jY true r;simp only[cy];split
   ·simp only[length_cons];omega
   ·split <;> simp only[length_cons] <;> omega
theorem qZ:∀(r:List UInt8) (t rest:List UInt8),fN r=some (t,rest)->∃b,r=b++rest/\b≠ []
 | [],t,rest,h=>by simp[fN] at h
 | [c],t,rest,h=>by
   simp only[fN] at h;split at h
   ·rename_i hc;injection h with h;injection h with h1 h2;subst h1 h2 hc;exact⟨[39],rfl,by simp⟩
   ·cases h
 | c::d::r,t,rest,h=>by
   simp only[fN] at h;split at h
   ·rename_i hc;subst hc;split at h
    ·rename_i hd;subst hd;cases hr:fN r with
     | none=>rw[hr] at h;cases h
     | some x=>obtain⟨t',rest'⟩:=x;rw[hr] at h;simp only[Option.map_some,Option.some.injEq,Prod.mk.injEq] at h;obtain⟨rfl,rfl⟩:=h;obtain⟨b,hb,_⟩:=qZ r t' _ hr;exact⟨39::39::b,by rw[hb];rfl,by simp⟩
    ·injection h with h;injection h with h1 h2;subst h1 h2;exact⟨[39],rfl,by simp⟩
   ·cases hr:fN (d::r)with
    | none=>rw[hr] at h;cases h
    | some x=>obtain⟨t',rest'⟩:=x;rw[hr] at h;simp only[Option.map_some,Option.some.injEq,Prod.mk.injEq] at h;obtain⟨rfl,rfl⟩:=h;obtain⟨b,hb,_⟩:=qZ (d::r) t' _ hr;exact⟨c::b,by rw[hb];rfl,by simp⟩
theorem rb:∀ {l:List (List UInt8)} {r s:List UInt8},kJ l r=some s->s∈l/\s <+: r
 | [],r,s,h=>by simp[kJ] at h
 | x::l,r,s,h=>by
   simp only[kJ] at h;split at h
   ·rename_i hp;injection h with h;subst h;exact⟨mem_cons_self,by simpa using hp⟩
   ·obtain⟨h1,h2⟩:=rb h;exact⟨mem_cons_of_mem _ h1,h2⟩
variable{r rest:List UInt8}
theorem BH{w:Wd}(h:ij r=.ok (w,rest)):∃b,r=b++rest/\b≠ []:=by
 match r with
 | []=>simp[ij] at h
 | c::r=>
   simp only[ij] at h;split at h
   ·rename_i hc;split at h
    ·injection h with h;injection h with h1 h2;subst h1 h2;refine⟨_,(takeWhile_append_dropWhile (p:=eQ)).symm,?_⟩;have:eQ c=true:=by simp[eQ,hc]
     simp[takeWhile_cons,this]
    ·cases h
   ·split at h
    ·rename_i hc;split at h
     ·injection h with h;injection h with h1 h2;subst h1 h2;refine⟨_,(takeWhile_append_dropWhile (p:=bC)).symm,?_⟩;simp[takeWhile_cons,hc]
     ·cases h
    ·split at h
     ·split at h
      ·rename_i t rest' ht;injection h with h;injection h with h1 h2;subst h1 h2;obtain⟨b,hb,_⟩:=qZ _ _ _ ht;exact⟨c::b,by rw[hb];rfl,by simp⟩
      ·cases h
     ·split at h
      ·rename_i s hs;injection h with h;injection h with h1 h2;subst h1 h2;obtain⟨h1,t,h2⟩:=rb hs;refine⟨s,?_,?_⟩
       ·rw[<- h2];simp
       ·intro e;subst e;revert h1;decide
      ·cases h
theorem Am{w:Wd}(h:ij r=.ok (w,rest)):rest.length < r.length:=by obtain⟨b,rfl,hb⟩:=BH h;have:0 < b.length:=List.length_pos_iff.2 hb;simp;omega
theorem FK (n:Nat):∀(f g:Nat) (r:List UInt8),r.length < f->r.length < g->xy n f r=xy n g r
 | 0,_,_,h,_=>by omega
 | _,0,_,_,h=>by omega
 | f+1,g+1,r,hf,hg=>by
   have hs:=jY false r;simp only[xy];cases hk:cy false r with
   | nil=>rfl
   | cons c r'=>
     rw[hk] at hs;simp only;cases ho:ij (c::r')with
     | error e=>rfl
     | ok x=>obtain⟨w,rest⟩:=x;have:=Am ho;simp only;rw[FK n f g rest WC WC]
structure Val where
 k:Int
 n:Int
 s:ByteArray
inductive Tr where
 | mk (op:Int) (v:Val) (name:ByteArray) (width:Int) (args:List Tr)
def jH:Val:=⟨0,0,ByteArray.empty⟩
def Ao (op:Int)(l:List Tr):Tr:=.mk op jH ByteArray.empty 0 l
def sZ (v:Val):Tr:=.mk 1 v ByteArray.empty 0 []
def ua (n:ByteArray):Tr:=.mk 2 jH n 0 []
def agX:List UInt8:=[111,114]
def Zm:List UInt8:=[97,110,100]
def Zn:List UInt8:=[110,111,116]
def abS:List UInt8:=[105,115]
def Zo:List UInt8:=[110,117,108,108]
def OM:List UInt8:=[116,114,117,101]
def Ap:List UInt8:=[102,97,108,115,101]
def fk:List UInt8:=[115,101,108,101,99,116]
def xz:List UInt8:=[102,114,111,109]
def agY:List UInt8:=[111,110,108,121]
def Iu:List UInt8:=[119,104,101,114,101]
def Aq:List UInt8:=[103,114,111,117,112]
def OO:List UInt8:=[98,121]
def Zp:List UInt8:=[104,97,118,105,110,103]
def Iw:List UInt8:=[111,114,100,101,114]
def Ix:List UInt8:=[108,105,109,105,116]
def OQ:List UInt8:=[100,101,115,99]
def abT:List UInt8:=[97,115]
def BI:List UInt8:=[98,117,99,107,101,116]
def Iy:List UInt8:=[99,111,117,110,116]
def Zq:List UInt8:=[115,117,109]
def aeR:List UInt8:=[109,105,110]
def aeS:List UInt8:=[109,97,120]
def aeT:List UInt8:=[97,118,103]
def Sc:List UInt8:=[102,105,114,115,116]
def Zr:List UInt8:=[108,97,115,116]
def dL:List UInt8:=[44]
def eE:List UInt8:=[40]
def eA:List UInt8:=[41]
def agZ:List UInt8:=[59]
def xA:List UInt8:=[42]
def sy:List UInt8:=[45]
def OS:List UInt8:=[43]
def Iz:List UInt8:=[47]
def xB:List UInt8:=[37]
def alN:List UInt8:=[61]
def alO:List UInt8:=[60,62]
def alP:List UInt8:=[60]
def alQ:List UInt8:=[60,61]
def aha:List UInt8:=[62]
def alR:List UInt8:=[62,61]
structure Qu where
 items:List (Tr×ByteArray):=[]
 bS:ByteArray:=ByteArray.empty
 only:Bool:=false
 bT:List Tr:=[]
 group:List Tr:=[]
 having:List Tr:=[]
 order:List (Tr×Bool):=[]
 dw:List Int:=[]
structure St where
 kind:Int:=0
 name:ByteArray:=ByteArray.empty
 cols:List (ByteArray×Int):=[]
 time:ByteArray:=ByteArray.empty
 every:Int:=0
 space:ByteArray:=ByteArray.empty
 parts:Int:=0
 query:Qu:= {}
 what:Int:=0
 of_:ByteArray:=ByteArray.empty
 a:Int:=0
 b:Int:=0
 rows:List (List Tr):=[]
 ahb:List (ByteArray×Tr):=[]
 bT:List Tr:=[]
 bS:Val:=jH
 eF:Val:=jH
abbrev dH:=List Wd
def Ps (α:Type):Type:=dH->Except Nat (α×dH)
instance:Monad Ps where
 pure x:=λ l=> .ok (x,l)
 bind p f:=λ l=>match p l with
  | .error n=> .error n
  | .ok (x,r)=>f x r
def iV (s:List UInt8)(t:Wd):Bool:=(t.k==1 || t.k==4)&& t.s==s
def dI (s:List UInt8):dH->Bool
 | []=>false
 | t::_=>iV s t
def may (s:List UInt8):Ps Bool:=λ l=>if dI s l then .ok (true,l.tail)else .ok (false,l)
def must (s:List UInt8):Ps Unit:=λ l=>if dI s l then .ok ((),l.tail)else .error l.length
def vM:Ps ByteArray
 | []=> .error 0
 | t::r=>if t.k=1/\sY t.s=false then .ok (⟨t.s.toArray⟩,r)else .error (t::r).length
def IB:Ps Int
 | []=> .error 0
 | t::r=>if t.k=2 then .ok (t.n,r)else .error (t::r).length
def opsL:Nat->List (List UInt8×Int)
 | 0=> [(agX,17)]
 | 1=> [(Zm,16)]
 | 3=> [(alN,10),(alO,11),(alP,12),(alQ,13),(aha,14),(alR,15)]
 | 4=> [(OS,5),(sy,6)]
 | 5=> [(xA,7),(Iz,8),(xB,9)]
 | _=> []
def Zs:List (List UInt8×Int)->dH->Option Int
 | [],_=>none
 |(s,o)::k,l=>if dI s l then some o else Zs k l
def OT:List (List UInt8×Int):=[(BI,20),(Iy,22),(Zq,23),(aeR,24),(aeS,25),(aeT,26),(Sc,27),(Zr,28)]
def lW (n:ByteArray):Option Int:=OT.lookup n.data.toList
mutual
def Tr.depth:Tr->Nat
 | .mk _ _ _ _ args=>Tr.iC args+1
def Tr.iC:List Tr->Nat
 | []=>0
 | t::l=>max t.depth (Tr.iC l)
end
def Qu.exprs (q:Qu):List Tr:=q.items.map (·.1)++q.bT++q.group++q.having++q.order.map (·.1)
def St.exprs (s:St):List Tr:=s.rows.flatten++s.ahb.map (·.2)++s.bT++s.query.exprs
def yM (l:dH):Prop:=∃x e,l=x++ [e]/\e.k=0
variable{t:Wd}
theorem yM.tail{r:dH}(h:yM (t::r))(ht:t.k≠0):yM r:=by
 obtain⟨x,e,hx,he⟩:=h
 match x with
 | []=>simp at hx;exact absurd (hx.1▸he) ht
 | y::x=>simp at hx;exact⟨x,e,hx.2,he⟩
theorem yM.pos{l:dH}(h:yM l):0 < l.length:=by obtain⟨x,e,rfl,_⟩:=h;simp
theorem alS{s:List UInt8} (h:iV s t=true):t.k≠0:=by unfold iV at h;simp at h;omega
theorem Lg{s:List UInt8} {l:dH}(h:dI s l=true):∃t r,l=t::r/\iV s t=true:=by
 match l with
 | []=>simp[dI] at h
 | t::r=>exact⟨t,r,rfl,h⟩
open Go.RowKit
section
variable {w w':World} {g:Nat} {t:TypeId} {cs:Array Value}
theorem _root_.Go.Proofs.YtndgjggokjickaaGreatDoor.aB.drewN (h:aB w g t cs)(n:Nat):aB (w.drewN n) g t cs:=h
end
variable{B:Nat}
theorem dS{p:Nat} {a b:World}(h:a.grownBy b (some p))(hB:B<=a.heap.size)(hp:B<=p):Below B a b:=
 ⟨h.os,h.tape,h.output,h.size,λ k hk=>h.block k WC (λ e=>by injection e with e;omega)⟩
section
variable {α:Type} {f:α->List Value} {e:TypeId} {size:Nat} {w w':World} {base:Nat} {v:Value} {l:List α}
end
section
variable {P:Program} {l zs:List Oper} {Q:Exit->Act->World->Prop} {R:World->World->Prop} {V:Nat->World->Value->Prop} {a0:Act} {w0:World}
end
instance (B:Nat) (w0:World):Nonempty (Ext B w0):=⟨⟨w0,Below.refl _ _⟩⟩
section
variable {P:Program} {o:Oper} {ρ:Operand->Value} {w:World} {T:Value->World->Prop}
end
section
variable {α:Type} {f:α->List Value} {e:TypeId} {size:Nat} {base:Nat} {lv:Value} {l:List α} {y:α}
theorem yN {a b:World}(h:a.grownBy b none):aj a b:=⟨h.os,h.tape,h.output,h.size,λ k hk=>h.block k hk Tac⟩
end
section
variable {P:Program} {l zs:List Oper} {Q:Exit->Act->World->Prop} {R:World->World->Prop} {V:Nat->World->Value->Prop} {U:Nat->World->(Operand->Value)->Prop} {a0:Act} {w0:World}
end
open Go.ChangeShapes Go.WideShapes Go.ChangeAt
theorem jN{w:World} {p:Addr} {v:Value}(h:w.cell? p=some v):p.block < w.heap.size:=by
 rcases Nat.lt_or_ge p.block w.heap.size with hlt | ve
 ·exact hlt
 ·unfold World.cell? at h;rw[Array.getElem?_eq_none ve] at h;simp at h
def strOf (l:List UInt8):Value:=.string ⟨l.toArray⟩
variable{α:Type}
theorem xC{f:α->List Value} {size:Nat}(hf:∀x,(f x).length=size):∀(l:List α) (k:Nat) (x:α),l[k]?=some x->∀r u,(f x)[r]?=some u->(l.flatMap f)[k*size+r]?=some u
 | [],k,x,h,_,_,_=>by simp at h
 | y::l,0,x,h,r,u,hu=>by
   simp at h;subst h;have hr:r <(f y).length:=by
    rcases Nat.lt_or_ge r (f y).length with h' | h'
    ·exact h'
    ·rw[getElem?_eq_none h'] at hu;cases hu
   rw[Nat.zero_mul,Nat.zero_add,flatMap_cons,getElem?_append_left hr];exact hu
 | y::l,k+1,x,h,r,u,hu=>by have:=xC hf l k x Tak r u hu;rw[flatMap_cons,getElem?_append_right (by rw[hf,Nat.succ_mul];omega),hf];rw[show(k+1)*size+r - size=k*size+r by rw[Nat.succ_mul];omega];exact this
section
variable {α:Type} {f:α->List Value} {e:TypeId} {size:Nat} {w w':World} {base:Nat} {v:Value} {l:List α}
theorem _root_.Go.Proofs.YtndgjggokjickaaGreatDoor.aF.cell (hf:∀x,(f x).length=size)(h:aF f e size w base v l) {k:Nat} {x:α}(ho:l[k]?=some x):
  ∃g c,v=aI g l.length c/\base<=g/\g < w.heap.size/\∀r u,(f x)[r]?=some u->w.cell? ⟨g,k*size+r,none⟩=some u:=by
 have hk:k < l.length:=by exact ZfO
 rcases h.2 with ⟨_,h0⟩|⟨g,cap,cur,rfl,hb,h2,hn,hm,hs,ht⟩
 ·omega
 ·have hlt:g < w.heap.size:=by exact ZfD
  refine⟨g,cap,rfl,hb,hlt,λ r u hu=>?_⟩;have h1:=xC hf l k x ho r u hu;rw[<- ht] at h1
  have Kx:cur[k*size+r]?=some u:=by
   rw[getElem?_take] at h1;split at h1
   ·simpa using h1
   ·cases h1
  unfold World.cell?;simp[h2,Kx]
theorem _root_.Go.Proofs.YtndgjggokjickaaGreatDoor.aF.form (h:aF f e size w base v l):∃A c,v=.slice A l.length c:=by obtain⟨A,c,hv,_⟩:=h.reads;exact⟨A,c,hv⟩
end
structure Ex where
 op:Int
 v:Val
 name:ByteArray
 width:Int
 A:Option Addr
 n:Nat
 c:Nat
def bF (y:Ex):List Value:=[ag y.op,ag y.v.k,af y.v.n,.string y.v.s,.string y.name,af y.width,.slice y.A y.n y.c]
def mn (y:Ex):Value:=.agg (bF y).toArray
variable{β:Type}
def RL(f:β->List Value)(size:Nat)(w:World)(S:Nat->Prop)(A:Option Addr)(l:List β):Prop:=
 l=[]\/∃b off,A=some ⟨b,off,none⟩/\S b/\∀i y j u,l[i]?=some y->(f y)[j]?=some u->w.cell? ⟨b,off+i*size+j,none⟩=some u
variable{w':World}{S S':Nat->Prop}
theorem RL.keep{f:β->List Value} {size:Nat} {w:World}  {A:Option Addr} {l:List β}(h:RL f size w S A l)(hk:∀b,S b->(∀o,w'.cell? ⟨b,o,none⟩=w.cell? ⟨b,o,none⟩)/\S' b):RL f size w' S' A l:=by
 rcases h with h |⟨b,off,h1,h2,h3⟩
 ·exact .inl h
 ·exact .inr ⟨b,off,h1,(hk b h2).2,λ i y j u hy hu=>((hk b h2).1 _).trans (h3 i y j u hy hu)⟩
mutual
def Tr.at_ (w:World)(S:Nat->Prop):Tr->Ex->Prop
 | .mk op v name width args,y=>y.op=op/\y.v=v/\y.name=name/\y.width=width/\y.n=args.length/\∃ys,RL bF 7 w S y.A ys/\Tr.aO w S args ys
def Tr.aO (w:World)(S:Nat->Prop):List Tr->List Ex->Prop
 | [],ys=>ys=[]
 | t::ts,ys=>∃y ys',ys=y::ys'/\Tr.at_ w S t y/\Tr.aO w S ts ys'
end
mutual
theorem Tr.at_.keep {w w':World} {S S':Nat->Prop}(hk:∀b,S b->(∀o,w'.cell? ⟨b,o,none⟩=w.cell? ⟨b,o,none⟩)/\S' b):∀(t:Tr) (y:Ex),t.at_ w S y->t.at_ w' S' y
 | .mk op v name width args,y,h=>by unfold Tr.at_ at h ⊢;obtain⟨h1,h2,h3,h4,h5,ys,h6,h7⟩:=h;exact⟨h1,h2,h3,h4,h5,ys,h6.keep hk,Tr.aO.keep hk args ys h7⟩
theorem Tr.aO.keep {w w':World} {S S':Nat->Prop}(hk:∀b,S b->(∀o,w'.cell? ⟨b,o,none⟩=w.cell? ⟨b,o,none⟩)/\S' b):∀(ts:List Tr) (ys:List Ex),Tr.aO w S ts ys->Tr.aO w' S' ts ys
 | [],ys,h=>by unfold Tr.aO at h ⊢;exact h
 | t::ts,ys,h=>by unfold Tr.aO at h ⊢;obtain⟨y,ys',h1,h2,h3⟩:=h;exact⟨y,ys',h1,Tr.at_.keep hk t y h2,Tr.aO.keep hk ts ys' h3⟩
end
theorem Tr.aO.length{w:World} :∀ {ts:List Tr} {ys:List Ex},Tr.aO w S ts ys->ys.length=ts.length
 | [],ys,h=>by unfold Tr.aO at h;subst h;rfl
 | t::ts,ys,h=>by unfold Tr.aO at h;obtain⟨y,ys',rfl,_,h3⟩:=h;simp[Tr.aO.length h3]
variable{y:Ex}
theorem Tr.fO{w:World}  {t:Tr} (h:t.at_ w S y):Tr.aO w S [t] [y]:=by unfold Tr.aO;exact⟨y,[],rfl,h,by unfold Tr.aO;rfl⟩
variable{u:Tr}{z:Ex}
theorem Tr.abU{w:World}  {t:Tr} (h:t.at_ w S y)(k:u.at_ w S z):Tr.aO w S [t,u] [y,z]:=by unfold Tr.aO;exact⟨y,[z],rfl,h,Tr.fO k⟩
theorem Tr.all_nil{w:World} :Tr.aO w S [] []:=by unfold Tr.aO;rfl
structure El (α:Type) where
 β:Type
 f:β->List Value
 size:Nat
 hf:∀y,(f y).length=size
 rel:World->(Nat->Prop)->α->β->Prop
 keep:∀ {w w':World} {S S':Nat->Prop} {x:α} {y:β},(∀b,S b->(∀o,w'.cell? ⟨b,o,none⟩=w.cell? ⟨b,o,none⟩)/\S' b)->rel w S x y->rel w' S' x y
inductive mr {α β:Type} (R:α->β->Prop):List α->List β->Prop
 | nil:mr R [] []
 | cons {x:α} {y:β} {l:List α} {m:List β}:R x y->mr R l m->mr R (x::l) (y::m)
variable{R R':α->β->Prop}
theorem mr.imp(h:∀x y,R x y->R' x y):∀ {l:List α} {m:List β},mr R l m->mr R' l m
 | _,_,.nil=> .nil
 | _,_,.cons a b=> .cons (h _ _ a) (b.imp h)
theorem mr.len:∀ {l:List α} {m:List β},mr R l m->m.length=l.length
 | _,_,.nil=>rfl
 | _,_,.cons a b=>by simp[b.len]
theorem mr.append:∀ {l l':List α} {m m':List β},mr R l m->mr R l' m'->mr R (l++l') (m++m')
 | _,_,_,_,.nil,k=>k
 | _,_,_,_,.cons a b,k=> .cons a (b.append k)
theorem mr.one{x:α} {y:β}(h:R x y):mr R [x] [y]:=.cons h .nil
def El.lies(E:El α)(w:World)(S:Nat->Prop)(A:Option Addr)(n:Nat)(l:List α):Prop:=n=l.length/\∃ys,RL E.f E.size w S A ys/\mr (E.rel w S) l ys
variable{E:El α}
theorem El.lies.keep{w:World}  {A:Option Addr} {n:Nat} {l:List α}(h:E.lies w S A n l)(hk:∀b,S b->(∀o,w'.cell? ⟨b,o,none⟩=w.cell? ⟨b,o,none⟩)/\S' b):E.lies w' S' A n l:=by obtain⟨h1,ys,h2,h3⟩:=h;exact⟨h1,ys,h2.keep hk,h3.imp λ x y=>E.keep hk⟩
theorem El.Zt(E:El α)(w:World)(S:Nat->Prop):E.lies w S none 0 []:=⟨rfl,[],.inl rfl,.nil⟩
def IC:El Tr:=⟨Ex,bF,7,λ _=>rfl,Tr.at_,λ hk h=>Tr.at_.keep hk _ _ h⟩
def rp:El (Tr×ByteArray):=⟨Ex×ByteArray,λ y=>bF y.1++ [.string y.2],8,λ _=>rfl,λ w S x y=>x.1.at_ w S y.1/\y.2=x.2,λ hk h=>⟨Tr.at_.keep hk _ _ h.1,h.2⟩⟩
def sB:El (Tr×Bool):=⟨Ex×Bool,λ y=>bF y.1++ [.bool y.2],8,λ _=>rfl,λ w S x y=>x.1.at_ w S y.1/\y.2=x.2,λ hk h=>⟨Tr.at_.keep hk _ _ h.1,h.2⟩⟩
def Sd:El Int:=⟨Int,λ y=> [af y],1,λ _=>rfl,λ _ _ x y=>y=x,λ _ h=>h⟩
def jm (B:Nat)(w:World):Nat->Prop:=λ b=>B<=b/\b < w.heap.size
theorem cell_of_heap{w:World} {b:Nat}(h:w'.heap[b]?=w.heap[b]?)(o:Nat):w'.cell? ⟨b,o,none⟩=w.cell? ⟨b,o,none⟩:=by unfold World.cell?;simp only[h]
theorem lD{g:Nat} {w:World}(h:w.grownBy w' (some g))(hg:g < B):∀b,jm B w b->(∀o,w'.cell? ⟨b,o,none⟩=w.cell? ⟨b,o,none⟩)/\jm B w' b:=λ b hb=>
 ⟨cell_of_heap (h.block b hb.2 (λ e=>by injection e with e;have:=hb.1;omega)),hb.1,Nat.lt_of_lt_of_le hb.2 h.size⟩
theorem iU{w:World}(h:aj w w'):∀b,jm B w b->(∀o,w'.cell? ⟨b,o,none⟩=w.cell? ⟨b,o,none⟩)/\jm B w' b:=λ b hb=>
 ⟨cell_of_heap (h.block b hb.2),hb.1,Nat.lt_of_lt_of_le hb.2 h.size⟩
variable{q:Nat}
theorem sD{w:World}(hq:q < B)(i:Nat)(u:Value):∀b,jm B w b->(∀o,(w.setCell ⟨q,i,none⟩ u).cell? ⟨b,o,none⟩=w.cell? ⟨b,o,none⟩)/\jm B (w.setCell ⟨q,i,none⟩ u) b:=λ b hb=>
 ⟨cell_of_heap (Below.heap_setCell w ⟨q,i,none⟩ u b (by have:=hb.1;simp;omega)),hb.1,by simpa [World.setCell] using hb.2⟩
variable{B':Nat}
theorem jd{w:World}(h:B'<=B):∀b,jm B w b->(∀o,w.cell? ⟨b,o,none⟩=w.cell? ⟨b,o,none⟩)/\jm B' w b:=λ b hb=>⟨λ _=>rfl,Nat.le_trans h hb.1,hb.2⟩
section
variable {B B' g q:Nat} {w w':World} {t:Tr} {y:Ex}
theorem Tr.at_.grown (h:t.at_ w (jm B w) y)(hg:w.grownBy w' (some g))(hB:g < B):t.at_ w' (jm B w') y:=Tr.at_.keep (lD hg hB) t y h
theorem Tr.at_.later (h:t.at_ w (jm B w) y)(hb:aj w w'):t.at_ w' (jm B w') y:=Tr.at_.keep (iU hb) t y h
theorem Tr.at_.set (h:t.at_ w (jm B w) y)(hq:q < B)(i:Nat)(u:Value):t.at_ (w.setCell ⟨q,i,none⟩ u) (jm B (w.setCell ⟨q,i,none⟩ u)) y:=Tr.at_.keep (sD hq i u) t y h
theorem Tr.at_.more (h:t.at_ w (jm B w) y)(hB:B'<=B):t.at_ w (jm B' w) y:=Tr.at_.keep (jd hB) t y h
end
section
variable {α:Type} {E:El α} {B B' g q:Nat} {w w':World} {A:Option Addr} {n:Nat} {l:List α}
theorem El.lies.more (h:E.lies w (jm B w) A n l)(hB:B'<=B):E.lies w (jm B' w) A n l:=h.keep (jd hB)
end
def Bx (B q:Nat)(w:World):Nat->Prop:=λ b=>B<=b/\b < w.heap.size/\b≠q
section
variable {B B' g q:Nat} {w w':World} {t:Tr} {y:Ex}
theorem vN (h:w.grownBy w' (some g))(hg:g < B):∀b,Bx B q w b->(∀o,w'.cell? ⟨b,o,none⟩=w.cell? ⟨b,o,none⟩)/\Bx B q w' b:=λ b hb=>
 ⟨cell_of_heap (h.block b hb.2.1 (λ e=>by injection e with e;have:=hb.1;omega)),hb.1,Nat.lt_of_lt_of_le hb.2.1 h.size,hb.2.2⟩
theorem BJ (h:aj w w'):∀b,Bx B q w b->(∀o,w'.cell? ⟨b,o,none⟩=w.cell? ⟨b,o,none⟩)/\Bx B q w' b:=λ b hb=>
 ⟨cell_of_heap (h.block b hb.2.1),hb.1,Nat.lt_of_lt_of_le hb.2.1 h.size,hb.2.2⟩
theorem Zu (i:Nat)(u:Value):∀b,Bx B q w b->(∀o,(w.setCell ⟨q,i,none⟩ u).cell? ⟨b,o,none⟩=w.cell? ⟨b,o,none⟩)/\Bx B q (w.setCell ⟨q,i,none⟩ u) b:=λ b hb=>
 ⟨cell_of_heap (Below.heap_setCell w ⟨q,i,none⟩ u b (λ e=>hb.2.2 e)),hb.1,by simpa [World.setCell] using hb.2.1,hb.2.2⟩
theorem OU (hB:B'<=B):∀b,Bx B q w b->(∀o,w.cell? ⟨b,o,none⟩=w.cell? ⟨b,o,none⟩)/\jm B' w b:=λ b hb=>⟨λ _=>rfl,Nat.le_trans hB hb.1,hb.2.1⟩
theorem OV (o:Obj)(hB:B'<=B):∀b,jm B w b->(∀i,(w.alloc o).cell? ⟨b,i,none⟩=w.cell? ⟨b,i,none⟩)/\Bx B' w.heap.size (w.alloc o) b:=λ b hb=>
 ⟨cell_of_heap (Below.heap_alloc w o b hb.2),Nat.le_trans hB hb.1,by have:=hb.2;simp;omega,by have:=hb.2;omega⟩
theorem alT (hq:q < B)(hB:B'<=B):∀b,jm B w b->(∀i,w.cell? ⟨b,i,none⟩=w.cell? ⟨b,i,none⟩)/\Bx B' q w b:=λ b hb=>
 ⟨λ _=>rfl,Nat.le_trans hB hb.1,hb.2,by have:=hb.1;omega⟩
end
variable{G:Nat}{ys:List β}
theorem OW{f:β->List Value} {size:Nat}(hf:∀x,(f x).length=size) {w:World}   {T:TypeId} (h:aB w G T (ys.flatMap f).toArray)(hS:S G):RL f size w S (some ⟨G,0,none⟩) ys:=by refine .inr ⟨G,0,rfl,hS,λ i y j u hy hu=>?_⟩;have:=xC hf ys i y hy j u hu;have hc:=h.cell (i*size+j);rw[Nat.zero_add,hc];exact ZeU
theorem ub (y:Ex):(bF y).length=7:=rfl
def ud:Val:=⟨0,0,⟨#[]⟩⟩
def opY (op:Int)(G n:Nat):Ex:=⟨op,ud,⟨#[]⟩,0,some ⟨G,0,none⟩,n,n⟩
variable{x2:Tr}{y2:Ex}
theorem ahd{w:World}   {T:TypeId} {x:Tr} (op:Int)(h:aB w G T (bF y++bF y2).toArray)(hS:S G)(hx:x.at_ w S y)(hx2:x2.at_ w S y2):(Ao op [x,x2]).at_ w S (opY op G 2):=by unfold Ao Tr.at_;exact⟨rfl,rfl,rfl,rfl,rfl,[y,y2],OW ub Tak hS,Tr.abU hx hx2⟩
theorem ID (w:World)(S:Nat->Prop)(v:Val):(sZ v).at_ w S ⟨1,v,⟨#[]⟩,0,none,0,0⟩:=by unfold sZ Tr.at_;exact ZfQ
theorem BK (w:World)(S:Nat->Prop)(n:ByteArray):(ua n).at_ w S ⟨2,ud,n,0,none,0,0⟩:=by unfold ua Tr.at_;exact ZfQ
theorem ahe (w:World)(S:Nat->Prop)(op:Int):(Ao op []).at_ w S ⟨op,ud,⟨#[]⟩,0,none,0,0⟩:=by unfold Ao Tr.at_;exact ZfQ
inductive ck where
 | good (l:dH)
 | bad (n:Nat)
def ck.left:ck->Nat
 | .good l=>l.length
 | .bad n=>n
def ck.gT:ck->Bool
 | .good _=>true
 | .bad _=>false
def ck.words:ck->dH
 | .good l=>l
 | .bad _=> []
def dp(p:Ps α):ck->ck
 | .bad n=> .bad n
 | .good l=>match p l with
   | .ok (_,r)=> .good r
   | .error n=> .bad n
def jZ(p:Ps α):ck->α->Prop
 | .bad _,_=>True
 | .good l,x=>match p l with
   | .ok (y,_)=>x=y
   | .error _=>True
variable{σ:ck}
theorem UD{p:Ps α} {f:α->Ps β}  {x:α}(h:jZ p σ x):dp (p >>= f) σ=dp (f x) (dp p σ):=by
 match σ with
 | .bad n=>rfl
 | .good l=>
   have aqO:∀l,(p>>=f) l=match p l with | .error n=>.error n | .ok (x,r)=>f x r:=λ _=>rfl
   simp only[dp,jZ,aqO] at h ⊢
   cases e:p l with
   | error n=>rfl
   | ok y=>obtain⟨y,r⟩:=y;rw[e] at h;simp only at h;subst h;rfl
theorem UE(x:α)(σ:ck):dp (pure x:Ps α) σ=σ:=by cases σ <;> rfl
theorem FL(p:Ps α)(n:Nat)(x:α):jZ p (.bad n) x:=trivial
def ck.head (s:List UInt8)(σ:ck):Bool:=dI s σ.words
theorem Lh (s:List UInt8)(σ:ck):dp (may s) σ=if σ.head s then .good σ.words.tail else σ:=by
 match σ with
 | .bad n=>rfl
 | .good l=>simp only[dp,may,ck.head,ck.words];exact Zhe
theorem FM (s:List UInt8)(σ:ck):dp (must s) σ=if σ.head s then .good σ.words.tail else .bad σ.left:=by
 match σ with
 | .bad n=>rfl
 | .good l=>simp only[dp,must,ck.head,ck.words,ck.left];exact Zhe
theorem OX (p:Ps Unit)(σ:ck):jZ p σ ():=by
 match σ with
 | .bad n=>trivial
 | .good l=>simp only[jZ];split <;> trivial
def ck.of (W:dH):ck->Prop
 | .good l=>l <:+ W/\yM l
 | .bad n=>0 < n/\n<=W.length
variable{W:dH}
theorem ck.OY(h:σ.of W):0 < σ.left/\σ.left<=W.length:=by
 match σ with
 | .bad n=>exact h
 | .good l=>exact⟨h.2.pos,h.1.length_le⟩
theorem ck.of_next{l:dH}(h:(ck.good l).of W):∃t r,l=t::r/\W[W.length - l.length]?=some t:=by
 obtain⟨⟨b,hb⟩,h2⟩:=h
 match l,h2.pos with
 | t::r,_=>refine⟨t,r,rfl,?_⟩;rw[<- hb,length_append,Nat.add_sub_cancel,getElem?_append_right (Nat.le_refl _),Nat.sub_self];rfl
def ik (p:UInt8->Bool)(l:List UInt8)(k:Nat):Nat:=k+((l.drop k).takeWhile p).length
theorem abV (p:UInt8->Bool)(l:List UInt8)(k:Nat)(hk:k<=l.length):ik p l k<=l.length:=by have:=(takeWhile_sublist (p:=p) (l:=l.drop k)).length_le;simp only[length_drop] at this;unfold ik;omega
theorem eV (s:ByteArray)(k:Nat)(hk:k < s.size):s.data.toList[k]?=some s[k]:=by rw[getElem?_eq_getElem Ta4];simp[ByteArray.getElem_eq_getElem_data]
variable{l:List UInt8}
theorem cF{k:Nat} {c:UInt8}(h:l[k]?=some c):l.drop k=c::l.drop (k+1):=by
 have hk:k < l.length:=by
  rcases Nat.lt_or_ge k l.length with h' | h'
  ·exact h'
  ·rw[getElem?_eq_none h'] at h;cases h
 rw[drop_eq_getElem_cons hk];rw[getElem?_eq_getElem hk] at h;injection h with h;rw[h]
theorem BL{p:UInt8->Bool}  {k:Nat} {c:UInt8}(h:l[k]?=some c)(hp:p c=true):ik p l k=ik p l (k+1):=by unfold ik;rw[cF h,takeWhile_cons,if_pos hp,length_cons];omega
theorem Sg{p:UInt8->Bool}  {k:Nat} {c:UInt8}(h:l[k]?=some c)(hp:p c=false):ik p l k=k:=by unfold ik;rw[cF h,takeWhile_cons,if_neg (by rw[hp];decide)];rfl
theorem Lj{p:UInt8->Bool}  {k:Nat}(h:l.length<=k):ik p l k=k:=by unfold ik;rw[drop_eq_nil_of_le h];rfl
theorem Sh (p:UInt8->Bool):∀r:List UInt8,r.drop (r.takeWhile p).length=r.dropWhile p
 | []=>rfl
 | c::r=>by
   rw[takeWhile_cons,dropWhile_cons];split
   ·simpa using Sh p r
   ·rfl
theorem abW (p:UInt8->Bool)(r:List UInt8):r.take (r.takeWhile p).length=r.takeWhile p:=by
 induction r with
 | nil=>rfl
 | cons c r ih=>
   rw[takeWhile_cons];split
   ·simpa using ih
   ·rfl
theorem BM (p:UInt8->Bool)(l:List UInt8)(k:Nat):l.drop (ik p l k)=(l.drop k).dropWhile p:=by unfold ik;rw[<- drop_drop,Sh]
theorem Lk (p:UInt8->Bool)(l:List UInt8)(k:Nat):(l.drop k).take (ik p l k - k)=(l.drop k).takeWhile p:=by unfold ik;rw[Nat.add_sub_cancel_left,abW]
theorem kj:∀(b:Bool) (r:List UInt8),cy b r <:+ r
 | _,[]=>by simp[cy]
 | true,c::r=>by
   simp only[cy];split
   ·exact(kj false r).trans (suffix_cons _ _)
   ·exact(kj true r).trans (suffix_cons _ _)
 | false,c::r=>by
   simp only[cy];split
   ·exact(kj false r).trans (suffix_cons _ _)
   ·split
    ·exact(kj true r).trans (suffix_cons _ _)
    ·exact suffix_refl _
theorem drop_suffix(h:r <:+ l):l.drop (l.length - r.length)=r:=by obtain⟨p,rfl⟩:=h;simp
theorem Zv (l:List UInt8)(c:UInt8):lj (l++ [c])=lj l*10+(c.toNat - 48):=by simp[lj]
theorem Zw (l:List UInt8):∀v,v<=l.foldl (λ v c=>v*10+(c.toNat - 48)) v:=by
 induction l with
 | nil=>intro v;exact Nat.le_refl _
 | cons c l ih=>intro v;have:=ih (v*10+(c.toNat - 48));simp only[foldl_cons];omega
theorem Si{p:UInt8->Bool}(l:List UInt8):∀c∈l.takeWhile p,p c=true:=λ c hc=>List.all_eq_true.1 (all_takeWhile (p:=p) (l:=l)) c hc
def alU (f:FuncId)(p:UInt8->Bool):Prop:=∀(c:UInt8) (W:World),ar f #[ag (c.toNat:Int)] W λ e w'=>e=.returned (.bool (p c))/\W=w'
theorem lX{a b:Bool}(h:a=b):Ending.returned (.bool a)=.returned (.bool b):=by rw[h]
theorem mP{k:IntKind} {a b:Int}(h:a=b):Ending.returned (.int k a)=.returned (.int k b):=by rw[h]
theorem OZ (c:UInt8):fM c=((decide ((97:Int)<=c.toNat)&& decide ((c.toNat:Int)<=122))||(decide ((65:Int)<=c.toNat)&& decide ((c.toNat:Int)<=90))||((c.toNat:Int)==95)):=by rw[Bool.eq_iff_iff];simp only[fM,UInt8.le_iff_toNat_le,<- UInt8.toNat_inj,Bool.or_eq_true,Bool.and_eq_true,decide_eq_true_eq,beq_iff_eq];simp;omega
theorem UF (c:UInt8):bC c=(decide ((48:Int)<=c.toNat)&& decide ((c.toNat:Int)<=57)):=by rw[Bool.eq_iff_iff];simp only[bC,UInt8.le_iff_toNat_le,Bool.and_eq_true,decide_eq_true_eq];simp;omega
theorem ahf (c:UInt8)(k:UInt8):(c==k)=((c.toNat:Int)==(k.toNat:Int)):=by rw[Bool.eq_iff_iff];simp[<- UInt8.toNat_inj];omega
theorem xD (c:UInt8):qX c=(((c.toNat:Int)==32)||((c.toNat:Int)==9)||((c.toNat:Int)==10)||((c.toNat:Int)==13)):=by simp only[qX,ahf];rfl
theorem bO{w:World}  {t:TypeId} {a b c d:Value}(h:aB w q t #[a,b,c,d]):
  w.cell? ⟨q,0,none⟩=some a/\w.cell? ⟨q,1,none⟩=some b/\w.cell? ⟨q,2,none⟩=some c/\w.cell? ⟨q,3,none⟩=some d/\w.frozen? ⟨q,0,none⟩=false/\w.frozen? ⟨q,1,none⟩=false/\w.frozen? ⟨q,2,none⟩=false/\w.frozen? ⟨q,3,none⟩=false:=
 ⟨h.cell 0,h.cell 1,h.cell 2,h.cell 3,h.frozen 0,h.frozen 1,h.frozen 2,h.frozen 3⟩
theorem oY (s:ByteArray)(a b:Nat):(s.extract a b).data.toList=(s.data.toList.take b).drop a:=by rw[ByteArray.data_extract,Array.toList_extract,extract_eq_take_drop,drop_take]
def fH (s:ByteArray)(a:Nat):Nat:=s.size - (cy false (s.data.toList.drop a)).length
theorem mQ (s:ByteArray)(a:Nat):s.data.toList.drop (fH s a)=cy false (s.data.toList.drop a):=by have h:cy false (s.data.toList.drop a)<:+ s.data.toList:=(kj _ _).trans (List.drop_suffix _ _);have:=drop_suffix h;simpa [fH] using this
theorem xE (s:ByteArray)(a:Nat):fH s a<=s.size:=Nat.sub_le _ _
theorem UG(s:ByteArray) {a b:Nat}(h:cy false (s.data.toList.drop a)=cy false (s.data.toList.drop b)):fH s a=fH s b:=by unfold fH;rw[h]
theorem mR (p:UInt8->Bool)(s:ByteArray)(k:Nat):(s.extract k (ik p s.data.toList k)).data.toList=(s.data.toList.drop k).takeWhile p:=by rw[oY,<- Lk,drop_take]
theorem abX (p:UInt8->Bool)(l:List UInt8)(k:Nat):ik p l k - k=((l.drop k).takeWhile p).length:=by unfold ik;omega
theorem vO(p:UInt8->Bool)(s:ByteArray) {k:Nat}(hk:k<=s.size):s.size - ((s.data.toList.drop k).dropWhile p).length=ik p s.data.toList k:=by rw[<- BM,length_drop];have:=abV p s.data.toList k Ta4;simp at this ⊢;omega
def more (acc:List UInt8)(x:Option (List UInt8×List UInt8)):Option (List UInt8×List UInt8):=x.map λ y=>(acc++y.1,y.2)
theorem Zx (x:Option (List UInt8×List UInt8)):more [] x=x:=by cases x <;> rfl
theorem Pa{c:UInt8}(h:c≠39)(r acc:List UInt8):more acc (fN (c::r))=more (acc++ [c]) (fN r):=by
 cases r with
 | nil=>simp[fN,h,more]
 | cons d r=>simp only[fN,if_neg h,more];cases fN (d::r)<;> simp
theorem Zy (r acc:List UInt8):more acc (fN (39::39::r))=more (acc++ [39]) (fN r):=by simp only[fN,more,if_true];cases fN r <;> simp
theorem Ll(h:r.head?≠some 39)(acc:List UInt8):more acc (fN (39::r))=some (acc,r):=by
 cases r with
 | nil=>simp[fN,more]
 | cons d r=>
   have:d≠39:=λ e=>h (by rw[e];rfl)
   simp[fN,this,more]
theorem BN (w:World)(a b:Nat):(w.drewN a).drewN b=w.drewN (a+b):=by simp[World.drewN,Nat.add_assoc]
theorem abY{i:Nat}(hi:i < 15):∃x,signs[i]?=some x/\signs.drop i=x::signs.drop (i+1)/\1<=x.length/\x.length<=2:=by
 have key:∀i,i < 15->∃x,signs[i]?=some x/\1<=x.length/\x.length<=2:=by
  intro i hi
  match i,hi with
  | 0,_ | 1,_ | 2,_ | 3,_ | 4,_ | 5,_ | 6,_ | 7,_ | 8,_ | 9,_ | 10,_ | 11,_ | 12,_ | 13,_ | 14,_=>exact⟨_,rfl,by decide,by decide⟩
  | n+15,h=>omega
 obtain⟨x,h1,h2,h3⟩:=key i hi;refine⟨x,h1,?_,h2,h3⟩;have hlt:i < signs.length:=hi;exact ZfP
theorem Sj:ny.length=27:=by decide+kernel
theorem ahg{i:Nat}(hi:i < 27):∃x,ny[i]?=some x/\ny.take (i+1)=ny.take i++ [x]/\(ny.take i).contains x=false:=by
 have hlt:i < ny.length:=by rw[Sj];exact hi
 refine⟨ny[i],getElem?_eq_getElem hlt,by rw[take_succ_eq_append_getElem hlt],?_⟩;have key:(List.range 27).all (λ i=> !(ny.take i).contains (ny.getD i []))=true:=by decide+kernel
 have:=List.all_eq_true.1 key i (List.mem_range.2 hi);rw[getD_eq_getElem?_getD,getElem?_eq_getElem hlt] at this;exact ZeU
theorem UH (c:UInt8):(Ir c=true/\decide ((65:Int)<=c.toNat)=true/\decide ((c.toNat:Int)<=90)=true)\/(Ir c=false/\decide ((65:Int)<=c.toNat)=true/\decide ((c.toNat:Int)<=90)=false)\/(Ir c=false/\decide ((65:Int)<=c.toNat)=false):=by
 have e:Ir c=(decide ((65:Int)<=c.toNat)&& decide ((c.toNat:Int)<=90)):=by rw[Bool.eq_iff_iff];simp only[Ir,UInt8.le_iff_toNat_le,Bool.and_eq_true,decide_eq_true_eq];simp;omega
 rw[e];by_cases h1:(65:Int)<=c.toNat <;> by_cases h2:(c.toNat:Int)<=90 <;> simp[h1,h2]
def Zz (b:Bool)(w:World)(e:Ending)(w':World):Prop:=e=.returned (.bool b)/\aj w w'
theorem ej:alU 174 fM:=by intro c W;rw[OZ];have h1:=c.toNat_lt;generalize c.toNat=n at*;go_enter Tryz.func174,Tryz.ntmps174;exact Zd1
theorem eM:alU 175 bC:=by intro c W;rw[UF];have h1:=c.toNat_lt;generalize c.toNat=n at*;go_enter Tryz.func175,Tryz.ntmps175;exact Zd1
theorem Ej (w:World):ar 198 #[] w λ e w'=>e=.returned (aI w.heap.size 27 27)/\w'=w.alloc (.cells (ny.map λ l=>Value.string ⟨l.toArray⟩).toArray 9):=by go_enter Tryz.func198,Tryz.ntmps198;exact Zc3
variable{x:List UInt8}
theorem ZA{i:Nat} (h1:ny[i]?=some x):ny.drop i=x::ny.drop (i+1):=by
 have hlt:i < ny.length:=by
  rcases Nat.lt_or_ge i ny.length with h | h
  ·exact h
  ·rw[getElem?_eq_none h] at h1;cases h1
 exact ZfP
theorem UI (l:List UInt8):(⟨l.toArray⟩:ByteArray).toList=l:=by rw[ByteArray.toList_eq]
theorem Ek (s:ByteArray)(w:World):ar 183 #[.string s] w (Zz (sY s.data.toList) w):=by
 go_enter Tryz.func183,Tryz.ntmps183;go_wp2_with fail;refine(Ej w).mono ?_;rintro e w1 ⟨rfl,rfl⟩;have HB:=aa (aB.new w 9 (ny.map λ l=>Value.string ⟨l.toArray⟩).toArray);have b1:=ah w (.cells (ny.map λ l=>Value.string ⟨l.toArray⟩).toArray 9);generalize w.alloc (.cells (ny.map λ l=>Value.string ⟨l.toArray⟩).toArray 9)=W at*;go_wp2_with fail;go_loop [4] (λ u=>∃i:Nat,i<=27/\u=af i/\sY s.data.toList=(ny.drop i).contains s.data.toList) (λ u=>27 - (intOf u).toNat);case atStart=>exact⟨0,by omega,rfl,rfl⟩
 case round=>
  obtain⟨i,hi,rfl,hf⟩:=hrel;have H2:=aa hf;clear hf;by_cases hlt:i < 27
  ·obtain⟨x,hx,_,_⟩:=ahg hlt;have hcell:=HB.ae.cell i;have hx2:(ny.map λ l=>Value.string ⟨l.toArray⟩).toArray[i]?=some (.string ⟨x.toArray⟩):=by simp[hx]
   rw[hx2] at hcell;have HDX:=aa (ZA hx);have e0:=UI x;have IE:=aa e0;clear hx hx2 e0;by_cases he:s.data.toList=x
   ·have HE:=aa he;have t2:(x==s.toList)=true:=by rw[ByteArray.toList_eq,he];simp
    clear he;go_wp2_with fail;go_ret;refine⟨lX ?_,b1⟩;rw[H2.ae,HDX.ae,HE.ae];simp
   ·have HE:=aa he;have t2:(x==s.toList)=false:=by rw[ByteArray.toList_eq,beq_eq_false_iff_ne];exact λ e=>he e.symm
    clear he;go_wp2_with fail;go_round
    case rel=>
     refine⟨i+1,by omega,by go_num,?_⟩;rw[H2.ae,HDX.ae,contains_cons];have:(s.data.toList==x)=false:=by simpa using HE.ae
     rw[this];rfl
    case measure=>exact Za0
  ·obtain rfl:i=27:=by omega
   go_wp2_with fail;go_ret;refine⟨lX ?_,b1⟩;rw[H2.ae,drop_eq_nil_of_le (Nat.le_of_eq Sj)];rfl
theorem IG (w:World)(g:Nat)(c:UInt8)(h:aB w g 5 #[ag (c.toNat:Int)]):(convert 97 9 (aI g 1 1)).run Tryz.prog w=.ok (.string ⟨#[c]⟩) w:=by
 have:=run_convert_bytes_back (P:=Tryz.prog) w 97 9 5 ⟨g,0,none⟩ 1 [c] Tryz.underlying97 Tryz.underlying5 Tryz.underlying9 (λ j hj=>by
  have:j=0:=by simpa using hj
  subst this
  have h0:=h.cell 0
  simpa [Addr.add] using h0)
 exact ZeU
theorem abZ{c:UInt8}(h:Ir c=true):(vK c).toNat=c.toNat+32:=by unfold vK;rw[if_pos h];simp[Ir,UInt8.le_iff_toNat_le] at h;rw[UInt8.toNat_add];simp;omega
theorem Sk{c:UInt8}(h:Ir c=false):vK c=c:=by unfold vK;rw[h];rfl
theorem lY (l:List UInt8)(c:UInt8):(⟨l.toArray⟩:ByteArray)++⟨#[c]⟩=⟨(l++ [c]).toArray⟩:=by apply ByteArray.ext;simp
theorem FN (s:ByteArray)(w:World)(hs:s.size<=4294967280):ar 176 #[.string s] w λ e w'=>e=.returned (.string ⟨(s.data.toList.map vK).toArray⟩)/\aj w w':=by
 have HLEN:=aa (show s.data.toList.length=s.size by simp);go_enter Tryz.func176,Tryz.ntmps176;go_wp2_with fail;go_loopw [3,4] (λ x u wr=>∃(i:Nat) (l:List UInt8),i<=s.size/\u=af i/\x=.string ⟨l.toArray⟩/\l.length=i/\s.data.toList.map vK=l++(s.data.toList.drop i).map vK/\aj w wr) (λ _ u _=>s.size - (intOf u).toNat);case atStart=>exact⟨0,[],by omega,rfl,rfl,rfl,rfl,Below.refl _ _⟩
 case round=>
  obtain⟨i,l,hi,rfl,rfl,hl,hm,hb⟩:=hrel;have HM:=aa hm;have hl2:l.length<=s.size:=by omega
  have HL:=aa hl;have zL:=aa (show l.length<=s.size by omega);clear hm hl;by_cases hlt:i < s.size
  ·have HD:=aa (cF (eV s i hlt));rcases UH s[i] with ⟨hc,t1,t2⟩|⟨hc,t1,t2⟩|⟨hc,t1⟩
   ·have Lm:=abZ hc;have hn:s[i].toNat<=90:=by have:=of_decide_eq_true t2;omega
    have hr:=IG _ _ (vK s[i]) (aB.new wr 5 #[ag ((vK s[i]).toNat:Int)]);rw[Lm] at hr;rw[show((s[i].toNat+32:Nat):Int)=(s[i].toNat:Int)+32 from rfl] at hr;have ue:=aa Lm;clear Lm hc;go_wp2_with fail;go_roundw;case rel=>refine⟨i+1,l++ [vK s[i]],by omega,by go_num,by rw[lY],by rw[length_append,HL.ae];rfl,?_,hb.trans ((ah wr _).mono hb.size)⟩;rw[HM.ae,HD.ae];simp
    case measure=>exact Za0
   ·exact Zch
   ·exact Zch
  ·go_wp2_with fail;go_ret;refine⟨?_,hb⟩;rw[HM.ae,drop_eq_nil_of_le Tas];simp
theorem BO{s:ByteArray} {a b:Nat}(h:cy false (s.data.toList.drop a)=cy false (s.data.toList.drop b)):fH s a=fH s b:=UG s h
theorem sF{s:ByteArray} {a:Nat}(ha:a<=s.size)(h:cy false (s.data.toList.drop a)=s.data.toList.drop a):fH s a=a:=by unfold fH;rw[h,length_drop];simp;omega
theorem zif.Kcn(h:p:=by rintro⟨_,h⟩;rw[II.ae] at h;exact H46.ae Tak):p:=h
theorem zig.Kcn(h:p:=by rintro⟨_,h⟩;rw[drop_eq_nil_of_le Tas] at h;simp at h):p:=h
theorem zih.Kcn(h:p:=by rintro⟨h,_⟩;exact H45.ae h):p:=h
theorem FO (s:ByteArray)(at_:Nat)(w:World)(ha:at_<=s.size)(hs:s.size<=4294967280):ar 131 #[.string s,af at_] w λ e w'=>e=.returned (af (fH s at_))/\w=w':=by
 have HLEN:=aa (show s.data.toList.length=s.size by simp);go_enter Tryz.func131,Tryz.ntmps131;go_wp2_with fail;go_loop [1] (λ u=>∃i:Nat,i<=s.size/\u=af i/\fH s at_=fH s i) (λ u=>s.size - (intOf u).toNat);case atStart=>exact⟨at_,ha,rfl,rfl⟩
 case round=>
  obtain⟨i,hi,rfl,hf⟩:=hrel;have H2:=aa hf;clear hf;by_cases Kx:i < s.size
  ·have HD:=aa (cF (eV s i Kx));cases hb:qX s[i]
   ·have Ar:s[i]=45\/s[i]≠45:=by by_cases h:s[i]=45 <;> simp[h]
    rw[xD] at hb;simp only[Bool.or_eq_false_iff] at hb;obtain⟨⟨⟨b1,b2⟩,b3⟩,b4⟩:=hb;have HB:=aa (show qX s[i]=false by rw[xD,b1,b2,b3,b4];rfl);rcases Ar with Ar | Ar
    ·have t1:(((s[i].toNat:Nat):Int)==45)=true:=by rw[Ar];rfl
     have t2:(((s[i].toNat:Nat):Int) != 45)=false:=by rw[Ar];rfl
     have H45:=aa Ar;clear Ar;by_cases asT:i+1 < s.size
     ·have II:=aa (cF (eV s (i+1) asT));have n1:=decide_eq_false (show¬((s.size:Int)<=(i:Int)+1) by omega);by_cases h46:s[i+1]=45
      ·have u1:(((s[i+1].toNat:Nat):Int)==45)=true:=by rw[h46];rfl
       have u2:(((s[i+1].toNat:Nat):Int) != 45)=false:=by rw[h46];rfl
       have HC:=aa (show cy false (s.data.toList.drop i)=cy true (s.data.toList.drop i) by
        rw[HD.ae,II.ae,h46,H45.ae]
        simp[cy,qX])
       clear h46;go_wp2_with fail;go_loop [1] (λ u=>∃k:Nat,i<=k/\k<=s.size/\u=af k/\cy false (s.data.toList.drop i)=cy true (s.data.toList.drop k)) (λ u=>s.size - (intOf u).toNat);case atStart=>exact⟨i,Nat.le_refl _,hi,rfl,HC.ae⟩
       case round=>
        obtain⟨k,DR,hk2,rfl,hf⟩:=hrel;have HF:=aa hf;clear hf;by_cases hlt:k < s.size
        ·have HDK:=aa (cF (eV s k hlt));by_cases h10:s[k]=10
         ·have v1:(((s[k].toNat:Nat):Int)==10)=true:=by rw[h10];rfl
          have v2:(((s[k].toNat:Nat):Int) != 10)=false:=by rw[h10];rfl
          have H10:=aa h10;have hne:i≠k:=by intro e;subst e;have:=H45.ae.symm.trans h10;exact absurd this Taa
          clear h10;go_wp2_with fail;go_round;case rel=>refine⟨k,hk2,rfl,?_⟩;rw[H2.ae];refine BO ?_;rw[HF.ae,HDK.ae,H10.ae];simp[cy,qX]
          case measure=>exact Za0
         ·have v1:(((s[k].toNat:Nat):Int)==10)=false:=by rw[beq_eq_false_iff_ne];intro h;exact h10 (UInt8.toNat_inj.1 (by simpa using(by omega:s[k].toNat=10)))
          have v2:(((s[k].toNat:Nat):Int) != 10)=true:=by simpa [bne] using v1
          have H10:=aa h10;clear h10;go_wp2_with fail;go_round;case rel=>refine⟨k+1,by omega,hlt,by go_num,?_⟩;rw[HF.ae,HDK.ae,cy,if_neg H10.ae]
          case measure=>exact Za0
        ·go_wp2_with fail;go_round;case rel=>refine⟨k,hk2,rfl,?_⟩;rw[H2.ae];refine BO ?_;rw[HF.ae,drop_eq_nil_of_le Tas];simp[cy]
         case measure=>exact Za0
      ·have u1:(((s[i+1].toNat:Nat):Int)==45)=false:=by rw[beq_eq_false_iff_ne];intro h;exact h46 (UInt8.toNat_inj.1 (by simpa using(by omega:s[i+1].toNat=45)))
       have u2:(((s[i+1].toNat:Nat):Int) != 45)=true:=by simpa [bne] using u1
       have H46:=aa h46;clear h46;open zif in exact Zhf
     ·have n1:=decide_eq_true (show((s.size:Int)<=(i:Int)+1) by omega);open zig in exact Zhf
    ·have t1:(((s[i].toNat:Nat):Int)==45)=false:=by rw[beq_eq_false_iff_ne];intro h;exact Ar (UInt8.toNat_inj.1 (by simpa using(by omega:s[i].toNat=45)))
     have t2:(((s[i].toNat:Nat):Int) != 45)=true:=by simpa [bne] using t1
     have H45:=aa Ar;clear Ar;open zih in exact Zhf
   ·have HB:=aa hb;rw[xD] at hb;cases b1:(((s[i].toNat:Nat):Int)==32)<;> cases b2:(((s[i].toNat:Nat):Int)==9)<;> cases b3:(((s[i].toNat:Nat):Int)==10)<;> cases b4:(((s[i].toNat:Nat):Int)==13);all_goals try (exfalso;rw[b1,b2,b3,b4] at hb;exact absurd hb Taa)
    all_goals
     clear hb;go_wp2_with fail;go_round;case rel=>refine⟨i+1,Kx,by go_num,?_⟩;rw[H2.ae];refine BO ?_;rw[HD.ae,cy,if_pos HB.ae]
     case measure=>simp[intOf];omega
  ·go_wp2_with fail;go_ret;refine⟨mP ?_,rfl⟩;rw[H2.ae,sF hi];rw[drop_eq_nil_of_le Tas];rfl
theorem ZB:∀(l:List UInt8) (v:Nat),v*10 ^ l.length<=l.foldl (λ v c=>v*10+(c.toNat - 48)) v
 | [],v=>by simp
 | c::l,v=>by
   have:=ZB l (v*10+(c.toNat - 48));simp only[foldl_cons,length_cons,Nat.pow_succ];have h:v*10*10 ^ l.length<=(v*10+(c.toNat - 48))*10 ^ l.length:=Nat.mul_le_mul_right _ WC;have e:v*(10 ^ l.length*10)=v*10*10 ^ l.length:=by rw[Nat.mul_comm (10 ^ l.length),Nat.mul_assoc]
   rw[e];omega
theorem ZC(hd:∀c∈l,bC c=true)(hl:19 < l.length)(h0:l.head?≠some 48):9223372036854775807 < lj l:=by
 match l with
 | []=>simp at hl
 | c::r=>
   have hc:=hd c mem_cons_self;simp[bC,UInt8.le_iff_toNat_le] at hc;have h48:c.toNat≠48:=λ e=>h0 (by rw[show c=48 from UInt8.toNat_inj.1 e];rfl)
   have h1:=ZB r (0*10+(c.toNat - 48));have h2:10 ^ 19<=10 ^ r.length:=Nat.pow_le_pow_right Taa (by simp at hl;omega);have h3:1*10 ^ r.length<=(0*10+(c.toNat - 48))*10 ^ r.length:=Nat.mul_le_mul_right _ WC;show _ < List.foldl _ _ _;rw[foldl_cons];have h4:(10:Nat)^ 19=10000000000000000000:=by decide
   omega
theorem ZE{i:Nat} {c:UInt8}(h:l[i]?=some c):lj (l.take (i+1))=lj (l.take i)*10+(c.toNat - 48):=by rw[take_add_one,h];exact Zv _ _
theorem Pb (l:List UInt8)(i:Nat):lj (l.take i)<=lj l:=by
 conv=>rhs;rw[<- take_append_drop i l]
 unfold lj;rw[foldl_append];exact Zw _ _
theorem ZF{c:UInt8}(h:bC c=true):48<=c.toNat/\c.toNat<=57:=by simpa [bC,UInt8.le_iff_toNat_le] using h
def jP (q:List UInt8)(w:World)(e:Ending)(w':World):Prop:=(if vL q=true then e=.returned (.tuple #[af (lj q),.bool true])else e=.returned (.tuple #[af 0,.bool false]))/\w=w'
variable{e:Ending}
theorem Pc{q:List UInt8} {w:World} (h:vL q=false)(he:e=.returned (.tuple #[af 0,.bool false])):jP q w e w:=by unfold jP;rw[h,if_neg Taa];exact⟨he,rfl⟩
theorem aca{q:List UInt8} {w:World} (h:vL q=true)(he:e=.returned (.tuple #[af (lj q),.bool true])):jP q w e w:=by unfold jP;rw[if_pos h];exact⟨he,rfl⟩
theorem yO (s:ByteArray)(w:World)(hd:∀c∈s.data.toList,bC c=true)(h0:0 < s.size)(hs:s.size<=4294967280):ar 177 #[.string s] w (jP s.data.toList w):=by
 have HLEN:=aa (show s.data.toList.length=s.size by simp);have HDG:=aa hd;have Sm:s.data.toList.head?=some s[0]:=by rw[head?_eq_getElem?];exact eV s 0 h0
 have HH:=aa Sm;clear hd Sm;by_cases hz:1 < s.size/\s[0]=48
 ·have t1:(((s[0].toNat:Nat):Int)==48)=true:=by rw[hz.2];rfl
  have HB:=aa (show vL s.data.toList=false by
   have:¬s.data.toList.length<=1:=by rw[HLEN.ae];omega
   simp only[vL,HH.ae,hz.2,this]
   rfl)
  have hz1:=hz.1;exact Zga
 ·by_cases alV:19 < s.size
  ·have t1:(((s[0].toNat:Nat):Int)==48)=false:=by rw[beq_eq_false_iff_ne];intro h;exact hz ⟨by omega,UInt8.toNat_inj.1 Tbm⟩
   have HB:=aa (show vL s.data.toList=false by
    have h1:=ZC HDG.ae (by rw[HLEN.ae];exact alV) (by rw[HH.ae];intro e;injection e with e;exact hz ⟨by omega,e⟩)
    have h2:¬lj s.data.toList<=9223372036854775807:=by omega
    simp only[vL,h2]
    simp)
   exact Zga
  ·have HF:=aa (show(decide (s.data.toList.length<=1)|| !(s.data.toList.head?==some 48))=true by
    rw[HLEN.ae,HH.ae]
    by_cases h1:s.size<=1
    ·simp[h1]
    ·have:s[0]≠48:=λ e=>hz ⟨by omega,e⟩
     simp[h1,this])
   have hz2:¬(1 < s.size)\/(1 < s.size/\(((s[0].toNat:Nat):Int)==48)=false):=by
    by_cases h1:1 < s.size
    ·refine .inr ⟨h1,?_⟩;rw[beq_eq_false_iff_ne];intro h;exact hz ⟨h1,UInt8.toNat_inj.1 Tbm⟩
    ·exact .inl h1
   clear hz
   rcases hz2 with hz2 |⟨hz1,hz2⟩;all_goals
    go_enter Tryz.func177,Tryz.ntmps177;go_wp2_with fail;go_loop [4,5] (λ v u=>∃i:Nat,i<=s.size/\u=af i/\v=af (lj (s.data.toList.take i):Nat)/\lj (s.data.toList.take i)<=9223372036854775807) (λ _ u=>s.size - (intOf u).toNat);case atStart=>exact⟨0,by omega,rfl,rfl,by simp[lj]⟩
    case round=>
     obtain⟨i,hi,rfl,rfl,hv⟩:=hrel;by_cases hlt:i < s.size
     ·have HB:=aa (eV s i hlt);obtain⟨d1,d2⟩:=ZF (HDG.ae s[i] (mem_of_getElem? HB.ae));have HV:=aa (ZE HB.ae);have xF:=aa (Pb s.data.toList (i+1));generalize NK:lj (s.data.toList.take i)=v at*;have HVV:=aa NK;clear NK;by_cases Ln:v*10+(s[i].toNat - 48)<=9223372036854775807
      ·have n1:=decide_eq_false (show¬((9223372036854775807 - ((s[i].toNat:Int) - 48))/ 10 <(v:Int)) by omega);go_wp2_with fail;go_round;case rel=>
        refine⟨i+1,hlt,by go_num,?_,by rw[HV.ae];exact Ln⟩;rw[HV.ae];have:((v*10+(s[i].toNat - 48):Nat):Int)=(v:Int)*10+((s[i].toNat:Int) - 48):=by omega
        rw[this]
       case measure=>simp[intOf];omega
      ·have n1:=decide_eq_true (show((9223372036854775807 - ((s[i].toNat:Int) - 48))/ 10 <(v:Int)) by omega);go_wp2_with fail;go_ret2;refine Pc ?_ rfl;have h1:=xF.ae;rw[HV.ae] at h1;have h2:¬lj s.data.toList<=9223372036854775807:=by omega
       simp only[vL,h2];simp
     ·go_wp2_with fail;go_ret2;have e1:s.data.toList.take i=s.data.toList:=take_of_length_le Tas;rw[e1] at hv ⊢;exact aca (by rw[vL,HF.ae];simpa using hv) rfl
def zM (s:ByteArray)(at_:Nat)(w:World)(r:Except Nat (Wd×List UInt8))(e:Ending)(w':World):Prop:=
 match r with
 | .ok (d,rest)=>e=.returned (.tuple #[.agg #[ag d.k,.string ⟨d.s.toArray⟩,af d.n,af at_],af (s.size - rest.length:Nat),af 0])/\aj w w'
 | .error x=>e=.returned (.tuple #[.agg #[ag 0,au,af 0,af 0],af 0,af x])/\aj w w'
theorem vP{w:World}(h:Below B w w') (hq:B<=q)(a b c d:Value):Below B w ((((w'.setCell ⟨q,0,none⟩ a).setCell ⟨q,1,none⟩ b).setCell ⟨q,2,none⟩ c).setCell ⟨q,3,none⟩ d):=
 (((h.setCell (p:=⟨q,0,none⟩) hq a).setCell (p:=⟨q,1,none⟩) hq b).setCell (p:=⟨q,2,none⟩) hq c).setCell (p:=⟨q,3,none⟩) hq d
theorem ZG (s:ByteArray)(at_:Nat)(w:World)(ha:at_ < s.size)(hdg:fM s[at_]=true)(hs:s.size<=4294967280):
  ar 132 #[.string s,af at_] w (zM s at_ w (ij (s.data.toList.drop at_))):=by
 have hd:=cF (eV s at_ ha);have hc:ij (s.data.toList.drop at_)=if ik eQ s.data.toList at_ - at_<=32 then .ok (⟨1,((s.data.toList.drop at_).takeWhile eQ).map vK,0⟩,(s.data.toList.drop at_).dropWhile eQ)else .error 2:=by rw[abX,hd];simp only[ij,if_pos hdg]
 generalize ij (s.data.toList.drop at_)=R at*;have Z4:=aa hc;have HL0:=aa hdg;have HLEN:=aa (show s.data.toList.length=s.size by simp);clear hc hd hdg;go_enter Tryz.func132,Tryz.ntmps132;go_wp2_with (go_at_call 174;refine(ej s[at_] _).mono ?_;rintro e w' ⟨rfl,rfl⟩;rw[HL0.ae]);have HZ:=aa (aB.new w 172 #[ag 0,au,af 0,af 0]);have bb:=ah w (.cells #[ag 0,au,af 0,af 0] 172);have hsz:(w.alloc (.cells #[ag 0,au,af 0,af 0] 172)).heap.size=w.heap.size+1:=by simp
 generalize w.alloc (.cells #[ag 0,au,af 0,af 0] 172)=W at*;have HSZ:=aa hsz;clear hsz;go_loop [8] (λ u=>∃k:Nat,at_<=k/\k<=s.size/\u=af k/\ik eQ s.data.toList at_=ik eQ s.data.toList k) (λ u=>s.size - (intOf u).toNat);case atStart=>exact⟨at_,Nat.le_refl _,by omega,rfl,rfl⟩
 case round=>
  obtain⟨k,DR,hk2,rfl,hf⟩:=hrel;have HF:=aa hf;clear hf;by_cases hlt:k < s.size
  ·have HB:=aa (eV s k hlt);cases hl:fM s[k]
   ·have HL:=aa hl;cases hd:bC s[k]
    ·have HD:=aa hd;have mF:=aa (show ik eQ s.data.toList at_=k by rw[HF.ae];exact Sg HB.ae (by simp[eQ,hl,hd]));clear hl hd;by_cases h32:k - at_<=32
     ·have n1:=decide_eq_false (show¬(32:Int)<(k:Int) - at_ by omega);go_wp2_with (first
       |(go_at_call 174;refine(ej s[k] _).mono ?_;rintro e w' ⟨rfl,rfl⟩;rw[HL.ae])
       |(go_at_call 175;refine(eM s[k] _).mono ?_;rintro e w' ⟨rfl,rfl⟩;rw[HD.ae]))
      exact Za4
     ·have n1:=decide_eq_true (show(32:Int)<(k:Int) - at_ by omega);obtain⟨z0,z1,z2,z3,y0,y1,y2,y3⟩:=bO HZ.ae;go_wp2_with (first
       |(go_at_call 174;refine(ej s[k] _).mono ?_;rintro e w' ⟨rfl,rfl⟩;rw[HL.ae])
       |(go_at_call 175;refine(eM s[k] _).mono ?_;rintro e w' ⟨rfl,rfl⟩;rw[HD.ae]))
      exact ZeO
    ·have HD:=aa hd;have mF:=aa (show ik eQ s.data.toList at_=ik eQ s.data.toList (k+1) by rw[HF.ae];exact BL HB.ae (by simp[eQ,hl,hd]));clear hl hd;go_wp2_with (first
      |(go_at_call 174;refine(ej s[k] _).mono ?_;rintro e w' ⟨rfl,rfl⟩;rw[HL.ae])
      |(go_at_call 175;refine(eM s[k] _).mono ?_;rintro e w' ⟨rfl,rfl⟩;rw[HD.ae]))
     exact ZdO
   ·have HL:=aa hl;have mF:=aa (show ik eQ s.data.toList at_=ik eQ s.data.toList (k+1) by rw[HF.ae];exact BL HB.ae (by simp[eQ,hl]));clear hl;go_wp2_with (go_at_call 174;refine(ej s[k] _).mono ?_;rintro e w' ⟨rfl,rfl⟩;rw[HL.ae]);exact ZdO
  ·have mF:=aa (show ik eQ s.data.toList at_=k by rw[HF.ae];exact Lj Tas);by_cases h32:k - at_<=32
   ·have n1:=decide_eq_false (show¬(32:Int)<(k:Int) - at_ by omega);go_wp2_with fail;exact Za4
   ·have n1:=decide_eq_true (show(32:Int)<(k:Int) - at_ by omega);obtain⟨z0,z1,z2,z3,y0,y1,y2,y3⟩:=bO HZ.ae;go_wp2_with fail;exact ZeO
theorem zgg.KbA(h:p:=by rw[if_neg Taa] at he;subst he;exact ZcF):p:=h
theorem zgh.KbA(h:p:=by rw[if_pos rfl] at he;subst he;go_wp2_with (go_at_call 174;refine(ej s[k] _).mono ?_;rintro e w' ⟨rfl,rfl⟩;rw[HLB.ae]);exact Zc9):p:=h
theorem zgi.KbA(h:p:=by
 rw[if_pos rfl] at he;subst he;go_wp2_with (go_at_call 174;refine(ej s[k] _).mono ?_;rintro e w' ⟨rfl,rfl⟩;rw[HLB.ae]);refine bodyPost_ret (v:=.tuple #[.agg #[ag 0,au,af 0,af 0],af 0,af 30]) ZbF rfl ?_
 ·rw[HR.ae];exact Zb0):p:=h
theorem zej.KaR(h:p:=by
 cases UJ:vL ((s.data.toList.drop at_).takeWhile bC)
 ·have pT:=aa UJ;clear UJ;open zgg in exact Zed
 ·have pT:=aa UJ;clear UJ;cases DT:fM s[k]
  ·have HLB:=aa DT;have HR:=aa (show R=.ok (⟨2,[],lj ((s.data.toList.drop at_).takeWhile bC)⟩,(s.data.toList.drop at_).dropWhile bC) by
    rw[rq.ae,pT.ae,Sn.ae,cF HB.ae]
    simp[DT])
   clear DT;open zgh in exact Zed
  ·have HLB:=aa DT;have HR:=aa (show R=.error 30 by
    rw[rq.ae,pT.ae,Sn.ae,cF HB.ae]
    simp[DT])
   clear DT;open zgi in exact Zed):p:=h
theorem zek.KaR(h:p:=by
 cases UJ:vL ((s.data.toList.drop at_).takeWhile bC)
 ·have pT:=aa UJ;clear UJ;go_wp2_with fail;refine HN.ae.mono ?_;unfold jP;rw[HE.ae,pT.ae];rintro e w1 ⟨he,rfl⟩;rw[if_neg Taa] at he;subst he;exact ZcF
 ·have pT:=aa UJ;clear UJ;have HR:=aa (show R=.ok (⟨2,[],lj ((s.data.toList.drop at_).takeWhile bC)⟩,(s.data.toList.drop at_).dropWhile bC) by
   rw[rq.ae,pT.ae,Sn.ae,drop_eq_nil_of_le Tas]
   rfl)
  go_wp2_with fail;refine HN.ae.mono ?_;unfold jP;rw[HE.ae,pT.ae];rintro e w1 ⟨he,rfl⟩;rw[if_pos rfl] at he;subst he;go_wp2_with fail;exact Zc9):p:=h
theorem one_num (s:ByteArray)(at_:Nat)(w:World)(ha:at_ < s.size)(hdg:fM s[at_]=false)(hc:bC s[at_]=true)(hs:s.size<=4294967280):
  ar 132 #[.string s,af at_] w (zM s at_ w (ij (s.data.toList.drop at_))):=by
 have hd:=cF (eV s at_ ha);have mo:ij (s.data.toList.drop at_)=if vL ((s.data.toList.drop at_).takeWhile bC)&& !(((s.data.toList.drop at_).dropWhile bC).head?.any fM)then .ok (⟨2,[],lj ((s.data.toList.drop at_).takeWhile bC)⟩,(s.data.toList.drop at_).dropWhile bC)else .error 30:=by rw[hd];simp only[ij,hdg,if_pos hc];rfl
 have hq:0 <((s.data.toList.drop at_).takeWhile bC).length:=by rw[hd,takeWhile_cons,if_pos hc];simp
 generalize ij (s.data.toList.drop at_)=R at*;have rq:=aa mo;have alX:=aa hq;have Z4:=aa hc;have HL0:=aa hdg;have HLEN:=aa (show s.data.toList.length=s.size by simp);clear mo hd hc hdg hq;go_enter Tryz.func132,Tryz.ntmps132;go_wp2_with (first
  |(go_at_call 174;refine(ej s[at_] _).mono ?_;rintro e w' ⟨rfl,rfl⟩;rw[HL0.ae])
  |(go_at_call 175;refine(eM s[at_] _).mono ?_;rintro e w' ⟨rfl,rfl⟩;rw[Z4.ae]))
 have HZ:=aa (aB.new w 172 #[ag 0,au,af 0,af 0]);have bb:=ah w (.cells #[ag 0,au,af 0,af 0] 172);generalize w.alloc (.cells #[ag 0,au,af 0,af 0] 172)=W at*;go_loop [8] (λ u=>∃k:Nat,at_<=k/\k<=s.size/\u=af k/\ik bC s.data.toList at_=ik bC s.data.toList k) (λ u=>s.size - (intOf u).toNat);case atStart=>exact⟨at_,Nat.le_refl _,by omega,rfl,rfl⟩
 case round=>
  obtain⟨k,DR,hk2,rfl,hf⟩:=hrel;have HF:=aa hf;clear hf;by_cases hlt:k < s.size
  ·have HB:=aa (eV s k hlt);cases hd:bC s[k]
   ·have HD:=aa hd;have mF:=aa (show ik bC s.data.toList at_=k by rw[HF.ae];exact Sg HB.ae hd);clear hd;open zej in exact Zci
   ·have HD:=aa hd;have mF:=aa (show ik bC s.data.toList at_=ik bC s.data.toList (k+1) by rw[HF.ae];exact BL HB.ae hd);clear hd;go_wp2_with (go_at_call 175;refine(eM s[k] _).mono ?_;rintro e w' ⟨rfl,rfl⟩;rw[HD.ae]);exact ZdO
  ·have mF:=aa (show ik bC s.data.toList at_=k by rw[HF.ae];exact Lj Tas);open zek in exact Zci
theorem yP (s:ByteArray)(k:Nat)(hk:k < s.size):s.extract k (k+1)=⟨#[s[k]]⟩:=by
 have h:=oY s k (k+1)
 have h2:(s.data.toList.take (k+1)).drop k=[s[k]]:=by
  rw[drop_take,cF (eV s k hk)];have:k+1 - k=1:=by omega
  rw[this];rfl
 rw[h2] at h;apply Go.WideShapes.bytes_inj;rw[h]
theorem ll (s:ByteArray)(a b:Nat)(x y:Int)(hx:x=a)(hy:y=b)(hab:a<=b)(hb:b<=s.size)(w:World):
  (Instr.slice 9 (.string s) (some (af x)) (some (af y)) none).run Tryz.prog w=.ok (.string (s.extract a b)) w:=by subst hx hy;have:=run_slice_string (P:=Tryz.prog) (w:=w) 9 s .i64 .i64 a b Tryz.underlying9 WC WC WC;exact ZeU
theorem zf0.Kbv(h:p:=by
 have HZ:=aa (aB.new w 172 #[ag 0,au,af 0,af 0]);have bb:=ah w (.cells #[ag 0,au,af 0,af 0] 172);generalize w.alloc (.cells #[ag 0,au,af 0,af 0] 172)=W at*;obtain⟨z0,z1,z2,z3,y0,y1,y2,y3⟩:=bO HZ.ae;clear t0;go_loop [8,11] (λ u x=>∃(k:Nat) (acc:List UInt8),k<=s.size/\acc.length<=k/\u=af k/\x=.string ⟨acc.toArray⟩/\more [] (fN (s.data.toList.drop (at_+1)))=more acc (fN (s.data.toList.drop k))) (λ u _=>s.size - (intOf u).toNat);case atStart=>exact⟨at_+1,[],ha,by simp,by go_num,rfl,rfl⟩
 case round=>
  obtain⟨k,acc,hk,acd,rfl,rfl,hf⟩:=hrel;have HF:=aa hf;clear hf;by_cases hlt:k < s.size
  ·have HB:=aa (eV s k hlt);by_cases hq:s[k]=39
   ·have HQ:=aa hq;have t1:(((s[k].toNat:Nat):Int)==39)=true:=by rw[hq];rfl
    clear hq;by_cases DR:k+1 < s.size
    ·have eB:=aa (eV s (k+1) DR);have n2:=decide_eq_false (show¬((s.size:Int)<=(k:Int)+1) by omega);by_cases JN:s[k+1]=39
     ·have UK:=aa JN;have t2:(((s[k+1].toNat:Nat):Int)==39)=true:=by rw[JN];rfl
      have t3:(((s[k+1].toNat:Nat):Int) != 39)=false:=by rw[JN];rfl
      have hx:=yP s (k+1) DR;have Au:=ll s (k+1) (k+1+1) ((k:Int)+1) ((k:Int)+1+1) WC WC WC WC W;rw[hx,JN] at Au;clear JN hx;go_wp2_with fail;go_round;case rel=>refine⟨k+2,acc++ [39],by omega,by simp;omega,by go_num,by rw[lY],?_⟩;rw[HF.ae,cF HB.ae,cF eB.ae,HQ.ae,UK.ae,Zy]
      case measure=>exact Za0
     ·have t2:(((s[k+1].toNat:Nat):Int)==39)=false:=by rw[beq_eq_false_iff_ne];intro h;exact JN (UInt8.toNat_inj.1 (by simpa using(by omega:s[k+1].toNat=39)))
      have t3:(((s[k+1].toNat:Nat):Int) != 39)=true:=by simpa [bne] using t2
      have ahk:=aa (show(s.data.toList.drop (k+1)).head?≠some 39 by rw[cF eB.ae];simpa using JN);clear JN;exact Zco
    ·have n2:=decide_eq_true (show((s.size:Int)<=(k:Int)+1) by omega);have ahk:=aa (show(s.data.toList.drop (k+1)).head?≠some 39 by rw[drop_eq_nil_of_le Tas];simp);exact Zco
   ·have HQ:=aa hq;have t1:(((s[k].toNat:Nat):Int)==39)=false:=by rw[beq_eq_false_iff_ne];intro h;exact hq (UInt8.toNat_inj.1 (by simpa using(by omega:s[k].toNat=39)))
    have Au:=ll s k (k+1) (k:Int) ((k:Int)+1) rfl WC WC WC W;rw[yP s k hlt] at Au;clear hq;go_wp2_with fail;go_round;case rel=>refine⟨k+1,acc++ [s[k]],by omega,by simp;omega,by go_num,by rw[lY],?_⟩;rw[HF.ae,cF HB.ae,Pa HQ.ae]
    case measure=>exact Za0
  ·have ZI:=aa (show s.data.toList.drop k=[] by rw[drop_eq_nil_of_le Tas]);go_wp2_with fail;refine bodyPost_ret (v:=.tuple #[.agg #[ag 0,au,af 0,af 0],af 0,af 30]) ZbF rfl ?_
   ·rw[rq.ae,HF.ae,ZI.ae];exact Zb0):p:=h
theorem ZH (s:ByteArray)(at_:Nat)(w:World)(ha:at_ < s.size)(hc:fM s[at_]=false)(hdg:bC s[at_]=false)(hq:s[at_]=39)(hs:s.size<=4294967280):
  ar 132 #[.string s,af at_] w (zM s at_ w (ij (s.data.toList.drop at_))):=by
 have hd:=cF (eV s at_ ha)
 have mo:ij (s.data.toList.drop at_)=match more [] (fN (s.data.toList.drop (at_+1)))with
   | some (t,rest)=> .ok (⟨3,t,0⟩,rest)
   | none=> .error 30:=by
  rw[Zx,hd];simp only[ij,hc,hdg,if_pos hq];rfl
 generalize ij (s.data.toList.drop at_)=R at*;have t0:(((s[at_].toNat:Nat):Int)==39)=true:=by rw[hq];rfl
 open zf0 in exact Zd4
theorem UL{s:ByteArray} {a:Nat} (hb:a+x.length<=s.size):((s.extract a (a+x.length)).toList==x)=x.isPrefixOf (s.data.toList.drop a):=by
 rw[ByteArray.toList_eq,oY,drop_take,Nat.add_sub_cancel_left];rw[Bool.eq_iff_iff,beq_iff_eq,isPrefixOf_iff_prefix];constructor
 ·intro h;refine⟨(s.data.toList.drop a).drop x.length,?_⟩;have:=take_append_drop x.length (s.data.toList.drop a);rwa [h] at this
 ·rintro⟨r,h⟩;rw[<- h];simp
theorem UM{s:ByteArray} {a:Nat} (hb:¬a+x.length<=s.size)(ha:a<=s.size):x.isPrefixOf (s.data.toList.drop a)=false:=by rw[Bool.eq_false_iff];intro h;rw[isPrefixOf_iff_prefix] at h;have:=h.length_le;rw[length_drop] at this;simp at this;omega
theorem zf1.Kbv(h:p:=by
 have HZ:=aa ((aB.new w 172 #[ag 0,au,af 0,af 0]).alloc (.cells (signs.map λ l=>Value.string ⟨l.toArray⟩).toArray 9));have hG:aB ((w.alloc (.cells #[ag 0,au,af 0,af 0] 172)).alloc (.cells (signs.map λ l=>Value.string ⟨l.toArray⟩).toArray 9)) (w.heap.size+1) 9 (signs.map λ l=>Value.string ⟨l.toArray⟩).toArray:=by have:=aB.new (w.alloc (.cells #[ag 0,au,af 0,af 0] 172)) 9 (signs.map λ l=>Value.string ⟨l.toArray⟩).toArray;simpa using this
 have Kx:aj w ((w.alloc (.cells #[ag 0,au,af 0,af 0] 172)).alloc (.cells (signs.map λ l=>Value.string ⟨l.toArray⟩).toArray 9)):=((Below.refl _ _).alloc (Nat.le_refl _) _).alloc Tac _;have HG:=aa hG;clear hG t0;simp only[signs,map_cons,map_nil] at HZ HG Kx;generalize (w.alloc (.cells #[ag 0,au,af 0,af 0] 172)).alloc _=W at*;go_loopw [13] (λ u wr=>∃i n:Nat,i<=15/\u=af i/\wr=W.drewN n/\kJ signs (s.data.toList.drop at_)=kJ (signs.drop i) (s.data.toList.drop at_)) (λ u _=>15 - (intOf u).toNat);case atStart=>exact⟨0,0,by omega,rfl,rfl,rfl⟩
 case round=>
  obtain⟨i,n,hi,rfl,rfl,hsg⟩:=hrel;have pT:=aa hsg;clear hsg;have HZn:=aa (HZ.ae.drewN n);have bb:=Kx.trans ((mN W n).mono Kx.size);by_cases ama:i < 15
  ·obtain⟨x,hx,hdx,hx1,hx2⟩:=abY ama
   have hcell:(W.drewN n).cell? ⟨w.heap.size+1,i,none⟩=some (.string ⟨x.toArray⟩):=by
    rw[(HG.ae.drewN n).cell i];have:(signs.map λ l=>Value.string ⟨l.toArray⟩).toArray[i]?=some (.string ⟨x.toArray⟩):=by simp[hx]
    exact this
   generalize hWn:W.drewN n=Wn at*;have HWN:=aa hWn;have HDX:=aa hdx;clear hWn hx hdx;by_cases hto:at_+x.length<=s.size
   ·have n1:=decide_eq_true (show((at_:Int)+(x.length:Int))<=(s.size:Int) by omega);have HT:=aa (UL hto);cases hp:x.isPrefixOf (s.data.toList.drop at_)
    ·have HP:=aa hp;have t1:((s.extract at_ (at_+x.length)).toList==x)=false:=HT.ae.trans hp;have Au:=λ W':World=>ll s at_ (at_+x.length) (at_:Int) ((at_:Int)+(x.length:Int)) rfl WC WC hto W'
     clear hp;exact Zda
    ·have HP:=aa hp;have t1:((s.extract at_ (at_+x.length)).toList==x)=true:=HT.ae.trans hp;have Au:=λ W':World=>ll s at_ (at_+x.length) (at_:Int) ((at_:Int)+(x.length:Int)) rfl WC WC hto W'
     clear hp;go_wp2_with fail;go_quiet (fail);obtain⟨z0,z1,z2,z3,y0,y1,y2,y3⟩:=bO (HZn.ae.drewN nq);have bq:=bb.trans ((mN Wn nq).mono bb.size);have Zk:(Wn.drewN nq).cell? ⟨w.heap.size+1,i,none⟩=some (.string ⟨x.toArray⟩):=hcell;generalize Wn.drewN nq=Wq at*;clear hcell;go_wp2_with fail;refine bodyPost_ret (v:=.tuple #[.agg #[ag 4,.string ⟨x.toArray⟩,af 0,af at_],af ((at_:Int)+(x.length:Int)),af 0]) ZbF rfl ?_
     ·have e1:kJ signs (s.data.toList.drop at_)=some x:=by rw[pT.ae,HDX.ae,kJ,if_pos HP.ae]
      rw[rq.ae,e1];unfold zM;simp only;have e2:s.size - ((s.data.toList.drop at_).drop x.length).length=at_+x.length:=by rw[drop_drop,length_drop,HLEN.ae];omega
      rw[e2];exact⟨rfl,vP bq (Nat.le_refl _) _ _ _ _⟩
   ·have n1:=decide_eq_false (show¬((at_:Int)+(x.length:Int))<=(s.size:Int) by omega);have HP:=aa (UM hto WC);exact Zda
  ·obtain rfl:i=15:=by omega
   obtain⟨z0,z1,z2,z3,y0,y1,y2,y3⟩:=bO HZn.ae;generalize W.drewN n=Wn at*;exact ZcF):p:=h
theorem ZJ (s:ByteArray)(at_:Nat)(w:World)(ha:at_ < s.size)(hc:fM s[at_]=false)(hdg:bC s[at_]=false)(hq:s[at_]≠39)(hs:s.size<=4294967280):
  ar 132 #[.string s,af at_] w (zM s at_ w (ij (s.data.toList.drop at_))):=by
 have hd:=cF (eV s at_ ha)
 have mo:ij (s.data.toList.drop at_)=match kJ signs (s.data.toList.drop at_)with
   | some x=> .ok (⟨4,x,0⟩,(s.data.toList.drop at_).drop x.length)
   | none=> .error 30:=by
  rw[hd];simp only[ij,hc,hdg,if_neg hq];rfl
 generalize ij (s.data.toList.drop at_)=R at*;have t0:(((s[at_].toNat:Nat):Int)==39)=false:=by rw[beq_eq_false_iff_ne];intro h;exact hq (UInt8.toNat_inj.1 (by simpa using(by omega:s[at_].toNat=39)))
 open zf1 in exact Zd4
theorem ace (s:ByteArray)(at_:Nat)(w:World)(ha:at_ < s.size)(hs:s.size<=4294967280):
  ar 132 #[.string s,af at_] w (zM s at_ w (ij (s.data.toList.drop at_))):=by
 cases hl:fM s[at_]
 ·cases hd:bC s[at_]
  ·by_cases hq:s[at_]=39
   ·exact ZH s at_ w ha hl hd hq hs
   ·exact ZJ s at_ w ha hl hd hq hs
  ·exact one_num s at_ w ha hl hd hs
 ·exact ZG s at_ w ha hl hs
def LX (n:Nat)(r:List UInt8):Except (Nat×Nat) (List qY):=xy n (n+1) r
def pre (acc:List qY):Except (Nat×Nat) (List qY)->Except (Nat×Nat) (List qY)
 | .error e=> .error e
 | .ok l=> .ok (acc++l)
def ZK (n:Nat):qY:=⟨⟨0,[],0⟩,n⟩
theorem xG (b:Bool)(r:List UInt8):cy false (cy b r)=cy b r:=by
 induction r generalizing b with
 | nil=>cases b <;> rfl
 | cons d r ih=>
   cases b with
   | true=>
     simp only[cy];split
     ·exact ih false
     ·exact ih true
   | false=>
     by_cases h1:qX d=true
     ·simp only[cy,if_pos h1];exact ih false
     ·by_cases h2:d=45/\r.head?=some 45
      ·simp only[cy,if_neg h1,if_pos h2];exact ih true
      ·have:cy false (d::r)=d::r:=by simp only[cy,if_neg h1,if_neg h2]
       rw[this,this]
theorem Sp (n:Nat)(r:List UInt8):LX n (cy false r)=LX n r:=by unfold LX;simp only[xy];have:=xG false r;rw[this]
theorem ahm{n:Nat} (h:cy false r=[]):LX n r=.ok [ZK n]:=by unfold LX;simp only[xy,h];rfl
variable{r':List UInt8}
theorem ahn{n:Nat}  {c:UInt8} {e:Nat}(h:cy false r=c::r')(ho:ij (c::r')=.error e):LX n r=.error (n - (c::r').length,e):=by unfold LX;simp only[xy,h,ho]
theorem amb{n:Nat}  {c:UInt8} {w:Wd}(hr:r.length<=n)(h:cy false r=c::r')(ho:ij (c::r')=.ok (w,rest)):LX n r=pre [⟨w,n - (c::r').length⟩] (LX n rest):=by
 have h1:=Am ho;have h2:=jY false r;rw[h] at h2;unfold LX;conv=>lhs;unfold xy
 simp only[h,ho];rw[FK n n (n+1) rest WC WC];cases xy n (n+1) rest <;> rfl
theorem acf (a b:List qY)(x:Except (Nat×Nat) (List qY)):pre a (pre b x)=pre (a++b) x:=by cases x <;> simp[pre]
theorem acg (x:Except (Nat×Nat) (List qY)):pre [] x=x:=by cases x <;> rfl
theorem ZL{x:Nat}(h:ij r=.error x):x=2\/x=30:=by
 cases r with
 | nil=>simp[ij] at h;exact .inr h.symm
 | cons c r=>
   simp only[ij] at h;split at h
   ·split at h
    ·cases h
    ·injection h with h;exact .inl h.symm
   ·split at h
    ·exact Zfk
    ·split at h
     ·exact Zfk
     ·exact Zfk
theorem Lp{w:Wd}(h:ij r=.ok (w,rest)):rest <:+ r:=by obtain⟨b,hb,_⟩:=BH h;exact⟨b,hb.symm⟩
def ru (t:qY):List Value:=[ag t.w.k,.string ⟨t.w.s.toArray⟩,af t.w.n,af t.p]
theorem Lr:(Tryz.prog.info? 172).map (λ i=>(i.zero,i.size,i.bytes))=some (some (.agg #[ag 0,au,af 0,af 0]),4,40):=by exact Zgn
def Ls (w:World)(base:Nat)(v:Value)(l:List qY):Prop:=aF ru 172 4 w base v l
def vQ (s:ByteArray)(w:World)(e:Ending)(w':World):Prop:=
 match zK s.data.toList with
 | .error (p,x)=>e=.returned (.tuple #[az,af p,af x])/\aj w w'
 | .ok l=>∃v,e=.returned (.tuple #[v,af 0,af 0])/\Ls w' w.heap.size v l/\aj w w'
theorem ZM{s:ByteArray}(h:4096 < s.size):zK s.data.toList=.error (0,2):=by unfold zK;rw[if_pos Tak]
theorem ach{s:ByteArray}(h:¬4096 < s.size):zK s.data.toList=LX s.size s.data.toList:=by
 unfold zK LX;have:s.data.toList.length=s.size:=by simp
 rw[this,if_neg h]
structure ZN (s:ByteArray) (w:World) (a:Nat) (v:Value) (acc:List qY) (wr:World):Prop where
 bel:aj w wr
 own:Ls wr w.heap.size v acc
 le:a<=s.size
 len:acc.length<=a
 skip:cy false (s.data.toList.drop a)=s.data.toList.drop a
 more:LX s.size s.data.toList=pre acc (LX s.size (s.data.toList.drop a))
theorem ZO (s:ByteArray)(w:World)(hs:s.size<=4294967280):ar 85 #[.string s] w (vQ s w):=by
 by_cases amc:4096 < s.size
 ·unfold vQ;rw[ZM amc];go_enter Tryz.func85,Tryz.ntmps85;go_wp2_with fail;go_ret3;exact⟨rfl,Below.refl _ _⟩
 ·have HPO:=aa (ach amc);have HLEN:=aa (show s.data.toList.length=s.size by simp);go_enter Tryz.func85,Tryz.ntmps85;go_wp2_with fail;refine(FO s 0 _ (Nat.zero_le _) hs).mono ?_;rintro e w1 ⟨rfl,rfl⟩
  have hA:ZN s w (fH s 0) (az) [] w:=by
   refine⟨Below.refl _ _,aF.nil,xE _ _,Nat.zero_le _,?_,?_⟩
   ·rw[mQ];exact xG _ _
   ·rw[mQ,Sp,acg];rfl
  generalize fH s 0=a0 at*;have HA:=aa hA;clear hA;go_wp2_with fail;go_loopw [5,6] (λ x y wr=>∃(a:Nat) (acc:List qY) (u:Value),x=u/\y=af a/\ZN s w a u acc wr) (λ _ y _=>s.size - (intOf y).toNat);case atStart=>exact⟨a0,[],_,rfl,rfl,HA.ae⟩
  case round=>
   obtain⟨a,acc,u,hu,rfl,hA⟩:=hrel;have hu2:=hu.symm;clear hu;subst hu2;have aho:=hA.bel.size;have acd:=hA.len;have hae:=hA.le;have HA2:=aa hA;clear hA;by_cases ha:a < s.size
   ·go_wp2_with fail;refine(ace s a _ ha hs).mono ?_;intro e w2 hp;have HB:=aa (eV s a ha);rcases hres:ij (s.data.toList.drop a)with x |⟨d,rest⟩
    ·rw[hres] at hp;obtain⟨rfl,hb⟩:=hp;have hx:=ZL hres;have jI:=aa hres;have n1:((x:Int)==0)=false:=by rcases hx with rfl | rfl <;> rfl
     have n2:((x:Int) != 0)=true:=by rcases hx with rfl | rfl <;> rfl
     have n3:¬((x:Int)=0):=by omega
     clear hres;go_wp2_with fail;go_ret3;unfold vQ;rw[HPO.ae,HA2.ae.more,ahn (by rw[HA2.ae.skip];exact cF HB.ae) (by rw[<- cF HB.ae];exact jI.ae)];have e1:s.size - (s[a]::s.data.toList.drop (a+1)).length=a:=by rw[<- cF HB.ae,length_drop,HLEN.ae];omega
     rw[e1];exact⟨rfl,HA2.ae.bel.trans ((hb.mono aho).trans ((ah w2 _).mono (by have:=hb.size;omega)))⟩
    ·rw[hres] at hp;obtain⟨rfl,hb⟩:=hp;have jI:=aa hres;clear hres;have bW:=((Below.refl w2.heap.size w2).alloc (Nat.le_refl _) (.cells (ru ⟨d,a⟩).toArray 172)).alloc Tac (.cells (ru ⟨d,a⟩).toArray 172);have hown:Ls w2 w.heap.size u acc:=HA2.ae.own.later hb;have HO:=aa (hown.later bW);have hG:aB ((w2.alloc (.cells (ru ⟨d,a⟩).toArray 172)).alloc (.cells (ru ⟨d,a⟩).toArray 172)) (w2.heap.size+1) 172 (ru ⟨d,a⟩).toArray:=by have:=aB.new (w2.alloc (.cells (ru ⟨d,a⟩).toArray 172)) 172 (ru ⟨d,a⟩).toArray;simpa using this
     have HG:=aa hG;have amd:aj w ((w2.alloc (.cells (ru ⟨d,a⟩).toArray 172)).alloc (.cells (ru ⟨d,a⟩).toArray 172)):=HA2.ae.bel.trans ((hb.mono aho).trans (bW.mono (by have:=hb.size;omega)));have BP:=aa amd;clear hown hG amd bW hb;have Sq:rest <:+ s.data.toList:=(Lp jI.ae).trans (List.drop_suffix _ _);have hq:s.data.toList.drop (s.size - rest.length)=rest:=by have:=drop_suffix Sq;rwa [HLEN.ae] at this
     have aAj:rest.length < s.size - a:=by have:=Am jI.ae;rwa [length_drop,HLEN.ae] at this
     have HQ:=aa hq;have aAk:s.size - rest.length<=fH s (s.size - rest.length):=by unfold fH;rw[HQ.ae];have:=jY false rest;omega
     clear hq Sq;unfold ru at HG HO BP;go_wp2_with (first
      |(at_builtin
        refine aT rfl (.tmp 30) (.tmp 32) 164 rfl _ 40 Tryz.underlying164 Lr rfl WC ⟨d,a⟩ rfl (by simp[ru,Value.oneCell']) rfl HO.ae (w2.heap.size+1) rfl HG.ae WC WC BP.ae.size ?_
        intro v2 w3 o2 g2
        have b2:=bj HO.ae g2 BP.ae.size
        have O2:=aa o2
        have B2:=aa (BP.ae.trans b2)
        clear o2 g2 HO HG b2 BP))
     refine(FO s (s.size - rest.length) _ (Nat.sub_le _ _) hs).mono ?_;rintro e w4 ⟨rfl,rfl⟩;go_wp2_with fail;go_roundw
     case rel=>
      refine⟨fH s (s.size - rest.length),acc++ [qY.mk d a],v2,rfl,rfl,B2.ae,O2.ae,xE _ _,?_,?_,?_⟩
      ·rw[length_append,length_singleton];omega
      ·rw[mQ];exact xG _ _
      ·have e1:s.size - (s[a]::s.data.toList.drop (a+1)).length=a:=by rw[<- cF HB.ae,length_drop,HLEN.ae];omega
       rw[HA2.ae.more,amb (by rw[length_drop,HLEN.ae];omega) (by rw[HA2.ae.skip];exact cF HB.ae) (by rw[<- cF HB.ae];exact jI.ae),e1,acf,mQ,Sp,HQ.ae]
     case measure=>have:=xE s (s.size - rest.length);exact Za0
   ·have hnil:s.data.toList.drop a=[]:=drop_eq_nil_of_le Tas;have ZI:=aa hnil;clear hnil;have bW:=(Below.refl wr.heap.size wr).alloc (Nat.le_refl _) (.cells (ru (ZK s.size)).toArray 172);have HO:=aa (HA2.ae.own.later bW);have HG:=aa (aB.new wr 172 (ru (ZK s.size)).toArray);have BP:=aa (HA2.ae.bel.trans (bW.mono aho));clear bW;unfold ru ZK at HG HO BP;go_wp2_with (first
     |(at_builtin
       refine aT rfl (.tmp 37) (.tmp 41) 164 rfl _ 40 Tryz.underlying164 Lr rfl WC (ZK s.size) rfl (by simp[ru,Value.oneCell']) rfl HO.ae wr.heap.size rfl HG.ae WC WC BP.ae.size ?_
       intro v2 w3 o2 g2
       have b2:=bj HO.ae g2 BP.ae.size
       have O2:=aa o2
       have B2:=aa (BP.ae.trans b2)
       clear o2 g2 HO HG b2 BP))
    go_ret3;unfold vQ;rw[HPO.ae,HA2.ae.more,ZI.ae,ahm rfl];exact⟨v2,rfl,O2.ae,B2.ae⟩
theorem Sr (t:qY):(ru t).length=4:=rfl
variable{base:Nat}
theorem Ls.at_{w:World}  {v:Value} {l:List qY}(h:Ls w base v l) {k:Nat} {t:qY}(hk:l[k]?=some t):
  ∃g c,v=aI g l.length c/\g < w.heap.size/\w.cell? ⟨g,k*4,none⟩=some (ag t.w.k)/\w.cell? ⟨g,k*4+1,none⟩=some (.string ⟨t.w.s.toArray⟩)/\w.cell? ⟨g,k*4+2,none⟩=some (af t.w.n)/\w.cell? ⟨g,k*4+3,none⟩=some (af t.p):=by obtain⟨g,c,hv,_,hlt,hc⟩:=aF.cell Sr h hk;exact⟨g,c,hv,hlt,hc 0 _ rfl,hc 1 _ rfl,hc 2 _ rfl,hc 3 _ rfl⟩
theorem Ls.cells{w:World}  {A:Option Addr} {n c:Nat} {l:List qY}(h:Ls w base (.slice A n c) l)(hne:l≠ []):
  ∃g,A=some ⟨g,0,none⟩/\base<=g/\g < w.heap.size/\∀k t,l[k]?=some t->w.cell? ⟨g,k*4,none⟩=some (ag t.w.k)/\w.cell? ⟨g,k*4+1,none⟩=some (.string ⟨t.w.s.toArray⟩)/\w.cell? ⟨g,k*4+2,none⟩=some (af t.w.n)/\w.cell? ⟨g,k*4+3,none⟩=some (af t.p):=by
 match l,hne with
 | t0::l,_=>obtain⟨g,c0,hv,hb,hlt,_⟩:=aF.cell Sr h (k:=0) (x:=t0) rfl;injection hv with hA _ _;refine⟨g,hA,hb,hlt,λ k t hk=>?_⟩;obtain⟨g',c',hv',_,a⟩:=h.at_ hk;injection hv' with hA' _ _;rw[hA] at hA';injection hA' with hA';injection hA' with hg _ _;subst hg;exact a
structure dt where
 g:Nat
 gl:Nat
 c:Nat
 UN:List qY
def dt.n (ρ:dt):Nat:=ρ.UN.length
def dt.ws (ρ:dt):dH:=ρ.UN.map (·.w)
def dt.bad (ρ:dt):ck->Int
 | .good _=> -1
 | .bad m=>(ρ.n:Int) - m
def dt.cells (ρ:dt)(σ:ck)(big:Bool):Array Value:= #[aI ρ.gl ρ.n ρ.c,af ((ρ.n:Int) - σ.left),af (ρ.bad σ),.bool big]
structure dt.at (ρ:dt) (w:World) (σ:ck) (big:Bool):Prop where
 blk:aB w ρ.g 169 (ρ.cells σ big)
 lt:ρ.gl < ρ.g
 cell:∀k t,ρ.UN[k]?=some t->w.cell? ⟨ρ.gl,k*4,none⟩=some (ag t.w.k)/\w.cell? ⟨ρ.gl,k*4+1,none⟩=some (.string ⟨t.w.s.toArray⟩)/\w.cell? ⟨ρ.gl,k*4+2,none⟩=some (af t.w.n)/\w.cell? ⟨ρ.gl,k*4+3,none⟩=some (af t.p)
 of:σ.of ρ.ws
 small:ρ.n<=5000
 ZP:∀t∈ρ.UN,0<=t.w.n/\t.w.n<=9223372036854775807
section
variable {ρ:dt} {w w':World} {σ:ck} {big:Bool}
theorem dt.at.later (h:ρ.at w σ big)(hb:aj w w'):ρ.at w' σ big:=
 ⟨h.blk.later hb,h.lt,λ k t hk=>by
   have hl:ρ.gl < w.heap.size:=Nat.lt_trans h.lt h.blk.lt
   have c:=λ o=>hb.cell (p:=⟨ρ.gl,o,none⟩) hl
   obtain⟨h1,h2,h3,h4⟩:=h.cell k t hk
   exact⟨(c _).trans h1,(c _).trans h2,(c _).trans h3,(c _).trans h4⟩,h.of,h.small,h.ZP⟩
theorem dt.at.FP (h:ρ.at w σ big):ρ.g < w.heap.size:=h.blk.lt
theorem dt.at.set {yQ:ck} {Pf:Bool}(h:ρ.at w σ big)(hw:aB w' ρ.g 169 (ρ.cells yQ Pf))(hg:w.grownBy w' (some ρ.g))(ho:yQ.of ρ.ws):ρ.at w' yQ Pf:=
 ⟨hw,h.lt,λ k t hk=>by
   have hl:ρ.gl < w.heap.size:=Nat.lt_trans h.lt h.blk.lt
   have c:=cell_of_heap (hg.block ρ.gl hl (λ e=>by injection e with e;have:=h.lt;omega))
   obtain⟨h1,h2,h3,h4⟩:=h.cell k t hk
   exact⟨(c _).trans h1,(c _).trans h2,(c _).trans h3,(c _).trans h4⟩,ho,h.small,h.ZP⟩
theorem dt.at.left (h:ρ.at w σ big):0 < σ.left/\σ.left<=ρ.n:=by have:=ck.OY h.of;simpa [dt.ws,dt.n] using this
theorem dt.at.far {q:Nat}(h:ρ.at w σ big)(hq:ρ.g < q)(i:Nat)(u:Value):ρ.at (w.setCell ⟨q,i,none⟩ u) σ big:=
 ⟨h.blk.far (p:=⟨q,i,none⟩) Tab u,h.lt,λ k t hk=>by
   have c:=cell_of_heap (Below.heap_setCell w ⟨q,i,none⟩ u ρ.gl (by have:=h.lt;simp;omega))
   obtain⟨h1,h2,h3,h4⟩:=h.cell k t hk
   exact⟨(c _).trans h1,(c _).trans h2,(c _).trans h3,(c _).trans h4⟩,h.of,h.small,h.ZP⟩
theorem dt.at.next (h:ρ.at w σ big):∃t:qY,ρ.UN[ρ.n - σ.left]?=some t/\(∀l,σ=.good l->∃r,l=t.w::r):=by
 obtain⟨h1,h2⟩:=h.left;have hlt:ρ.n - σ.left < ρ.UN.length:=by unfold dt.n at*;omega
 refine⟨_,getElem?_eq_getElem hlt,?_⟩;rintro l rfl;obtain⟨t,r,hl,hk⟩:=ck.of_next h.of;refine⟨r,?_⟩;have e:ρ.ws.length - l.length=ρ.n - (ck.good l).left:=by simp[dt.ws,dt.n,ck.left]
 rw[e] at hk;unfold dt.ws at hk;rw[getElem?_map,getElem?_eq_getElem hlt] at hk;simp only[Option.map_some] at hk;injection hk with hk;rw[hk];exact hl
end
structure eG (ρ:dt) (W w':World) (yQ:ck) (Pf:Bool):Prop where
 at_:ρ.at w' yQ Pf
 grown:W.grownBy w' (some ρ.g)
section
variable {ρ:dt} {W w w':World} {σ yQ:ck} {big Pf:Bool}
theorem eG.refl (h:ρ.at w σ big):eG ρ w w σ big:=⟨h,aR (Below.refl _ _)⟩
theorem eG.cY (h:ρ.at w σ big)(hb:aj w w'):eG ρ w w' σ big:=⟨h.later hb,aR hb⟩
theorem eG.later (h:eG ρ W w σ big)(hb:aj w w'):eG ρ W w' σ big:=⟨h.at_.later hb,aY h.grown (aR hb)⟩
theorem eG.trans (h:eG ρ W w σ big)(k:eG ρ w w' yQ Pf):eG ρ W w' yQ Pf:=⟨k.at_,aY h.grown k.grown⟩
theorem eG.size (h:eG ρ W w σ big):W.heap.size<=w.heap.size:=h.grown.size
theorem eG.far {q:Nat}(h:eG ρ W w σ big)(hW:ρ.g < W.heap.size)(hq:W.heap.size<=q)(i:Nat)(u:Value):eG ρ W (w.setCell ⟨q,i,none⟩ u) σ big:=by
 refine⟨h.at_.far WC i u,h.grown.os,h.grown.tape,h.grown.output,?_,λ k hk hkg=>?_⟩
 ·have:(w.setCell ⟨q,i,none⟩ u).heap.size=w.heap.size:=by simp[World.setCell]
  rw[this];exact h.grown.size
 ·rw[Below.heap_setCell w ⟨q,i,none⟩ u k Tab];exact h.grown.block k hk hkg
theorem eG.blk {q:Nat} {t:TypeId} {cs:Array Value}(h:eG ρ W w σ big)(hq:aB W q t cs)(hg:q≠ρ.g):aB w q t cs:=hq.grown h.grown λ e=>hg Tbi
end
end Go.Proofs.YtndgjggokjickaaGreatDoor.R
