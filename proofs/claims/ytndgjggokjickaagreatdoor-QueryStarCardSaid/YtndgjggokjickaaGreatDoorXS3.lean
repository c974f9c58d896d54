/- Parts of the proof. -/
import Derived.Shelf.Small.Bits
import Derived.Shelf.Strconv.Itoa3
import Derived.Shelf.SlicesE.Clone
import Derived.Shelf.Spec.BitsCarry
import Derived.Deep.DeepCutAuto
import Derived.Test.YtndgjggokjickaaGreatDoorXS2
namespace Go.Proofs.YtndgjggokjickaaGreatDoor
variable{p:Prop}
set_option maxHeartbeats 90000000
set_option maxRecDepth 100000
open Go.ChangeShapes Go.WideShapes Go.ChangeAt Go.RowKit List
set_option linter.unusedVariables false
set_option linter.unusedSimpArgs false
theorem Fk:Tryz.prog.cellsOf 113=2:=by exact ZhU
theorem TS:Tryz.prog.bytesOf 113=24:=by exact ZhU
theorem TU:Tryz.prog.bytesOf 44=32:=by exact ZhU
def aU (x:aZ):List Value:=[.string x.name,ag x.t]
variable{base:Nat}{cs:List Value}
theorem afp{w:World} {K:Nat} {a:Addr} (h:w.cells? base a K=some cs):cs.length=K/\∀i,i < K->w.cell? (a.add i)=cs[i]?:=by
 unfold World.cells? at h;split at h
 ·exact⟨by simpa using mapM_some_length h,λ i hi=>mapM_some_get h i i (by simp[hi])⟩
 ·cases h
variable{H:Type}
def Light(t:TypeId)(d:DataW H):Prop:=∀n∈d.weights Tryz.prog t,n<=reachBytes
section
variable {H:Type} {enc:TypeId×Value->H} {w:World} {base:Nat} {spare:Nat->Bool} {held:Bool}
theorem Fl {e:TypeId}:∀ {l:List (DataW H)},(∀n∈DataW.weightsAll Tryz.prog e l,n<=reachBytes)->∀d∈l,Light e d
 | [],_,d,h=>by cases h
 | x::l,hw,d,h=>by
   unfold DataW.weightsAll at hw;rcases List.mem_cons.1 h with rfl | h
   ·exact λ n hn=>hw n (mem_append_left _ hn)
   ·exact Fl (λ n hn=>hw n (mem_append_right _ hn)) d h
theorem KN {T e:TypeId} {es rs:List (DataW H)}(hT:Tryz.prog.underlying T=some (.slice e))(h:Light T (.slice es rs)):(es.length+rs.length)*Tryz.prog.bytesOf e<=reachBytes/\∀d∈es,Light e d:=by unfold Light at h;unfold DataW.weights at h;rw[hT] at h;dsimp only at h;exact⟨h _ (mem_cons_self ..),Fl λ n hn=>h n (mem_cons_of_mem _ (mem_append_left _ hn))⟩
theorem uv {α:Type}(f:α->List Value)(P:α->Prop)(K:Nat) {T e:TypeId}(hT:Tryz.prog.underlying T=some (.slice e))(hc:Tryz.prog.cellsOf e=K)(hK:0 < K)(hf:∀x,(f x).length=K) {fuel:Nat} {cs:List Value} {x:DataW H×List MemPlace}
  (hel:∀m,m < fuel->∀cs x,DataW.trod enc Tryz.prog w base spare held m e cs=some x->Light e x.1->∃a,cs=f a/\P a) (h:DataW.trod enc Tryz.prog w base spare held fuel T cs=some x) (hw:Light T x.1):
  ∃(A:Option Addr) (l:List α) (c:Nat),cs=[.slice A l.length c]/\(∀a∈l,P a)/\l.length*Tryz.prog.bytesOf e<=reachBytes/\(l=[]\/∃b off,A=some ⟨b,off,none⟩/\b < w.heap.size/\∀i x j u,l[i]?=some x->(f x)[j]?=some u->w.cell? ⟨b,off+i*K+j,none⟩=some u):=by
 rcases DataW.trod_slice hT h with ⟨hcs,_⟩|⟨ad,len,cap,elems,rest,n,hn,hcs,hx,_,hl,hm,hlen,he,_,_⟩
 ·exact⟨none,[],0,hcs,by simp,by simp,.inl rfl⟩
 ·subst hx hcs;obtain⟨hbytes,afq⟩:=KN hT hw;rw[length_map,length_map,hlen] at hbytes;have hb2:len*Tryz.prog.bytesOf e<=reachBytes:=Nat.le_trans (Nat.mul_le_mul_right _ WC) hbytes;rcases Nat.eq_zero_or_pos len with h0 | h0
  ·subst h0;exact⟨some ad,[],cap,rfl,by simp,by simp,.inl rfl⟩
  have uk:∀i,i < len->∃a:α,P a/\∀j,j < K->w.cell? ((ad.add (i*K)).add j)=(f a)[j]?:=by intro i hi;have h1:=he i hi;rw[getElem?_eq_getElem WC,hc] at h1;obtain⟨cs,h2,h3⟩:=Option.bind_eq_some_iff.1 h1;obtain⟨a,rfl,ha⟩:=hel n WC cs _ h3 (afq _ (List.mem_map.2 ⟨_,getElem_mem _,rfl⟩));exact⟨a,ha,(afp h2).2⟩
  obtain⟨a0,_,hc0⟩:=uk 0 h0;have hsome:∃u,(f a0)[0]?=some u:=⟨(f a0)[0]'(by rw[hf];exact hK),getElem?_eq_getElem _⟩;obtain⟨u0,Q0⟩:=hsome;have hlt:=lu ((hc0 0 hK).trans Q0);obtain⟨b,off,spot⟩:=ad;have hs:spot=none:=by have:=hlt.2;simpa [Addr.add] using this
  subst hs;have hbl:b < w.heap.size:=by have:=hlt.1;simpa [Addr.add] using this
  obtain⟨l,Ou,hp⟩:=pick len (P:=λ i a=>P a/\∀j,j < K->w.cell? ⟨b,off+i*K+j,none⟩=(f a)[j]?) λ i hi=>by obtain⟨a,ha,hca⟩:=uk i hi;refine⟨a,ha,λ j hj=>?_⟩;have:=hca j hj;simp only[dR] at this;exact this
  subst Ou;refine⟨some ⟨b,off,none⟩,l,cap,rfl,λ a ha=>?_,hb2,.inr ⟨b,off,rfl,hbl,λ i x j u hx hu=>?_⟩⟩
  ·obtain⟨i,hi,rfl⟩:=getElem_of_mem ha;exact(hp i _ (getElem?_eq_getElem hi)).1
  ·have hj:j < K:=by
    rcases Nat.lt_or_ge j K with h' | h'
    ·exact h'
    ·rw[getElem?_eq_none (by rw[hf];exact h')] at hu;cases hu
   rw[(hp i x hx).2 j hj];exact hu
theorem XT {fuel:Nat} {cs:List Value} {x:DataW H×List MemPlace}(h:DataW.trod enc Tryz.prog w base spare held fuel 113 cs=some x):∃a:aZ,cs=aU a/\0<=a.t/\a.t<=255:=by
 obtain⟨y0,y1,n,_,hl,t0,t1⟩:=trod_struct2 Tryz.underlying113 h;rw[Fk] at hl
 match cs,hl with
 | [c0,c1],_=>simp only[vN,KM,drop_succ_cons,drop_zero,take_succ_cons,take_zero] at t0 t1;obtain⟨s,q0,_,f0⟩:=DataW.trod_string Tryz.underlying9 t0;obtain⟨n1,q1,_,f1⟩:=DataW.trod_int Tryz.underlying5 t1;simp at q0 q1;subst q0 q1;exact⟨⟨s,n1⟩,rfl,adw f1⟩
theorem TV {fuel:Nat} {cs:List Value} {x:DataW H×List MemPlace}(h:DataW.trod enc Tryz.prog w base spare held fuel 28 cs=some x)(hw:Light 28 x.1):
  ∃A l c,cs=[.slice A l.length c]/\RC w w.heap.size A l/\l.length<=140737488355328/\∀a∈l,0<=a.t/\a.t<=255:=by
 obtain⟨A,l,c,q,hP,hby,cg⟩:=uv aU (λ a=>0<=a.t/\a.t<=255) 2 Tryz.underlying28 Fk WC (λ _=>rfl) (λ m hm cs x h1 _=>XT h1) h hw;rw[TS] at hby;refine⟨A,l,c,q,?_,by unfold reachBytes at hby;omega,hP⟩;rcases cg with cg |⟨b,off,rfl,hb,cg⟩
 ·exact .inl cg
 ·exact .inr ⟨b,off,rfl,hb,λ i y hy=>⟨cg i y 0 _ hy rfl,cg i y 1 _ hy rfl⟩⟩
theorem TW {fuel:Nat} {cs:List Value} {x:DataW H×List MemPlace}(h:DataW.trod enc Tryz.prog w base spare held fuel 38 cs=some x)(hw:Light 38 x.1):
  ∃A l c,cs=[.slice A l.length c]/\RV w w.heap.size A l/\l.length<=140737488355328/\∀a∈l,a.Ok/\0<=a.k/\a.k<=255:=by
 obtain⟨A,l,c,q,hP,hby,cg⟩:=uv aX (λ a=>a.Ok/\0<=a.k/\a.k<=255) 3 Tryz.underlying38 yU WC (λ _=>rfl) (λ m hm cs x h1 _=>XS h1) h hw;rw[TU] at hby;refine⟨A,l,c,q,?_,by unfold reachBytes at hby;omega,hP⟩;rcases cg with cg |⟨b,off,rfl,hb,cg⟩
 ·exact .inl cg
 ·exact .inr ⟨b,off,rfl,hb,λ i y hy=>⟨cg i y 0 _ hy rfl,cg i y 1 _ hy rfl,cg i y 2 _ hy rfl⟩⟩
end
section
variable {H:Type} {enc:TypeId×Value->H} {W:World} {base:Nat} {v:Value} {d:DataW H} {p:List MemPlace}
theorem cols_open (ok:Value.okWide Tryz.prog W .any base 28 v)(k:DataW.Trod enc Tryz.prog W 0 (λ _=>true) true 28 v d p)(hw:Light 28 d):
  ∃A l c,v=.slice A l.length c/\RC W W.heap.size A l/\l.length<=140737488355328/\∀a∈l,0<=a.t/\a.t<=255:=by obtain⟨a,len,cap,rfl⟩:=okWide_slice Tryz.underlying28 ok;obtain⟨fuel,hf⟩:=k;obtain⟨A,l,c,q,h⟩:=TV hf hw;exact ZhA
end
def Tr.op:Tr->Int | .mk op _ _ _ _=>op
def Tr.v:Tr->Val | .mk _ v _ _ _=>v
def Tr.name:Tr->ByteArray | .mk _ _ name _ _=>name
def Tr.args:Tr->List Tr | .mk _ _ _ _ args=>args
def RD (n a b m:Int):Int:=wrap64 (wrap64 (wrap64 (wrap64 (n+1)+wrap64 (wrap64 (a / 5000)*2000))+wrap64 (wrap64 (b / 5000)*2000))+m)
mutual
def Tr.size:Tr->Int
 | .mk op v name width args=>Tr.mY 0 args
def Tr.mY:Int->List Tr->Int
 | n,[]=>n
 | n,.mk op v name width args::ts=>if n < 2000 then Tr.mY (RD n name.size v.s.size (Tr.mY 0 args)) ts else n
end
variable{S:Nat->Prop}
theorem Tr.aQ.get{w:World} :∀ {ts:List Tr} {ys:List Ex} {i:Nat} {t:Tr},Tr.aQ w S ts ys->ts[i]?=some t->∃y,ys[i]?=some y/\t.at_ w S y
 | [],ys,i,t,h,ht=>by simp at ht
 | x::ts,ys,0,t,h,ht=>by unfold Tr.aQ at h;obtain⟨y,ys',rfl,h2,h3⟩:=h;simp at ht;subst ht;exact⟨y,rfl,h2⟩
 | x::ts,ys,i+1,t,h,ht=>by unfold Tr.aQ at h;obtain⟨y,ys',rfl,h2,h3⟩:=h;have:=Tr.aQ.get h3 (i:=i) (t:=t) (by simpa using ht);simpa using this
def Ov (w:World)(y:Ex)(n:Int):Prop:=∀W,aj w W->ar 22 #[.slice y.A y.n y.c] W λ e w'=>e=.returned (af n)/\aj W w'
theorem zem.KaO(h:p:=by
 clear bM x9 c1 hc;go_wp2_with fail;go_roundw;case rel=>refine⟨k+1,RD n y.name.size y.v.s.size m,hlt,by go_num,by unfold RD;rfl,?_,ai.then hb hL⟩;rw[HF.ae,HD.ae];exact HG.ae
 case measure=>exact Za6):p:=h
theorem RF (A:Option Addr)(c:Nat)(ts:List Tr)(ys:List Ex)(w:World)(hl:ts.length<=1599289640356)(hm:Tr.aQ w (Old w) ts ys)(hA:RE w w.heap.size A ys)(hE:∀(i:Nat) (t:Tr) (y:Ex),ts[i]?=some t->ys[i]?=some y->Ov w y t.size):
  ar 22 #[.slice A ts.length c] w λ e w'=>e=.returned (af (Tr.mY 0 ts))/\aj w w':=by
 have HA:=aa hA;have HE:=aa hE;have HL:=aa hm;clear hA hE hm;go_enter Tryz.func22,Tryz.ntmps22;go_wp2_with fail;go_loopw [3,4] (λ nv i wr=>∃(k:Nat) (n:Int),k<=ts.length/\i=af k/\nv=af n/\Tr.mY 0 ts=Tr.mY n (ts.drop k)/\aj w wr) (λ _ i _=>ts.length - (intOf i).toNat);case atStart=>exact⟨0,0,Nat.zero_le _,rfl,rfl,rfl,Below.refl _ _⟩
 case round=>
  obtain⟨k,n,hk,rfl,rfl,hF,hb⟩:=hrel;have HF:=aa hF;clear hF;by_cases hlt:k < ts.length
  ·have HD:=aa (show ts.drop k=ts[k]::ts.drop (k+1)from drop_eq_getElem_cons hlt);obtain⟨y,hy,hat⟩:=HL.ae.get (getElem?_eq_getElem hlt);have hsz:=HE.ae k _ y (getElem?_eq_getElem hlt) hy;by_cases h2:n < 2000
   ·have hyk:k < ys.length:=by
     rcases Nat.lt_or_ge k ys.length with h | h
     ·exact h
     ·rw[getElem?_eq_none h] at hy;cases hy
    obtain⟨b,off,rfl,kE,hc⟩:=(HA.ae.below hb).at_ hyk;have jn:ys[k]=y:=by rw[getElem?_eq_getElem hyk] at hy;simpa using hy
    rw[jn] at hc;clear jn hy hyk;generalize ts[k]=t at*;obtain⟨top,tv,KO,BA,targs⟩:=t;unfold Tr.at_ at hat;have h4:=hat.2.1;have h5:=hat.2.2.1;clear hat;have HG:=aa (show Tr.mY n (.mk top tv KO BA targs::ts.drop (k+1))=Tr.mY (RD n y.name.size y.v.s.size (Tr.size (.mk top tv KO BA targs))) (ts.drop (k+1)) by
     rw[h4,h5]
     conv=>lhs;unfold Tr.mY
     rw[if_pos h2]
     rfl)
    clear h4 h5;generalize Tr.size (.mk top tv KO BA targs)=m at*;have t1:=decide_eq_true h2;have c1:=λ x:Ext wr.heap.size wr=>(hc.keep (w':=x.w) λ o=>x.h.cell (p:=⟨b,o,none⟩) (Nat.lt_of_lt_of_le kE hb.size))
    unfold cy at c1;have aag:=λ x:Ext wr.heap.size wr=>hsz x.w (ai.then hb x.h)
    go_wp2_with fail;refine aD 28 wr.heap.size wr (Below.refl _ _) Vx Vx Vx Vx ?_;simp only[Uab];repeat (go_big_quiet_step (fail))
    go_big_quiet_step ((go_at_call 22;exact aB (Nat.le_refl _) (aag _)));open zem in exact ZbB
   ·have t1:=decide_eq_false h2;generalize ts[k]=t at*;obtain⟨top,tv,KO,BA,targs⟩:=t;have HG:=aa (show Tr.mY n (.mk top tv KO BA targs::ts.drop (k+1))=n by
     unfold Tr.mY
     rw[if_neg h2])
    clear hsz hat hy;go_wp2_with fail;go_ret;refine⟨?_,hb⟩;rw[HF.ae,HD.ae,HG.ae];rfl
  ·go_wp2_with fail;go_ret;refine⟨?_,hb⟩;rw[HF.ae,drop_eq_nil_of_le WC];unfold Tr.mY;rfl
mutual
theorem Tr.aah:∀(t:Tr) (y:Ex) (w:World),t.ok->t.at_ w (Old w) y->Ov w y t.size
 | .mk op v name width args,y,w,bh,hat=>by intro W hb;have oh:=hat.later hb;unfold Tr.at_ at oh;obtain⟨h1,h2,h3,h4,h5,ys,h6,h7⟩:=oh;unfold Tr.ok at bh;have k:=RF y.A y.c args ys W bh.2.1 h7 h6.old (Tr.BC args ys W bh.2.2.2.2.2 h7);rw[h5];unfold Tr.size;exact k
theorem Tr.BC:∀(ts:List Tr) (ys:List Ex) (w:World),Tr.cP ts->Tr.aQ w (Old w) ts ys->∀(i:Nat) (t:Tr) (y:Ex),ts[i]?=some t->ys[i]?=some y->Ov w y t.size
 | [],ys,w,_,_,i,t,y,ht,_=>by simp at ht
 | x::ts,ys,w,bh,hat,i,t,y,ht,hy=>by
   unfold Tr.aQ at hat;unfold Tr.cP at bh;obtain⟨y',ys',rfl,h2,h3⟩:=hat
   match i,ht,hy with
   | 0,ht,hy=>simp at ht hy;subst ht hy;exact Tr.aah x y' w bh.1 h2
   | i+1,ht,hy=>exact Tr.BC ts ys' w bh.2 h3 i t y (by simpa using ht) (by simpa using hy)
end
def ru (w:World)(e:Ending)(w':World):Prop:=∃b:Bool,e=.returned (.bool b)/\aj w w'
open Go.Shelf
def Tryz.lays134_ren:Go.Shelf.Ren:=⟨λ | 134=>214 | 129=>210 | n=>n,λ | 53=>195 | 3=>3 | 4=>4 | 46=>184 | 5=>5 | 9=>9 | n=>n,λ | n=>n⟩
theorem Tryz.lays134:Go.Proofs.Lays.n134 Tryz.prog Tryz.lays134_ren:= {
 mixed:=by kernel_rfl
 f129:=Tryz.func210.trans (congrArg some Vx)
 f134:=Tryz.func214.trans (congrArg some Vx)
 t3:=Tryz.underlying3
 a3:=Tryz.isAgg3
 z3:=Tryz.sizeOf3
 v3:=Tryz.zeroValue3
 t4:=Tryz.underlying4
 a4:=Tryz.isAgg4
 z4:=Tryz.sizeOf4
 v4:=Tryz.zeroValue4
 t5:=Tryz.underlying5
 a5:=Tryz.isAgg5
 z5:=Tryz.sizeOf5
 v5:=Tryz.zeroValue5
 t9:=Tryz.underlying9
 a9:=Tryz.isAgg9
 z9:=Tryz.sizeOf9
 v9:=Tryz.zeroValue9
 t46:=Tryz.underlying184
 a46:=Tryz.isAgg184
 z46:=Tryz.sizeOf184
 v46:=Tryz.zeroValue184
 t53:=Tryz.underlying195
 a53:=Tryz.isAgg195
 z53:=Tryz.sizeOf195
 v53:=Tryz.zeroValue195 }
theorem Tryz.bits_LeadingZeros64 (x:Int)(w:World)(h0:0<=x)(h1:x<=18446744073709551615):
 ar 214 #[.int .u64 x] w λ e w'=>e=.returned (af (64 - (Lib.bitLen x.toNat:Int)))/\w'=w:=Any.bits_LeadingZeros64 Tryz.lays134 x w h0 h1
def Tryz.laysM171_ren:Go.Shelf.Ren:=⟨λ | 171=>98 | 243=>149 | 246=>185 | 283=>201 | 284=>202 | 285=>203 | 286=>204 | 129=>210 | 317=>209 | 318=>211 | 319=>212 | 320=>213 | 337=>215 | 338=>216 | n=>n,λ | 3=>3 | 9=>9 | 2=>2 | 4=>4 | 171=>251 | 0=>0 | 53=>195 | 37=>97 | 5=>5 | 173=>254 | 212=>261 | 51=>262 | 20=>20 | 213=>263 | 46=>184 | 232=>268 | 233=>269 | n=>n,λ | 17=>0 | 18=>3 | 19=>4 | n=>n⟩
theorem Tryz.laysM171:Go.Proofs.LaysM.n171 Tryz.prog Tryz.laysM171_ren:= {
 mixed:=by kernel_rfl
 f129:=Tryz.func210.trans (congrArg some Vx)
 f171:=Tryz.func98.trans (congrArg some Vx)
 f243:=Tryz.func149.trans (congrArg some Vx)
 f246:=Tryz.func185.trans (congrArg some Vx)
 f283:=Tryz.func201.trans (congrArg some Vx)
 f284:=Tryz.func202.trans (congrArg some Vx)
 f285:=Tryz.func203.trans (congrArg some Vx)
 f286:=Tryz.func204.trans (congrArg some Vx)
 f317:=Tryz.func209.trans (congrArg some Vx)
 f318:=Tryz.func211.trans (congrArg some Vx)
 f319:=Tryz.func212.trans (congrArg some Vx)
 f320:=Tryz.func213.trans (congrArg some Vx)
 f337:=Tryz.func215.trans (congrArg some Vx)
 f338:=Tryz.func216.trans (congrArg some Vx)
 t0:=Tryz.underlying0
 a0:=Tryz.isAgg0
 z0:=Tryz.sizeOf0
 v0:=Tryz.zeroValue0
 t2:=Tryz.underlying2
 a2:=Tryz.isAgg2
 z2:=Tryz.sizeOf2
 v2:=Tryz.zeroValue2
 t3:=Tryz.underlying3
 a3:=Tryz.isAgg3
 z3:=Tryz.sizeOf3
 v3:=Tryz.zeroValue3
 t4:=Tryz.underlying4
 a4:=Tryz.isAgg4
 z4:=Tryz.sizeOf4
 v4:=Tryz.zeroValue4
 t5:=Tryz.underlying5
 a5:=Tryz.isAgg5
 z5:=Tryz.sizeOf5
 v5:=Tryz.zeroValue5
 t9:=Tryz.underlying9
 a9:=Tryz.isAgg9
 z9:=Tryz.sizeOf9
 v9:=Tryz.zeroValue9
 t20:=Tryz.underlying20
 a20:=Tryz.isAgg20
 z20:=Tryz.sizeOf20
 v20:=Tryz.zeroValue20
 t37:=Tryz.underlying97
 a37:=Tryz.isAgg97
 z37:=Tryz.sizeOf97
 v37:=Tryz.zeroValue97
 t46:=Tryz.underlying184
 a46:=Tryz.isAgg184
 z46:=Tryz.sizeOf184
 v46:=Tryz.zeroValue184
 t51:=Tryz.underlying262
 a51:=Tryz.isAgg262
 z51:=Tryz.sizeOf262
 v51:=Tryz.zeroValue262
 t53:=Tryz.underlying195
 a53:=Tryz.isAgg195
 z53:=Tryz.sizeOf195
 v53:=Tryz.zeroValue195
 t171:=Tryz.underlying251
 a171:=Tryz.isAgg251
 z171:=Tryz.sizeOf251
 v171:=Tryz.zeroValue251
 t173:=Tryz.underlying254
 a173:=Tryz.isAgg254
 z173:=Tryz.sizeOf254
 v173:=Tryz.zeroValue254
 t212:=Tryz.underlying261
 a212:=Tryz.isAgg261
 z212:=Tryz.sizeOf261
 v212:=Tryz.zeroValue261
 t213:=Tryz.underlying263
 a213:=Tryz.isAgg263
 z213:=Tryz.sizeOf263
 t232:=Tryz.underlying268
 a232:=Tryz.isAgg268
 z232:=Tryz.sizeOf268
 v232:=Tryz.zeroValue268
 t233:=Tryz.underlying269
 a233:=Tryz.isAgg269
 z233:=Tryz.sizeOf269
 v233:=Tryz.zeroValue269
 g17:=by kernel_rfl
 g18:=by kernel_rfl
 g19:=by kernel_rfl
 i0:=by kernel_rfl
 i2:=by kernel_rfl
 i3:=by kernel_rfl
 i4:=by kernel_rfl
 i5:=by kernel_rfl
 i9:=by kernel_rfl
 i20:=by kernel_rfl
 i37:=by kernel_rfl
 i46:=by kernel_rfl
 i51:=by kernel_rfl
 i53:=by kernel_rfl
 i171:=by kernel_rfl
 i173:=by kernel_rfl
 i212:=by kernel_rfl
 i232:=by kernel_rfl
 i233:=by kernel_rfl
 m17:=by kernel_rfl
 m18:=by kernel_rfl
 m19:=by kernel_rfl }
open Go.RowKit Go.Sort Go.Lib in
theorem Tryz.strconv_Itoa (n:Int)(h0: -9223372036854775808<=n)(h1:n<=9223372036854775807)(w:World)(aqY:Lib.TabIs Tryz.prog w "internal/strconv.uint64pow10" .u64 Lib.pow10Tab):
 ar 98 #[af n] w λ e w'=>e=.returned (.string ⟨(Lib.itoa n).toArray⟩)/\∃k os,w'=grow (w.drewN k) os:=Any.strconv_Itoa Tryz.laysM171 n h0 h1 w aqY
def vO (y z:Ex):Bool:=y.op==z.op &&((y.v.k==z.v.k &&(y.v.n==z.v.n && y.v.s.toList==z.v.s.toList))&&(y.name.toList==z.name.toList && y.width==z.width))
mutual
def Tr.same:Tr->Tr->Bool
 | .mk o1 v1 n1 w1 a1,.mk o2 v2 n2 w2 a2=>(o1==o2 &&((v1.k==v2.k &&(v1.n==v2.n && v1.s.toList==v2.s.toList))&&(n1.toList==n2.toList && w1==w2)))&&(a1.length==a2.length && Tr.Fm a1 a2)
def Tr.Fm:List Tr->List Tr->Bool
 | t::ts,u::us=>t.same u && Tr.Fm ts us
 | _,_=>true
end
def mZ (w:World)(y z:Ex)(b:Bool):Prop:=∀W,aj w W->ar 152 #[.agg (ay y),.agg (ay z)] W λ e w'=>e=.returned (.bool b)/\aj W w'
def aai (w:World)(y z:Ex)(b:Bool):Prop:=∀W,aj w W->ar 186 #[.slice y.A y.n y.c,.slice z.A z.n z.c,.func (.func 152) #[] #[]] W λ e w'=>e=.returned (.bool b)/\aj W w'
theorem zbJ.Kal(h:p:=by
 have x0:=hR.cell 0;have x1:=hR.cell 1;have z2:=hR.cell 2;have z3:=hR.cell 3;have z4:=hR.cell 4;have z5:=hR.cell 5;have z6:=hR.cell 6;simp only[Uaa] at x0 x1 z2 z3 z4 z5 z6;cases e1:(y.op==z.op)
 ·go_wp2_with fail;go_ret;exact⟨by simp[vO,e1],hb⟩
 ·cases e2:(y.v.k==z.v.k)
  ·go_wp2_with fail;go_ret;exact⟨by simp[vO,e1,e2],hb⟩
  ·cases e3:(y.v.n==z.v.n)
   ·go_wp2_with fail;go_ret;exact⟨by simp[vO,e1,e2,e3],hb⟩
   ·cases e4:(y.v.s.toList==z.v.s.toList)
    ·go_wp2_with fail;go_ret;exact⟨by simp[vO,e1,e2,e3,e4],hb⟩
    ·cases e5:(y.name.toList==z.name.toList)
     ·go_wp2_with fail;go_ret;exact⟨by simp[vO,e1,e2,e3,e4,e5],hb⟩
     ·cases e6:(y.width==z.width)
      ·exact Zh4
      ·go_wp2_with fail;refine(pd.ae _ hb).mono ?_;rintro e w1 ⟨rfl,b1⟩;replace hb:=ai.then hb b1;clear b1 z0 z1 x2 x3 x4 x5 x6 x0 x1 z2 z3 z4 z5 z6;exact Zh4):p:=h
theorem Ow (y z:Ex)(bl:Bool)(w:World)(hL:aai w y z bl):ar 152 #[.agg (ay y),.agg (ay z)] w λ e w'=>e=.returned (.bool (vO y z && bl))/\aj w w':=by have pd:=aa hL;clear hL;go_enter Tryz.func152,Tryz.ntmps152;have k1:=(aC.new w 46 (ay y)).alloc (.cells (ay z) 46);have hR:=aC.new (w.alloc (.cells (ay y) 46)) 46 (ay z);rw[World.size_alloc] at hR;have hb:=ai.then (ah w (.cells (ay y) 46)) (ah _ (.cells (ay z) 46));open zbJ in exact ZaD
theorem Fo (A A':Option Addr)(c c':Nat)(ys zs:List Ex)(bs:List Bool)(w:World)(hl:ys.length<=1599289640356)(hl':zs.length<=1599289640356)(JX:bs.length=ys.length)(hA:RE w w.heap.size A ys)(hA':RE w w.heap.size A' zs)(hE:ys.length=zs.length->∀(Lw:Nat) y z b2,ys[Lw]?=some y->zs[Lw]?=some z->bs[Lw]?=some b2->mZ w y z b2):
  ar 186 #[.slice A ys.length c,.slice A' zs.length c',.func (.func 152) #[] #[]] w λ e w'=>e=.returned (.bool (ys.length==zs.length && bs.all id))/\aj w w':=by
 have Kf:=aa hA;have HI:=aa hA';have HE:=aa hE;have HBS:=aa JX;clear hA hA' hE JX;by_cases hne:ys.length=zs.length
 ·have t0:(ys.length != zs.length)=false:=by simpa using hne
  have t0':((ys.length:Int) !=(zs.length:Int))=false:=by simp[hne]
  have nV:=aa hne;have hle:ys.length<=zs.length:=by omega
  rw[show(ys.length==zs.length)=true by simpa using hne];clear hne;rw[Bool.true_and];go_enter Tryz.func186,Tryz.ntmps186;go_wp2_with fail;clear t0 t0';go_loopw [17] (λ Lw wr=>∃i:Nat,i<=ys.length/\Lw=af i/\bs.all id=(bs.drop i).all id/\aj w wr) (λ Lw _=>ys.length - (intOf Lw).toNat);case atStart=>exact ZgZ
  case round=>
   obtain⟨i,hk,rfl,hp,hb⟩:=hrel;have HP:=aa hp;clear hp;by_cases hlt:i < ys.length
   ·have qA:i < zs.length:=by omega
    have KP:i < bs.length:=by have:=HBS.ae;omega
    obtain⟨b2,aAu,rfl,hb1,hx⟩:=(Kf.ae.below hb).at_ hlt;obtain⟨Kx,ayt,rfl,hb2,RG⟩:=(HI.ae.below hb).at_ qA;have gD:=HE.ae nV.ae i _ _ _ (getElem?_eq_getElem hlt) (getElem?_eq_getElem qA) (getElem?_eq_getElem KP);have HD:=aa (show bs.drop i=bs[i]::bs.drop (i+1)from drop_eq_getElem_cons KP);generalize ys[i]=y at*;generalize zs[i]=z at*;generalize bs[i]=sb at*;have I5:b2 < wr.heap.size:=Nat.lt_of_lt_of_le hb1 hb.size;have I6:Kx < wr.heap.size:=Nat.lt_of_lt_of_le hb2 hb.size;have bb:=ai.then (ah wr (.cells (ay y) 46)) (ah _ (.cells (ay z) 46));have akn:=RG.keep (w':=wr.alloc (.cells (ay y) 46)) λ o=>(ah wr (.cells (ay y) 46)).cell (p:=⟨Kx,o,none⟩) I6
    unfold cy at hx akn;go_wp2_with fail;refine(gD _ (ai.then hb bb)).mono ?_;rintro e w1 ⟨rfl,b1⟩;have KK:=ai.then hb (ai.then bb b1);clear hx RG akn gD bb b1 hb;cases sb
    ·go_wp2_with fail;go_ret;refine⟨?_,KK⟩;rw[HP.ae,HD.ae];rfl
    ·go_wp2_with fail;go_roundw;case rel=>refine⟨i+1,hlt,by go_num,?_,KK⟩;rw[HP.ae,HD.ae];rfl
     case measure=>exact Za6
   ·go_wp2_with fail;go_ret;refine⟨?_,hb⟩;rw[HP.ae,drop_eq_nil_of_le (by have:=HBS.ae;omega)];rfl
 ·have t0:(ys.length != zs.length)=true:=by simpa using hne
  have t0':((ys.length:Int) !=(zs.length:Int))=true:=by simp;omega
  rw[show(ys.length==zs.length)=false by simpa using hne];clear hne;go_enter Tryz.func186,Tryz.ntmps186;go_wp2_with fail;go_ret;exact⟨rfl,Below.refl _ _⟩
mutual
theorem Tr.KQ:∀(t u:Tr) (y z:Ex) (w:World),t.ok->u.ok->t.at_ w (Old w) y->u.at_ w (Old w) z->mZ w y z (t.same u)
 | .mk o1 v1 n1 w1 a1,.mk o2 v2 n2 w2 a2,y,z,w,bh,tH,hat,hat'=>by
   intro W hb;have h1:=hat.later hb;have h2:=hat'.later hb;unfold Tr.at_ at h1 h2;unfold Tr.ok at bh tH;obtain⟨p1,p2,p3,p4,p5,ys,p6,p7⟩:=h1;obtain⟨q1,q2,q3,q4,q5,zs,q6,q7⟩:=h2;have hlY:=p7.length;have hlZ:=q7.length;have k:=Ow y z (a1.length==a2.length && Tr.Fm a1 a2) W (by
    intro W' S0
    have hp7:=p7.later S0
    have hq7:=q7.later S0
    by_cases Ou:a1.length=a2.length
    ·obtain⟨bs,b1,b2,b3⟩:=Tr.Fp a1 a2 ys zs W' bh.2.2.2.2.2 tH.2.2.2.2.2 hp7 hq7 Ou
     have kk:=Fo y.A z.A y.c z.c ys zs bs W' (by rw[hlY];exact bh.2.1) (by rw[hlZ];exact tH.2.1) (by rw[b1,hlY]) ((p6.old.below S0).more S0.size) ((q6.old.below S0).more S0.size) (λ _=>b3)
     rw[hlY,hlZ,b2] at kk
     rw[p5,q5]
     exact kk
    ·have kk:=Fo y.A z.A y.c z.c ys zs (List.replicate ys.length true) W' (by rw[hlY];exact bh.2.1) (by rw[hlZ];exact tH.2.1) Tac ((p6.old.below S0).more S0.size) ((q6.old.below S0).more S0.size) (λ h=>absurd (by rw[<- hlY,<- hlZ];exact h) Ou)
     have e0:(a1.length==a2.length)=false:=by simpa using Ou
     rw[hlY,hlZ,e0] at kk
     rw[p5,q5,e0]
     exact kk)
   unfold vO at k;rw[p1,p2,p3,p4,q1,q2,q3,q4] at k;unfold Tr.same;rw[<- p1,<- p2,<- p3,<- p4,<- q1,<- q2,<- q3,<- q4] at k ⊢;exact k
theorem Tr.Fp:∀(ts us:List Tr) (ys zs:List Ex) (w:World),Tr.cP ts->Tr.cP us->Tr.aQ w (Old w) ts ys->Tr.aQ w (Old w) us zs->ts.length=us.length->∃bs:List Bool,bs.length=ts.length/\bs.all id=Tr.Fm ts us/\∀(i:Nat) y z b,ys[i]?=some y->zs[i]?=some z->bs[i]?=some b->mZ w y z b
 | [],[],ys,zs,w,_,_,_,_,_=>⟨[],rfl,by simp[Tr.Fm],λ i y z b _ _ h=>by simp at h⟩
 | [],_::_,ys,zs,w,_,_,_,_,h=>by simp at h
 | _::_,[],ys,zs,w,_,_,_,_,h=>by simp at h
 | t::ts,u::us,ys,zs,w,bh,tH,hat,hat',hl=>by
   unfold Tr.aQ at hat hat';unfold Tr.cP at bh tH;obtain⟨y,ys',rfl,h2,h3⟩:=hat;obtain⟨z,zs',rfl,Ej,h3'⟩:=hat';obtain⟨bs,b1,b2,b3⟩:=Tr.Fp ts us ys' zs' w bh.2 tH.2 h3 h3' (by simpa using hl);refine⟨t.same u::bs,by simp[b1],by simp[Tr.Fm,b2],?_⟩;intro i y' z' b hy hz hb
   match i,hy,hz,hb with
   | 0,hy,hz,hb=>simp at hy hz hb;subst hy hz hb;exact Tr.KQ t u y z w bh.1 tH.1 h2 Ej
   | i+1,hy,hz,hb=>exact b3 i y' z' b (by simpa using hy) Ta4 (by simpa using hb)
end
def M:Int:=18446744073709551616
def lo (a:Int):Int:=a % M
def hi (a:Int):Int:=a / M
theorem sK (a:Int):0<=lo a:=by unfold lo M;omega
theorem RH (a:Int):lo a < M:=by unfold lo M;omega
theorem sL{a:Int}(h:0<=a):0<=hi a:=by unfold hi M;omega
def wv (a:Int):Value:=.agg #[.int .u64 (hi a),.int .u64 (lo a)]
def fT (n:Int):Int:=n %(M*M)
theorem XU (n:Int)(h1: -9223372036854775808<=n)(h2:n<=9223372036854775807):hi (fT n)=if n < 0 then M - 1 else 0:=by unfold hi fT M;split <;> omega
theorem XV (n:Int):lo (fT n)=n % M:=by unfold lo fT M;omega
theorem TX (n:Int)(h1: -9223372036854775808<=n)(h2:n<=9223372036854775807):Value.agg #[.int .u64 (IntKind.u64.wrap (n / 9223372036854775808)),.int .u64 (IntKind.u64.wrap n)]=wv (fT n):=by
 unfold wv;rw[XU n h1 h2,XV,IntKind.wrap_u64,IntKind.wrap_u64];have e1:n / 9223372036854775808 % 18446744073709551616=if n < 0 then M - 1 else 0:=by unfold M;split <;> omega
 rw[e1];rfl
theorem Fq (n:Int)(h1: -9223372036854775808<=n)(h2:n<=9223372036854775807)(w:World):ar 191 #[af n] w λ e w'=>e=.returned (wv (fT n))/\aj w w':=by rw[<- TX n h1 h2];go_enter Tryz.func191,Tryz.ntmps191;go_wp2;exact bodyPost_ret (v:=.agg #[.int .u64 (IntKind.u64.wrap (n / 9223372036854775808)),.int .u64 (IntKind.u64.wrap n)]) (by simp[results,Tryz.results191,go_sem]) rfl ⟨rfl,(Below.refl _ _).alloc (Nat.le_refl _) _⟩
def lY (a b:Int):Int:=(a+b)%(M*M)
theorem XW:(Tryz.prog.info? 195).map (λ i=>(i.zero,i.size,i.bytes))=some (some (.int .u64 0),1,8):=by exact ZhU
theorem aaj (a b c d:Int)(w:World):(Op.equalIn 10000 197 (.agg #[.int .u64 a,.int .u64 b]) (.agg #[.int .u64 c,.int .u64 d])).run Tryz.prog w=.ok (a==c && b==d) w:=by
 obtain⟨i0,kB,hz0,hz1,hz2⟩:=info_parts XW;rw[show(10000:Nat)=9998+1+1 from rfl];unfold Op.equalIn;simp[run_underlying Tryz.underlying197,sizeOf,typeInfo,kB,hz1,Std.Legacy.Range.forIn_eq_forIn_range',List.range',part,isAgg,run_underlying Tryz.underlying195,run_equalIn_int w 9998 195 .u64 .u64 _ _ Tryz.underlying195];by_cases h1:a=c
 ·by_cases h2:b=d <;> simp[h1,h2]
 ·simp[h1]
def Fs (x:Int):Int:=IntKind.i64.wrap x
def lZ (a:Int):Bool:=(hi a==hi (fT (Fs (lo a))))&&(lo a==lo (fT (Fs (lo a))))
theorem Ox (a:Int)(w:World):ar 192 #[.agg #[.int .u64 (hi a),.int .u64 (lo a)]] w λ e w'=>e=.returned (.tuple #[af (Fs (lo a)),.bool (lZ a)])/\aj w w':=by
 have hb: -9223372036854775808<=Fs (lo a)/\Fs (lo a)<=9223372036854775807:=by unfold Fs;rw[IntKind.wrap_i64];omega
 have hw:=λ w=>Fq (Fs (lo a)) hb.1 hb.2 w
 unfold wv at hw;have HW:=aa hw;have HD:=aa (show lZ a=((hi a==hi (fT (Fs (lo a))))&&(lo a==lo (fT (Fs (lo a)))))from rfl);clear hw hb;have hs:IntKind.i64.wrap (lo a)=Fs (lo a):=rfl;have he:=aaj;generalize Fs (lo a)=n at*;generalize hi (fT n)=h2 at*;generalize lo (fT n)=l2 at*;generalize lo a=l1 at*;generalize hi a=h1 at*;generalize lZ a=r at*;go_enter Tryz.func192,Tryz.ntmps192;go_wp2_with fail;have cS:∀(x9:Ext (w.heap.size+1) (w.alloc (.cells #[.int .u64 h1,.int .u64 l1] 197))),x9.w.cell? ⟨w.heap.size,0,none⟩=some (.int .u64 h1):=λ x9=>by rw[x9.cell Tac];simp
 have cA:∀(x9:Ext (w.heap.size+1) (w.alloc (.cells #[.int .u64 h1,.int .u64 l1] 197))),x9.w.cell? ⟨w.heap.size,1,none⟩=some (.int .u64 l1):=λ x9=>by rw[x9.cell Tac];simp
 refine aD 7 (w.heap.size+1) _ (Below.refl _ _) Vx Vx Vx Vx ?_;simp only[Uab];repeat (go_big_quiet_step (first
  |(go_at_call 191;exact aB Tac (HW.ae _))))
 refine wpQuiet_nil ?_;rintro W4 ⟨x9,bM⟩;have hL:=x9.h;rw[<- bM] at hL;clear cS cA bM x9;go_wp2_with fail;go_ret2;rw[HD.ae];exact Zds
theorem XX (hi lo y Y Y1 H Lq U LL u1 u0 q1 r1 V q0 r0:Int)(k:Nat)(hy0:0 < y)(hy1:y<=65535)(hh0:0 < hi)(hh1:hi < y)(hk:k<=63)(WK:1<=k)
  (hlz:(64 - (Lib.bitLen y.toNat:Int))=(k:Int)) (hY1:1<=Y1) (hU0:0<=U) (hV0:0<=V)
  (e1:IntKind.u64.wrap (y*2 ^ k)=Y) (e2:Y / 4294967296=Y1) (e3:bits .and .u64 Y 4294967295=0)
  (e4:IntKind.u64.wrap (hi*2 ^ k)=H) (e5:lo / 2 ^(64 - k)=Lq) (e6:bits .or .u64 H Lq=U) (e7:IntKind.u64.wrap (lo*2 ^ k)=LL) (e8:LL / 4294967296=u1) (e9:bits .and .u64 LL 4294967295=u0)
  (f1:IntKind.u64.wrap (U.tdiv Y1)=q1) (f2:IntKind.u64.wrap (U - IntKind.u64.wrap (q1*Y1))=r1) (JY:q1 < 4294967296) (arb:0<=q1)
  (g1:IntKind.u64.wrap (IntKind.u64.wrap (IntKind.u64.wrap (U*4294967296)+u1) - IntKind.u64.wrap (q1*Y))=V)
  (g2:IntKind.u64.wrap (V.tdiv Y1)=q0) (g3:IntKind.u64.wrap (V - IntKind.u64.wrap (q0*Y1))=r0) (hq0:q0 < 4294967296) (arc:0<=q0) (q r:Int) (d1:IntKind.u64.wrap (IntKind.u64.wrap (q1*4294967296)+q0)=q) (d2:IntKind.u64.wrap (IntKind.u64.wrap (IntKind.u64.wrap (V*4294967296)+u0) - IntKind.u64.wrap (q0*Y))/ 2 ^ k=r) (w:World):
  ar 206 #[.int .u64 hi,.int .u64 lo,.int .u64 y] w λ e w'=>e=.returned (.tuple #[.int .u64 q,.int .u64 r])/\w=w':=by
 have b1:(y==0)=false:=by rw[beq_eq_false_iff_ne];omega
 have b2:decide (y<=hi)=false:=by simp;omega
 have b3:(hi==0)=false:=by rw[beq_eq_false_iff_ne];omega
 have b4:decide ((4294967296:Int)<=q1)=false:=by simp;omega
 have b5:decide ((4294967296:Int)<=q0)=false:=by simp;omega
 have b6:∀z:Int,decide (IntKind.u64.wrap z < 0)=false:=by intro z;rw[IntKind.wrap_u64];simp;omega
 have HL:=aa hlz;have E:=aa e1;clear hlz hh0 hh1 JY hq0 arb arc;go_enter Tryz.func206,Tryz.ntmps206;go_wp2_with (go_at_call 214;refine(Tryz.bits_LeadingZeros64 y _ WC WC).mono ?_;rintro e w' ⟨rfl,rfl⟩;rw[HL.ae]);refine wp_loop_rounds 1 ?_;rw[rounds_succ];go_wp2_with fail;refine wp_loop_rounds 1 ?_;rw[rounds_succ];go_wp2_with fail;go_ret2;exact ZfI
theorem aft:∀y:Fin 512,y.val=0\/(1<=Lib.bitLen y.val/\Lib.bitLen y.val<=9/\2 ^(Lib.bitLen y.val - 1)<=y.val/\y.val < 2 ^ Lib.bitLen y.val):=by decide+kernel
theorem XY (x:Int)(h0:0<=x)(h1:x < M):bits .and .u64 x 4294967295=x % 4294967296:=by have:=bits_mask .u64 64 Taa (λ n h0 h1=>by rw[IntKind.wrap_u64];omega) 32 Taa x h0 (by unfold M at h1;omega);exact this
theorem aak (k:Nat)(hk:k<=64)(x y:Int)(hx0:0<=x)(hx:x % 2 ^ k=0)(hx1:x < M)(hy0:0<=y)(hy:y < 2 ^ k)(hy1:y < M):bits .or .u64 x y=x+y:=
 bits_join .u64 64 Taa (λ n h0 h1=>by rw[IntKind.wrap_u64];omega) k x y hx0 hx (by unfold M at hx1;omega) hy0 hy (by unfold M at hy1;omega)
theorem ard (U Y Y1 u1 q1:Int)(hY:Y=Y1*4294967296)(h1:1<=Y1)(h2:Y1 < 4294967296)(hU0:0<=U)(hU1:U < Y)(Q0:0<=u1)(hu1:u1 < 4294967296)(hq:q1=U / Y1):
  IntKind.u64.wrap (IntKind.u64.wrap (IntKind.u64.wrap (U*4294967296)+u1) - IntKind.u64.wrap (q1*Y))=U % Y1*4294967296+u1:=by
 have NC:=Int.emod_nonneg U (show Y1≠0 by omega);have Hy:=Int.emod_lt_of_pos U (show 0 < Y1 by omega);have hd:=Int.mul_ediv_add_emod U Y1;have hp:q1*Y=(q1*Y1)*4294967296:=by rw[hY,Int.mul_assoc]
 have Ea:q1*Y1=U - U % Y1:=by rw[hq,Int.mul_comm];omega
 rw[hp,Ea];simp only[IntKind.wrap_u64];omega
theorem akq (hi lo y:Int)(L k:Nat)(hL:L=Lib.bitLen y.toNat)(hk:k=64 - L)(hh0:0 < hi)(hh1:hi < y)(hl0:0<=lo)(fq:lo < M)(a1:1<=L)(a2:L<=9)(P Q:Int)(hP:(2:Int)^ k=P)(hQ:(2:Int)^(64 - k)=Q)(hPQ:P*Q=M)
  (arh:∃P':Int,P=P'*4294967296/\0 < P') (y1:M<=2*(y*P)) (y2:y*P < M) (hy:y<=65535):
  ∃q r:Int,∀w,ar 206 #[.int .u64 hi,.int .u64 lo,.int .u64 y] w λ e w'=>e=.returned (.tuple #[.int .u64 q,.int .u64 r])/\w=w':=by
 obtain⟨P',hP',ari⟩:=arh;have hP0:0 < P:=by omega
 have hQ0:0 < Q:=by rw[<- hQ];exact Int.pow_pos Taa
 have hY:IntKind.u64.wrap (y*P)=y*P:=by rw[IntKind.wrap_u64];have:0<=y*P:=Int.mul_nonneg WC WC;unfold M at y2;omega
 have hYe:y*P=(y*P')*4294967296:=by rw[hP',Int.mul_assoc]
 have hY1:y*P / 4294967296=y*P':=by rw[hYe];omega
 have aks:1<=y*P':=Int.mul_pos WC ari;have arj:y*P' < 4294967296:=by rw[hYe] at y2;unfold M at y2;omega
 have ayz:(hi+1)*P<=y*P:=Int.mul_le_mul_of_nonneg_right WC WC;have hHx:(hi+1)*P=hi*P+P:=by rw[Int.add_mul,Int.one_mul]
 have hH0:0<=hi*P:=Int.mul_nonneg WC WC;have hH:IntKind.u64.wrap (hi*P)=hi*P:=by rw[IntKind.wrap_u64];unfold M at y2;omega
 have ark:0<=lo / Q:=Int.ediv_nonneg hl0 WC;have arl:lo / Q < P:=by apply Int.ediv_lt_of_lt_mul hQ0;rw[hPQ];exact fq
 have hU:bits .or .u64 (hi*P) (lo / Q)=hi*P+lo / Q:=by refine aak k WC _ _ hH0 (by rw[hP];exact Int.mul_emod_left _ _) WC ark (by rw[hP];exact arl) (by unfold M at*;omega)
 have arn:hi*P+lo / Q < y*P:=by omega
 have aro:0<=IntKind.u64.wrap (lo*P)/\IntKind.u64.wrap (lo*P)< M:=by rw[IntKind.wrap_u64];unfold M;omega
 have hu1:0<=IntKind.u64.wrap (lo*P)/ 4294967296/\IntKind.u64.wrap (lo*P)/ 4294967296 < 4294967296:=by unfold M at aro;omega
 have akt:(hi*P+lo / Q).tdiv (y*P')=(hi*P+lo / Q)/(y*P'):=Int.tdiv_eq_ediv_of_nonneg WC;have hUq:(hi*P+lo / Q)/(y*P')< 4294967296:=by apply Int.ediv_lt_of_lt_mul WC;omega
 have arp:0<=(hi*P+lo / Q)/(y*P'):=Int.ediv_nonneg WC WC;have JY:IntKind.u64.wrap ((hi*P+lo / Q).tdiv (y*P'))=(hi*P+lo / Q)/(y*P'):=by rw[akt,IntKind.wrap_u64];omega
 have hV:=ard (hi*P+lo / Q) (y*P) (y*P') (IntKind.u64.wrap (lo*P)/ 4294967296) _ hYe aks arj WC arn hu1.1 hu1.2 JY;have NC:=Int.emod_nonneg (hi*P+lo / Q) (show y*P'≠0 by omega);have Hy:=Int.emod_lt_of_pos (hi*P+lo / Q) (show 0 < y*P' by omega);generalize hVV:(hi*P+lo / Q)%(y*P')*4294967296+IntKind.u64.wrap (lo*P)/ 4294967296=V at hV;have hV0:0<=V:=by omega
 have ayC:V < y*P:=by rw[hYe];omega
 have aku:V.tdiv (y*P')=V /(y*P'):=Int.tdiv_eq_ediv_of_nonneg hV0;have hVq:V /(y*P')< 4294967296:=by apply Int.ediv_lt_of_lt_mul WC;omega
 have arq:0<=V /(y*P'):=Int.ediv_nonneg hV0 WC;have hq0:IntKind.u64.wrap (V.tdiv (y*P'))=V /(y*P'):=by rw[aku,IntKind.wrap_u64];omega
 refine⟨_,_,λ w=>XX hi lo y (y*P) (y*P') (hi*P) (lo / Q) (hi*P+lo / Q) (IntKind.u64.wrap (lo*P)) _ _ _ _ V _ _ k WC hy hh0 hh1 WC WC WC aks WC hV0
  (by rw[hP];exact hY) hY1 (by rw[XY _ WC y2,hYe];omega) (by rw[hP];exact hH) (by rw[hQ]) hU (by rw[hP]) rfl rfl rfl rfl (by rw[JY];exact hUq) (by rw[JY];exact arp) hV rfl rfl (by rw[hq0];exact hVq) (by rw[hq0];exact arq) _ _ rfl rfl w⟩
theorem aal (hi lo y:Int)(hh0:0 < hi)(hh1:hi < y)(hy:y < 512)(hl0:0<=lo)(fq:lo < M):
  ∃q r:Int,∀w,ar 206 #[.int .u64 hi,.int .u64 lo,.int .u64 y] w λ e w'=>e=.returned (.tuple #[.int .u64 q,.int .u64 r])/\w=w':=by
 obtain⟨n,rfl⟩:=Int.eq_ofNat_of_zero_le (show 0<=y by omega);have hb:=aft ⟨n,by omega⟩;simp only at hb;rcases hb with h |⟨a1,a2,a3,a4⟩
 ·omega
 ·have key:=λ P Q h1 h2 h3 h4 h5 h6=>akq hi lo (n:Int) (Lib.bitLen n) (64 - Lib.bitLen n) Tac rfl hh0 hh1 hl0 fq a1 a2 P Q h1 h2 h3 h4 h5 h6 WC
  generalize Lib.bitLen n=L at*;have hc:L=1\/L=2\/L=3\/L=4\/L=5\/L=6\/L=7\/L=8\/L=9:=by omega
  rcases hc with rfl | rfl | rfl | rfl | rfl | rfl | rfl | rfl | rfl
  ·exact key _ _ rfl rfl rfl ⟨2 ^ 31,by decide,by decide⟩ Tad Tad
  ·exact key _ _ rfl rfl rfl ⟨2 ^ 30,by decide,by decide⟩ Tad Tad
  ·exact key _ _ rfl rfl rfl ⟨2 ^ 29,by decide,by decide⟩ Tad Tad
  ·exact key _ _ rfl rfl rfl ⟨2 ^ 28,by decide,by decide⟩ Tad Tad
  ·exact key _ _ rfl rfl rfl ⟨2 ^ 27,by decide,by decide⟩ Tad Tad
  ·exact key _ _ rfl rfl rfl ⟨2 ^ 26,by decide,by decide⟩ Tad Tad
  ·exact key _ _ rfl rfl rfl ⟨2 ^ 25,by decide,by decide⟩ Tad Tad
  ·exact key _ _ rfl rfl rfl ⟨2 ^ 24,by decide,by decide⟩ Tad Tad
  ·exact key _ _ rfl rfl rfl ⟨2 ^ 23,by decide,by decide⟩ Tad Tad
theorem XZ (lo y:Int)(hy:0 < y)(hl0:0<=lo)(fq:lo<=18446744073709551615)(w:World):
  ar 206 #[.int .u64 0,.int .u64 lo,.int .u64 y] w λ e w'=>e=.returned (.tuple #[.int .u64 (lo / y),.int .u64 (lo % y)])/\aj w w':=by
 have b1:(y==0)=false:=by rw[beq_eq_false_iff_ne];omega
 have b2:decide (y<=0)=false:=by simp;omega
 have b3:0<=lo / y/\lo / y<=18446744073709551615:=⟨Int.ediv_nonneg hl0 WC,Int.le_trans (Int.ediv_le_self y hl0) fq⟩;have b4:IntKind.u64.wrap (lo.tdiv y)=lo / y:=by rw[Int.tdiv_eq_ediv_of_nonneg hl0,IntKind.wrap_u64];omega
 have b5:lo.tmod y=lo % y:=Int.tmod_eq_emod_of_nonneg hl0;clear fq b3;go_enter Tryz.func206,Tryz.ntmps206;go_wp2_with fail;go_quiet (fail);go_wp2_with fail;go_ret2;exact⟨rfl,below_drewN (Below.refl _ _) _⟩
theorem aam (x y b:Nat)(hb:b<=1)(w:World):(callFunc 207 #[.int .u64 x,.int .u64 y,.int .u64 b]).run Tryz.prog w=
  .ok (.value (.tuple #[.int .u64 (((x+18446744073709551616 - y - b)% 18446744073709551616:Nat):Int),.int .u64 ((if x < y+b then 1 else 0:Nat):Int)])) w:=by rw[run_callFunc_extern Tryz.func207 Vx Vx Vx (e:=sub64Entry) Vx,run_sub64 x y b hb];rfl
def Ya (h l y q r:Int):Prop:=∀w,ar 206 #[.int .u64 h,.int .u64 l,.int .u64 y] w λ e w'=>e=.returned (.tuple #[.int .u64 q,.int .u64 r])/\aj w w'
theorem Hz (h l y:Int)(h0:0<=h)(h1:h < y)(hy:y < 512)(hl0:0<=l)(fq:l < M):∃q r,Ya h l y q r:=by
 by_cases hz:h=0
 ·subst hz;exact⟨_,_,λ w=>XZ l y h1 hl0 (by unfold M at fq;omega) w⟩
 ·obtain⟨q,r,hq⟩:=aal h l y WC h1 hy hl0 fq;exact⟨q,r,λ w=>(hq w).mono λ e w' ⟨he,hw⟩=>⟨he,by rw[hw];exact Below.refl _ _⟩⟩
def Oy (a n v:Int):Prop:=∀w,ar 193 #[.agg #[.int .u64 (hi a),.int .u64 (lo a)],.int .u64 n] w λ e w'=>e=.returned (af v)/\aj w w'
theorem KR (h l n q r hm:Int)(hn:0 < n)(hh0:0<=h)(hb:(h / 9223372036854775808==0)=true)(hd:Ya hm l n q r)(NC:h.tmod n=hm)(w:World):
  ar 193 #[.agg #[.int .u64 h,.int .u64 l],.int .u64 n] w λ e w'=>e=.returned (af (wrap64 q))/\aj w w':=by
 have HD:=aa hd;clear hd;have JZ:¬n=0:=by omega
 have Hy:h % n=hm:=by rw[<- NC,Int.tmod_eq_emod_of_nonneg hh0]
 go_enter Tryz.func193,Tryz.ntmps193;go_wp2_with fail;have cS:∀(x9:Ext (w.heap.size+1) (w.alloc (.cells #[.int .u64 h,.int .u64 l] 197))),x9.w.cell? ⟨w.heap.size,0,none⟩=some (.int .u64 h):=λ x9=>by rw[x9.cell Tac];simp
 have cA:∀(x9:Ext (w.heap.size+1) (w.alloc (.cells #[.int .u64 h,.int .u64 l] 197))),x9.w.cell? ⟨w.heap.size,1,none⟩=some (.int .u64 l):=λ x9=>by rw[x9.cell Tac];simp
 refine aD 13 (w.heap.size+1) _ (Below.refl _ _) Vx Vx Vx Vx ?_;simp only[Uab];repeat (go_big_quiet_step (first
  |(go_at_call 206;exact aB Tac (HD.ae _))))
 refine wpQuiet_nil ?_;rintro W4 ⟨x9,bM⟩;have hL:=x9.h;rw[<- bM] at hL;clear cS cA bM x9;go_wp2_with fail;go_ret;exact Zds
theorem KS (h l n q r hm nl c nh c2:Int)(hn:0 < n)(hnh:0<=nh)(hb:(h / 9223372036854775808==0)=false)(hd:Ya hm nl n q r)(NC:nh.tmod n=hm)
  (s1:∀w,(callFunc 207 #[.int .u64 0,.int .u64 l,.int .u64 0]).run Tryz.prog w=.ok (.value (.tuple #[.int .u64 nl,.int .u64 c])) w)
  (s2:∀w,(callFunc 207 #[.int .u64 0,.int .u64 h,.int .u64 c]).run Tryz.prog w=.ok (.value (.tuple #[.int .u64 nh,.int .u64 c2])) w) (w:World):
  ar 193 #[.agg #[.int .u64 h,.int .u64 l],.int .u64 n] w λ e w'=>e=.returned (af (wrap64 (IntKind.u64.wrap (-(if 0 < r then IntKind.u64.wrap (q+1)else q)))))/\aj w w':=by
 have HD:=aa hd;clear hd;have JZ:¬n=0:=by omega
 have Hy:nh % n=hm:=by rw[<- NC,Int.tmod_eq_emod_of_nonneg hnh]
 by_cases hr:0 < r
 ·have hr1:decide (0 < r)=true:=by simpa using hr
  rw[if_pos hr];exact ZfD
 ·have hr1:decide (0 < r)=false:=by simpa using hr
  rw[if_neg hr];exact ZfD
theorem ady{a:Int}(h:a < M*M):hi a < M:=by unfold hi M at*;omega
theorem Ia (x b:Int)(h0:0<=x)(h1:x < M)(hb0:0<=b)(hb1:b<=1):∃d c:Int,0<=d/\d < M/\0<=c/\c<=1/\d=(M - x - b)% M/\(c=if 0 < x+b then 1 else 0)/\
  ∀w,(callFunc 207 #[.int .u64 0,.int .u64 x,.int .u64 b]).run Tryz.prog w=.ok (.value (.tuple #[.int .u64 d,.int .u64 c])) w:=by
 obtain⟨X,rfl⟩:=Int.eq_ofNat_of_zero_le h0;obtain⟨B,rfl⟩:=Int.eq_ofNat_of_zero_le hb0;have law:=λ w=>aam 0 X B WC w
 refine⟨_,_,?_,?_,?_,?_,?_,?_,law⟩
 ·omega
 ·unfold M;omega
 ·omega
 ·split <;> omega
 ·unfold M at*;omega
 ·by_cases hx:0 < X+B
  ·rw[if_pos WC,if_pos WC];rfl
  ·rw[if_neg WC,if_neg WC];rfl
theorem zgs.Kbt(h:p:=by exact⟨_,λ w=>KS (hi a) (lo a) n q r _ nl c nh c2 hn e0 hs hd (Int.tmod_eq_emod_of_nonneg e0) s1 s2 w⟩):p:=h
theorem Yb (a n:Int)(ha0:0<=a)(ha1:a < M*M)(hn:0 < n)(vn:n < 512):∃v,Oy a n v:=by
 have h0:=sL ha0;have h1:=ady ha1;have l0:=sK a;have l1:=RH a;by_cases hs:(hi a / 9223372036854775808==0)=true
 ·have NC:=Int.emod_nonneg (hi a) (show n≠0 by omega);have Hy:=Int.emod_lt_of_pos (hi a) hn;obtain⟨q,r,hd⟩:=Hz (hi a % n) (lo a) n NC Hy vn l0 l1;exact⟨_,λ w=>KR (hi a) (lo a) n q r _ hn h0 hs hd (Int.tmod_eq_emod_of_nonneg h0) w⟩
 ·open zgs in exact ZdP
structure St where
 op:Int
 all:Int
 count:Int
 sum:Int
 a:Val
 b:Val
 found:Bool
def St.cells (s:St):Array Value:= #[ag s.op,af s.all,af s.count,.int .u64 (hi s.sum),.int .u64 (lo s.sum),ag s.a.k,af s.a.n,.string s.a.s,ag s.b.k,af s.b.n,.string s.b.s,.bool s.found]
def cF (w:World)(p:Nat)(s:St):Prop:=aC w p 199 s.cells
theorem RJ (a b:Int): -1<=lQ a b/\lQ a b<=1:=by unfold lQ;split <;>(try split)<;> omega
theorem aan (a b:ByteArray): -1<=lq a b/\lq a b<=1:=by unfold lq;split <;>(try split)<;> omega
theorem Ib (a b:Val): -1<=bQ a b/\bQ a b<=1:=by have h1:=RJ a.k b.k;have h2:=RJ a.n b.n;have h3:=aan a.s b.s;unfold bQ X7;split <;>(try split)<;> assumption
def St.rank (s:St)(a b:Val):Int:=oN (bQ b s.b) (bQ a s.a)
def St.better (s:St)(a b:Val):Bool:= !s.found || decide ((if s.op=25\/s.op=28 then -(s.rank a b)else s.rank a b)< 0)
def St.take (s:St)(a b:Val):St:=if s.better a b then { s with a:=a,b:=b,found:=true } else s
variable{s:St}
theorem cF.gS{w:World} {p:Nat} (h:cF w p s):w.cell? ⟨p,0,none⟩=some (ag s.op)/\w.cell? ⟨p,1,none⟩=some (af s.all)/\w.cell? ⟨p,2,none⟩=some (af s.count)/\w.cell? ⟨p,3,none⟩=some (.int .u64 (hi s.sum))/\w.cell? ⟨p,4,none⟩=some (.int .u64 (lo s.sum))/\
  w.cell? ⟨p,5,none⟩=some (ag s.a.k)/\w.cell? ⟨p,6,none⟩=some (af s.a.n)/\w.cell? ⟨p,7,none⟩=some (.string s.a.s)/\w.cell? ⟨p,8,none⟩=some (ag s.b.k)/\w.cell? ⟨p,9,none⟩=some (af s.b.n)/\w.cell? ⟨p,10,none⟩=some (.string s.b.s)/\w.cell? ⟨p,11,none⟩=some (.bool s.found):=
 ⟨h.cell 0,h.cell 1,h.cell 2,h.cell 3,h.cell 4,h.cell 5,h.cell 6,h.cell 7,h.cell 8,h.cell 9,h.cell 10,h.cell 11⟩
def St.some_ (s:St)(a:Val):St:=if a.k=0 then s else { s with count:=s.count+1 }
def St.put (s:St)(a:Val):St:=if a.k=2 then { s with count:=s.count+1,sum:=lY s.sum (fT a.n)} else s
def St.alone (s:St)(a:Val):St:=if a.k=0 then s else s.take a aP
def St.BD (s:St)(a b:Val):St:=if b.k=2 then s.take a b else s
theorem na (w:World)(es:Array MapEntry)(c:Nat)(k:Int)(v:Value)(hf:Instr.findNow (.int .u8) (ag k) es.toList 0=some none):
  (Instr.mapUpdate 193 (.map (some w.heap.size)) (ag k) v).run Tryz.prog (w.alloc (.map es c))=.ok () (w.alloc (.map (es.push ⟨ag k,v,c⟩) (c+1))):=by
 have hg:(w.alloc (.map es c)).heap[w.heap.size]?=some (.map es c):=heap_alloc_new w _
 have e1:({ w.alloc (.map es c)with heap:=(w.alloc (.map es c)).heap.setIfInBounds w.heap.size (.map (es.push ⟨ag k,v,c⟩) (c+1))}:World)=w.alloc (.map (es.push ⟨ag k,v,c⟩) (c+1)):=by
  have hh:∀A B:Obj,(w.heap.push A).setIfInBounds w.heap.size B=w.heap.push B:=by
   intro A B;apply Array.ext_getElem?;intro i;simp only[Array.getElem?_setIfInBounds,Array.getElem?_push,Array.size_push];by_cases h1:i=w.heap.size
   ·subst h1;simp
   ·simp[h1,Ne.symm h1]
  unfold World.alloc;simp only[hh]
 unfold Instr.mapUpdate;simp only[Sem.run_bind,run_underlying Tryz.underlying193,Result.andThen_ok,MapKept.run_getObj_map hg,xy,Instr.findKey,run_underlying Tryz.underlying5,hf,Sem.run_pure,MapKept.run_setObj_map _ hg,e1]
theorem AD (w:World)(g:Nat)(es:Array MapEntry)(c:Nat)(hg:w.heap[g]?=some (.map es c))(k:Int)(ok:Bool)(i:Nat)(v:Value)(hf:Instr.findNow (.int .u8) (ag k) es.toList 0=some (some (i,v))):
  (Instr.lookup 193 (.map (some g)) (ag k) ok).run Tryz.prog w=.ok (if ok then .tuple #[v,.bool true] else v) w:=by unfold Instr.lookup;simp only[Sem.run_bind,run_underlying Tryz.underlying193,Result.andThen_ok,MapKept.run_getObj_map hg,xy,Instr.findKey,run_underlying Tryz.underlying5,hf,Sem.run_pure]
def fn (f:Nat):Value:=.func (.func f) #[] #[]
def ql (op:Int):Nat:=if op=21 then 156 else if op=22 then 158 else if op=23\/op=26 then 160 else if op=24\/op=25 then 163 else 165
def vP (op:Int):Nat:=if op=21 then 157 else if op=22 then 159 else if op=23 then 161 else if op=26 then 162 else 164
def Ic (op:Int):Int:=if op=21 then 0 else if op=27\/op=28 then 2 else 1
def cf (op:Int):Value:=.agg #[fn (ql op),fn (vP op),af (Ic op)]
def zR:Array MapEntry:= #[⟨ag 21,cf 21,0⟩,⟨ag 22,cf 22,1⟩,⟨ag 23,cf 23,2⟩,⟨ag 26,cf 26,3⟩,⟨ag 24,cf 24,4⟩,⟨ag 25,cf 25,5⟩,⟨ag 27,cf 27,6⟩,⟨ag 28,cf 28,7⟩]
theorem AE (op:Int)(h0:21<=op)(h1:op<=28):∃i,Instr.findNow (.int .u8) (ag op) zR.toList 0=some (some (i,cf op)):=by
 have:op=21\/op=22\/op=23\/op=24\/op=25\/op=26\/op=27\/op=28:=by omega
 rcases this with rfl | rfl | rfl | rfl | rfl | rfl | rfl | rfl
 ·exact⟨0,rfl⟩
 ·exact⟨1,rfl⟩
 ·exact⟨2,rfl⟩
 ·exact⟨4,rfl⟩
 ·exact⟨5,rfl⟩
 ·exact⟨3,rfl⟩
 ·exact⟨6,rfl⟩
 ·exact⟨7,rfl⟩
theorem jz (w:World):ar 104 #[] w λ e w'=>e=.returned (.map (some w.heap.size))/\w'=w.alloc (.map zR 8):=by have xz:= @run_makeMap Tryz.prog;have i1:=na w #[] 0 21 (cf 21) rfl;have i2:=na w #[⟨ag 21,cf 21,0⟩] 1 22 (cf 22) rfl;have i3:=na w #[⟨ag 21,cf 21,0⟩,⟨ag 22,cf 22,1⟩] 2 23 (cf 23) rfl;have i4:=na w #[⟨ag 21,cf 21,0⟩,⟨ag 22,cf 22,1⟩,⟨ag 23,cf 23,2⟩] 3 26 (cf 26) rfl;have i5:=na w #[⟨ag 21,cf 21,0⟩,⟨ag 22,cf 22,1⟩,⟨ag 23,cf 23,2⟩,⟨ag 26,cf 26,3⟩] 4 24 (cf 24) rfl;have i6:=na w #[⟨ag 21,cf 21,0⟩,⟨ag 22,cf 22,1⟩,⟨ag 23,cf 23,2⟩,⟨ag 26,cf 26,3⟩,⟨ag 24,cf 24,4⟩] 5 25 (cf 25) rfl;have i7:=na w #[⟨ag 21,cf 21,0⟩,⟨ag 22,cf 22,1⟩,⟨ag 23,cf 23,2⟩,⟨ag 26,cf 26,3⟩,⟨ag 24,cf 24,4⟩,⟨ag 25,cf 25,5⟩] 6 27 (cf 27) rfl;have i8:=na w #[⟨ag 21,cf 21,0⟩,⟨ag 22,cf 22,1⟩,⟨ag 23,cf 23,2⟩,⟨ag 26,cf 26,3⟩,⟨ag 24,cf 24,4⟩,⟨ag 25,cf 25,5⟩,⟨ag 27,cf 27,6⟩] 7 28 (cf 28) rfl;simp[cf,fn,ql,vP,Ic] at i1 i2 i3 i4 i5 i6 i7 i8;go_enter Tryz.func104,Tryz.ntmps104;exact Zgl
def isAgg (op:Int):Bool:=decide (21<=op)&& decide (op<=28)
theorem afu (x y z:Value)(w:World):(Instr.field 192 (.agg #[x,y,z]) 1).run Tryz.prog w=.ok y w:=by exact ZhU
def fh (op:Int):St:=⟨op,0,0,0,aP,aP,false⟩
def St.does (s:St)(a b:Val):St:=
 if s.op=21 then s else if s.op=22 then s.some_ a else if s.op=23\/s.op=26 then s.put a else if s.op=24\/s.op=25 then s.alone a else s.BD a b
def St.feed (s:St)(a b:Val):St:=St.does { s with all:=s.all+1 } a b
structure St.Ok (s:St):Prop where
 op0:21<=s.op
 op1:s.op<=28
 akv:0<=s.all
 aru:s.all < 4611686018427387905
 xE:0<=s.count
 Ie:s.count < 4611686018427387904
 aao:0<=s.sum
 aap:s.sum < M*M
theorem nc (n:Int)(w:World):ar 189 #[af n] w λ e w'=>e=.returned (.agg #[ag 2,af n,.string ByteArray.empty])/\aj w w':=by go_enter Tryz.func189,Tryz.ntmps189;go_wp2;exact bodyPost_ret (v:=.agg #[ag 2,af n,.string ByteArray.empty]) (by simp[results,Tryz.results189,go_sem];rfl) rfl ⟨rfl,by go_grown⟩
theorem Yc (p:Nat)(s:St)(w:World)(h:cF w p s):ar 164 #[aw p] w λ e w'=>e=.returned (bT s.a 0)/\aj w w':=by have cS:=cF.gS h;have hp:=aC.lt h;unfold bT;clear h;go_enter Tryz.func164,Tryz.ntmps164;go_wp2;exact bodyPost_ret (v:=.tuple #[.agg #[ag s.a.k,af s.a.n,.string s.a.s],af 0]) (by simp[results,Tryz.results164,go_sem]) rfl ⟨rfl,by go_grown⟩
theorem zgA.Kbx(h:p:=by exact bodyPost_ret (v:=.tuple #[.agg #[ag 2,af s.all,.string ByteArray.empty],af 0]) (by simp[results,Tryz.results157,go_sem,dw]) rfl ⟨rfl,((hB.setCell (Nat.le_refl _) _).setCell (Nat.le_refl _) _).setCell (Nat.le_refl _) _⟩):p:=h
theorem TY (p:Nat)(s:St)(w:World)(h:cF w p s):ar 157 #[aw p] w λ e w'=>e=.returned (bT (num s.all) 0)/\aj w w':=by have cS:=cF.gS h;have hp:=aC.lt h;unfold bT num;clear h;go_enter Tryz.func157,Tryz.ntmps157;open zgA in exact Zd3
theorem zgB.Kbx(h:p:=by exact bodyPost_ret (v:=.tuple #[.agg #[ag 2,af s.count,.string ByteArray.empty],af 0]) (by simp[results,Tryz.results159,go_sem,dw]) rfl ⟨rfl,((hB.setCell (Nat.le_refl _) _).setCell (Nat.le_refl _) _).setCell (Nat.le_refl _) _⟩):p:=h
theorem Yd (p:Nat)(s:St)(w:World)(h:cF w p s):ar 159 #[aw p] w λ e w'=>e=.returned (bT (num s.count) 0)/\aj w w':=by have cS:=cF.gS h;have hp:=aC.lt h;unfold bT num;clear h;go_enter Tryz.func159,Tryz.ntmps159;open zgB in exact Zd3
def St.total (s:St):Val×Int:=if s.count=0 then(aP,0)else if lZ s.sum then(num (Fs (lo s.sum)),0)else(aP,43)
theorem TZ (p:Nat)(s:St)(w:World)(h:cF w p s):ar 161 #[aw p] w λ e w'=>e=.returned (bT s.total.1 s.total.2)/\aj w w':=by
 have cS:=cF.gS h;have hp:=aC.lt h;have hN:=λ w=>Ox s.sum w
 have HN:=aa hN;clear hN;have H0:=aa (show∀(hz:s.count=0),s.total=(aP,0)from λ hz=>if_pos hz);have H1:=aa (show∀(hz:¬s.count=0) (hn:lZ s.sum=true),s.total=(num (Fs (lo s.sum)),0)from λ hz hn=>by unfold St.total;rw[if_neg hz,if_pos hn]);have H2:=aa (show∀(hz:¬s.count=0) (hn:lZ s.sum=false),s.total=(aP,43)from λ hz hn=>by unfold St.total;rw[if_neg hz,if_neg (by rw[hn];decide)]);generalize Fs (lo s.sum)=n at*;go_enter Tryz.func161,Tryz.ntmps161;go_wp2_with fail;refine(HN.ae _).mono ?_;rintro e w1 ⟨rfl,b1⟩;have hR:=(aC.new w 44 #[ag 0,af 0,.string { data:= #[] }]).later b1;have dw:=aJ hR;have cL:=aC.frozen hR;have hS1:=cF.gS (aC.later ((aC.alloc h (.cells #[ag 0,af 0,.string { data:= #[] }] 44))) b1);have hB:aj w w1:=((Below.refl _ _).alloc (Nat.le_refl _) _).trans (b1.mono Tac);have hlt:=hR.lt;have HR:=aa hR;clear b1 hR cS h;by_cases hz:s.count=0
 ·have t1:(s.count==0)=true:=by simp[hz]
  have HZ:=aa hz;clear hz;go_wp2_with fail;rw[H0.ae HZ.ae];exact bodyPost_ret (v:=.tuple #[.agg #[ag 0,af 0,.string ByteArray.empty],af 0]) Ta2 rfl ⟨rfl,((hB.setCell (Nat.le_refl _) _).setCell (Nat.le_refl _) _).setCell (Nat.le_refl _) _⟩
 ·have t1:(s.count==0)=false:=by simp[hz]
  cases hn:lZ s.sum
  ·go_wp2_with fail;rw[H2.ae hz hn];exact bodyPost_ret (v:=.tuple #[.agg #[ag 0,af 0,.string ByteArray.empty],af 43]) Ta2 rfl ⟨rfl,((hB.setCell (Nat.le_refl _) _).setCell (Nat.le_refl _) _).setCell (Nat.le_refl _) _⟩
  ·go_wp2_with fail;refine(nc _ _).mono ?_;rintro e W4 ⟨rfl,hL⟩;have hR:=HR.ae.later hL;have gV:=aJ hR;have hR4:=aC.frozen hR;have ek:aj w W4:=hB.trans (hL.mono hB.size);clear hL hR dw cL;go_wp2_with fail;rw[H1.ae hz hn];exact bodyPost_ret (v:=.tuple #[.agg #[ag 2,af n,.string ByteArray.empty],af 0]) (by simp[results,Tryz.results161,go_sem,gV]) rfl ⟨rfl,((ek.setCell (Nat.le_refl _) _).setCell (Nat.le_refl _) _).setCell (Nat.le_refl _) _⟩
def Oz (s:St)(v:Val):Prop:=(s.count=0/\v=aP)\/(s.count≠0/\∃q,Oy s.sum s.count q/\v=num q)
theorem aaq (s:St)(ok:s.Ok)(hc:s.count < 512):∃v,Oz s v:=by
 by_cases h:s.count=0
 ·exact⟨_,.inl ⟨h,rfl⟩⟩
 ·obtain⟨q,hq⟩:=Yb s.sum s.count ok.aao ok.aap (by have:=ok.xE;omega) hc;exact⟨_,.inr ⟨h,q,hq,rfl⟩⟩
theorem zht.KbT(h:p:=by
 clear cS hp h;generalize w.alloc (.cells #[ag 0,af 0,.string { data:= #[] }] 44)=W at*;have cS:=λ x9:Ext W.heap.size W=>cF.gS (aC.later hS x9.h)
 refine aD 11 W.heap.size W (Below.refl _ _) Vx Vx Vx Vx ?_;simp only[Uab];repeat (go_big_quiet_step (first
  |(go_at_call 193;exact aB (Nat.le_refl _) (HQ.ae _))
  |(go_at_call 189;exact aB (Nat.le_refl _) (nc _ _))))
 refine wpQuiet_nil ?_;rintro W4 ⟨x9,bM⟩;have hL:=x9.h;rw[<- bM] at hL;clear cS bM x9;have hR:=Kx.later hL;have gV:=aJ hR;have hR4:=aC.frozen hR;have ek:aj w W4:=hB.trans (hL.mono hB.size);clear hR Kx hL hS;go_wp2_with fail;exact bodyPost_ret (v:=.tuple #[.agg #[ag 2,af q,.string ByteArray.empty],af 0]) (by simp[results,Tryz.results162,go_sem,gV]) rfl ⟨rfl,((ek.setCell (Nat.le_refl _) _).setCell (Nat.le_refl _) _).setCell (Nat.le_refl _) _⟩):p:=h
theorem Ye (p:Nat)(s:St)(v:Val)(w:World)(h:cF w p s)(ok:s.Ok)(hv:Oz s v):ar 162 #[aw p] w λ e w'=>e=.returned (bT v 0)/\aj w w':=by
 have cS:=cF.gS h;have hp:=aC.lt h;have q0:=ok.xE;have q1:=ok.Ie;rcases hv with ⟨hz,rfl⟩|⟨hz,q,hq,rfl⟩
 ·have t1:(s.count==0)=true:=by simp[hz]
  clear hz;unfold bT aP;go_enter Tryz.func162,Tryz.ntmps162;go_wp2_with fail;exact bodyPost_ret (v:=.tuple #[.agg #[ag 0,af 0,.string ByteArray.empty],af 0]) (by simp[results,Tryz.results162,go_sem];try rfl) rfl ⟨rfl,by go_grown⟩
 ·have t1:(s.count==0)=false:=by simp[hz]
  have HQ:=aa hq;clear hz hq;unfold bT num;have hu:IntKind.u64.wrap s.count=s.count:=by rw[IntKind.wrap_u64];omega
  go_enter Tryz.func162,Tryz.ntmps162;open zht in exact ZeY
def gK (s:St)(v:Val)(err:Int):Prop:=
 if s.op=21 then v=num s.all/\err=0 else if s.op=22 then v=num s.count/\err=0 else if s.op=23 then v=s.total.1/\err=s.total.2 else if s.op=26 then Oz s v/\err=0 else v=s.a/\err=0
theorem afv (s:St)(ok:s.Ok)(hc:s.count < 512):∃v err,gK s v err:=by
 unfold gK;split
 ·exact⟨_,_,rfl,rfl⟩
 ·split
  ·exact⟨_,_,rfl,rfl⟩
  ·split
   ·exact⟨_,_,rfl,rfl⟩
   ·split
    ·obtain⟨v,hv⟩:=aaq s ok hc;exact⟨v,_,hv,rfl⟩
    ·exact⟨_,_,rfl,rfl⟩
theorem afw (p:Nat)(s:St)(v:Val)(err:Int)(w:World)(h:cF w p s)(ok:s.Ok)(hv:gK s v err):ar (vP s.op) #[aw p] w λ e w'=>e=.returned (bT v err)/\aj w w':=by
 unfold gK at hv;unfold vP;by_cases h1:s.op=21
 ·rw[if_pos h1] at*;obtain⟨rfl,rfl⟩:=hv;exact TY p s w h
 ·rw[if_neg h1] at*;by_cases h2:s.op=22
  ·rw[if_pos h2] at*;obtain⟨rfl,rfl⟩:=hv;exact Yd p s w h
  ·rw[if_neg h2] at*;by_cases h3:s.op=23
   ·rw[if_pos h3] at*;obtain⟨rfl,rfl⟩:=hv;exact TZ p s w h
   ·rw[if_neg h3] at*;by_cases h4:s.op=26
    ·rw[if_pos h4] at*;obtain⟨hm,rfl⟩:=hv;exact Ye p s v w h ok hm
    ·rw[if_neg h4] at*;obtain⟨rfl,rfl⟩:=hv;exact Yc p s w h
theorem KT (args:Array Value)(w:World):(callFunc 157 args).run Tryz.prog w=.ok (.enter 157 args) w:=by exact ZhU
theorem OC (args:Array Value)(w:World):(callFunc 159 args).run Tryz.prog w=.ok (.enter 159 args) w:=by exact ZhU
theorem KU (args:Array Value)(w:World):(callFunc 161 args).run Tryz.prog w=.ok (.enter 161 args) w:=by exact ZhU
theorem OD (args:Array Value)(w:World):(callFunc 162 args).run Tryz.prog w=.ok (.enter 162 args) w:=by exact ZhU
theorem OE (args:Array Value)(w:World):(callFunc 164 args).run Tryz.prog w=.ok (.enter 164 args) w:=by exact ZhU
theorem Ua (op:Int)(args:Array Value)(w:World):(callFunc (vP op) args).run Tryz.prog w=.ok (.enter (vP op) args) w:=by
 unfold vP;split
 ·exact KT args w
 ·split
  ·exact OC args w
  ·split
   ·exact KU args w
   ·split
    ·exact OD args w
    ·exact OE args w
def RM (p:Nat)(op:Int)(v0:Val)(err:Int):Nat->World->Value->Prop
 | 0=>λ w v=>∃g,v=.map (some g)/\w.heap[g]?=some (.map zR 8)
 | 1=>λ _ v=>v=aw p
 | 2=>λ _ v=>v=aw p
 | 3=>λ _ v=>v=aw p
 | 4=>λ _ v=>v=ag op
 | 5=>λ _ v=>v=cf op
 | 6=>λ _ v=>v=fn (vP op)
 | 7=>λ _ v=>v=aw p
 | 8=>λ _ v=>v=bT v0 err
 | 9=>λ _ v=>v=.agg (aH v0)
 | 10=>λ _ v=>v=af err
 | _=>λ _ _=>True
theorem KV (p:Nat)(op:Int)(v0:Val)(err:Int)(i:Nat)(w w':World)(v:Value)(h:RM p op v0 err i w v)(hl:ai w w'):RM p op v0 err i w' v:=by unfold RM at*;exact ZdK
theorem zhu.KbT(h:p:=by
 clear h;generalize w.alloc (.cells #[ag 0,af 0,.string { data:= #[] }] 44)=W at*;refine bC 11 (RM p s.op v err) (KV p s.op v err) Vx Vx Vx ?_ ?_
 ·simp only[take_succ_cons,take_zero];refine⟨Zdq,Zix,?_,?_,?_,?_,?_,Zix,?_,Zg7,Zg7,trivial⟩
  ·intro ρ W4 hc hL hr;have h1:ρ (.tmp 8)=aw p:=hr.1;exact Zdf
  ·intro ρ W4 hc hL hr;have h1:ρ (.tmp 9)=aw p:=hr.1;exact Zdf
  ·intro ρ W4 hc hL hr;have h1:ρ (.tmp 10)=aw p:=hr.1;have c0:=(cF.gS (aC.later hS hL)).1;exact Zep
  ·intro ρ W4 hc hL hr;obtain⟨g,h1,hgm⟩:∃g,ρ (.tmp 7)=.map (some g)/\W4.heap[g]?=some (.map zR 8):=hr.1;have h2:ρ (.tmp 11)=ag s.op:=hr.2.1;obtain⟨i,hi⟩:=AE s.op HK.ae.op0 HK.ae.op1;exact Zgp
  ·intro ρ W4 hc hL hr;have h1:ρ (.tmp 12)=cf s.op:=hr.1;have hf:=afu (fn (ql s.op)) (fn (vP s.op)) (af (Ic s.op)) W4;exact Zif
  ·intro ρ W4 hc hL hr;have h1:ρ (.tmp 13)=.func (.func (vP s.op)) #[] #[]:=hr.1;have h2:ρ (.tmp 14)=aw p:=hr.2.1;refine bD (f:=vP s.op) (args:= #[aw p]) (w':=W4) (by simp[go_sem,h1,h2,Ua]) ?_;refine(afw p s v err W4 (aC.later hS hL) HK.ae HV.ae).mono ?_;rintro e w2 ⟨rfl,b2⟩;exact⟨_,rfl,b2,rfl⟩
 ·intro W4 hL;simp only[Uab];rintro _ ⟨g,rfl,hgm⟩ _ rfl _ rfl _ rfl _ rfl _ rfl _ rfl _ rfl _ rfl _ rfl _ rfl;have hR:=Kx.later hL;have gV:=aJ hR;have hR4:=aC.frozen hR;have ek:aj w W4:=hB.trans (hL.mono hB.size);clear hR Kx hL hS;simp only[bF,Act.put,Uac,fn];go_wp2_with fail;exact bodyPost_ret (v:=.tuple #[.agg (aH v),af err]) (by simp[results,Tryz.results68,go_sem,gV]) rfl ⟨rfl,((ek.setCell (Nat.le_refl _) _).setCell (Nat.le_refl _) _).setCell (Nat.le_refl _) _⟩):p:=h
theorem OG (p:Nat)(s:St)(v:Val)(err:Int)(w:World)(h:cF w p s)(ok:s.Ok)(hv:gK s v err):
  ar 68 #[aw p] w λ e w'=>e=.returned (bT v err)/\aj w w':=by have HV:=aa hv;have HK:=aa ok;clear hv ok;go_enter Tryz.func68,Tryz.ntmps68;open zhu in exact ZeY
def St.yV (s:St)(l:List (Val×Val)):St:=l.foldl (λ s x=>s.feed x.1 x.2) s
def ld (op:Int)(l:List (Val×Val)):St:=(fh op).yV l
structure Good {γ:Type} (c:γ->γ->Int):Prop where
 jh:∀x y,c x y= -(c y x)
 trans:∀x y z,c x y<=0->c y z<=0->c x z<=0
variable{γ:Type}
theorem Good.lex{c d:γ->γ->Int}(hc:Good c)(hd:Good d):Good λ x y=>oN (c x y) (d x y):=by
 constructor
 ·intro x y;have h1:=hc.jh x y;have h2:=hd.jh x y;unfold oN;split <;> split <;> omega
 ·intro x y z h1 h2;have a1:c x y<=0:=by unfold oN at h1;split at h1 <;> omega
  have a2:c y z<=0:=by unfold oN at h2;split at h2 <;> omega
  have a3:=hc.trans x y z a1 a2;show oN (c x z) (d x z)<=0;by_cases h0:c x z=0
  ·have b0:c z x=0:=by have:=hc.jh z x;omega
   have b1:=hc.trans z x y WC a1;have b2:=hc.trans y z x a2 WC;have e1:=hc.jh z y;have e2:=hc.jh y x;have z1:c x y=0:=by omega
   have z2:c y z=0:=by omega
   have:=hd.trans x y z (by simpa [oN,z1] using h1) (by simpa [oN,z2] using h2);simpa [oN,h0] using this
  ·simpa [oN,h0] using a3
theorem Good.flip{c:γ->γ->Int}(hc:Good c):Good λ x y=> -(c x y):=by
 constructor
 ·intro x y;have:=hc.jh x y;omega
 ·intro x y z h1 h2;have a1:=hc.jh x y;have a2:=hc.jh y z;have a3:=hc.jh x z;have:=hc.trans z y x WC WC;show -(c x z)<=0;omega
variable{δ:Type}
theorem Good.by_{c:γ->γ->Int}(hc:Good c)(f:δ->γ):Good λ x y=>c (f x) (f y):=⟨λ x y=>hc.jh _ _,λ x y z=>hc.trans _ _ _⟩
theorem Fu:Good lQ:=by
 constructor
 ·intro x y;unfold lQ;split <;> split <;>(try split)<;>(try split)<;> omega
 ·intro x y z h1 h2;have a:x<=y:=by unfold lQ at h1;split at h1 <;>(try split at h1)<;> omega
  have b:y<=z:=by unfold lQ at h2;split at h2 <;>(try split at h2)<;> omega
  unfold lQ;split
  ·omega
  ·rw[if_neg WC];omega
theorem Fv{a b:Int}(h:lQ a b=0):a=b:=by unfold lQ at h;split at h <;>(try split at h)<;> omega
theorem jT:∀x:List UInt8,Op.bytesLess x x=false
 | []=>rfl
 | a::x=>by simp[Op.bytesLess,jT x]
theorem uw:∀x y:List UInt8,Op.bytesLess x y=true->Op.bytesLess y x=false
 | _,[],h=>by simp[Op.bytesLess] at h
 | [],_::_,_=>by simp[Op.bytesLess]
 | a::x,b::y,h=>by
   simp only[Op.bytesLess,Bool.or_eq_true,Bool.and_eq_true,decide_eq_true_eq,beq_iff_eq] at h;simp only[Op.bytesLess,Bool.or_eq_false_iff,Bool.and_eq_false_iff,decide_eq_false_iff_not,beq_eq_false_iff_ne];rcases h with h |⟨rfl,h⟩
   ·refine⟨λ h'=>?_,.inl λ e=>?_⟩
    ·exact absurd (UInt8.lt_trans h h') (UInt8.lt_irrefl _)
    ·subst e;exact UInt8.lt_irrefl _ h
   ·exact⟨UInt8.lt_irrefl _,.inr (uw x y h)⟩
theorem pw:∀x y:List UInt8,Op.bytesLess x y=false->Op.bytesLess y x=false->x=y
 | [],[],_,_=>rfl
 | [],_::_,h,_=>by simp[Op.bytesLess] at h
 | _::_,[],_,h=>by simp[Op.bytesLess] at h
 | a::x,b::y,h1,h2=>by simp only[Op.bytesLess,Bool.or_eq_false_iff,Bool.and_eq_false_iff,decide_eq_false_iff_not,beq_eq_false_iff_ne] at h1 h2;have hab:a=b:=UInt8.le_antisymm (UInt8.not_lt.1 h2.1) (UInt8.not_lt.1 h1.1);subst hab;have:=pw x y (by rcases h1.2 with h | h;exact absurd rfl h;exact h) (by rcases h2.2 with h | h;exact absurd rfl h;exact h);rw[this]
theorem BF:∀x y z:List UInt8,Op.bytesLess x y=true->Op.bytesLess y z=true->Op.bytesLess x z=true
 | _,[],_,h,_=>by simp[Op.bytesLess] at h
 | _,_::_,[],_,h=>by simp[Op.bytesLess] at h
 | [],_::_,_::_,_,_=>by simp[Op.bytesLess]
 | a::x,b::y,c::z,h1,h2=>by
   simp only[Op.bytesLess,Bool.or_eq_true,Bool.and_eq_true,decide_eq_true_eq,beq_iff_eq] at h1 h2 ⊢;rcases h1 with h1 |⟨rfl,h1⟩
   ·rcases h2 with h2 |⟨rfl,h2⟩
    ·exact .inl (UInt8.lt_trans h1 h2)
    ·exact .inl h1
   ·rcases h2 with h2 |⟨rfl,h2⟩
    ·exact .inl h2
    ·exact .inr ⟨rfl,BF x y z h1 h2⟩
theorem aas{a b:ByteArray}:lq a b<=0↔Op.bytesLess b.toList a.toList=false:=by
 unfold lq;split
 ·rename_i h;simp[uw _ _ h]
 ·rename_i h;split
  ·rename_i h2;rw[beq_iff_eq] at h2;rw[h2];simp[jT]
  ·rename_i h2;constructor
   ·intro h;omega
   ·intro h3;exact absurd (by rw[beq_iff_eq];exact pw _ _ Tal h3) h2
theorem Ub:Good lq:=by
 constructor
 ·intro x y;unfold lq;by_cases h1:Op.bytesLess x.toList y.toList=true
  ·rw[if_pos h1,if_neg (by rw[uw _ _ h1];decide),if_neg (λ e=>by rw[beq_iff_eq] at e;rw[e,jT] at h1;cases h1)]
  ·rw[if_neg h1];by_cases h2:Op.bytesLess y.toList x.toList=true
   ·rw[if_pos h2,if_neg (λ e=>by rw[beq_iff_eq] at e;rw[e,jT] at h2;cases h2)];rfl
   ·rw[if_neg h2];have e:=pw _ _ (by simpa using h1) (by simpa using h2);rw[e];simp
 ·intro x y z h1 h2;rw[aas] at*;cases h3:Op.bytesLess z.toList x.toList
  ·rfl
  ·exfalso;cases h4:Op.bytesLess x.toList y.toList
   ·have e:=pw _ _ h4 h1;rw[e,h2] at h3;cases h3
   ·rw[BF _ _ _ h3 h4] at h2;cases h2
theorem Uc{a b:ByteArray}(h:lq a b=0):a=b:=by
 unfold lq at h;split at h
 ·omega
 ·split at h
  ·rename_i h2;rw[beq_iff_eq,ByteArray.toList_eq,ByteArray.toList_eq] at h2;exact Go.WideShapes.bytes_inj h2
  ·omega
theorem jB:Good bQ:=(Fu.by_ Val.k).lex ((Fu.by_ Val.n).lex (Ub.by_ Val.s))
theorem KX{x y:Int}(h:oN x y=0):x=0/\y=0:=by unfold oN at h;split at h <;> omega
theorem Fw{a b:Val}(h:bQ a b=0):a=b:=by obtain⟨h1,h2⟩:=KX (show oN (lQ a.k b.k) (oN (lQ a.n b.n) (lq a.s b.s))=0 from h);obtain⟨h2,h3⟩:=KX h2;obtain⟨k,n,s⟩:=a;obtain⟨k',n',s'⟩:=b;have:=Fv h1;have:=Fv h2;have:=Uc h3;simp_all
def pc (op:Int)(x y:Val×Val):Int:=if op=25\/op=28 then -(oN (bQ x.2 y.2) (bQ x.1 y.1))else oN (bQ x.2 y.2) (bQ x.1 y.1)
theorem RO (op:Int):Good (pc op):=by
 have h:Good λ x y:Val×Val=>oN (bQ x.2 y.2) (bQ x.1 y.1):=(jB.by_ Prod.snd).lex (jB.by_ Prod.fst)
 by_cases ho:op=25\/op=28
 ·have e:pc op=λ x y=> -(oN (bQ x.2 y.2) (bQ x.1 y.1)):=by funext x y;simp[pc,ho]
  rw[e];exact h.flip
 ·have e:pc op=λ x y=>oN (bQ x.2 y.2) (bQ x.1 y.1):=by funext x y;simp[pc,ho]
  rw[e];exact h
def xF (op:Int)(f:Bool)(a b:Val)(K:Val×Val->Prop):Prop:=
 (f=false/\a=aP/\b=aP/\∀y,¬K y)\/(f=true/\K (a,b)/\∀y,K y->0<=pc op y (a,b))
variable{f:Bool}{K K':Val×Val->Prop}
theorem xF.iff{op:Int}  {a b:Val} (h:xF op f a b K)(hK:∀y,K' y↔K y):xF op f a b K':=by
 have:K'=K:=by funext y;exact propext (hK y)
 rw[this];exact h
theorem Fx (s:St)(c d:Val):s.better c d=(!s.found || decide (pc s.op (c,d) (s.a,s.b)< 0)):=by unfold St.better St.rank pc;rfl
variable{d:Val}{K1 K2:Val×Val->Prop}
theorem xF.join{c:Val} (h1:xF s.op s.found s.a s.b K1)(h2:xF s.op true c d K2)(hK:∀y,K y↔K1 y\/K2 y):
  xF s.op (s.take c d).found (s.take c d).a (s.take c d).b K:=by
 have g:=RO s.op;rcases h2 with ⟨h,_⟩|⟨_,k2,m2⟩
 ·cases h
 unfold St.take;by_cases hb:s.better c d=true
 ·rw[if_pos hb];refine .inr ⟨rfl,(hK _).2 (.inr k2),λ y hy=>?_⟩;rcases(hK y).1 hy with hy | hy
  ·rcases h1 with ⟨_,_,_,h⟩|⟨hf,k1,m1⟩
   ·exact absurd hy (h _)
   ·rw[Fx,hf] at hb;have hb:pc s.op (c,d) (s.a,s.b)< 0:=by simpa using hb
    have a1:=m1 y hy;have a2:=g.jh y (s.a,s.b);have a3:=g.trans (c,d) (s.a,s.b) y WC WC;have a4:=g.jh y (c,d);show 0<=pc s.op y (c,d);omega
  ·exact m2 y hy
 ·rw[if_neg hb];rw[Fx] at hb;simp at hb;rcases h1 with ⟨hf,_⟩|⟨hf,k1,m1⟩
  ·rw[hb.1] at hf;cases hf
  ·refine .inr ⟨hf,(hK _).2 (.inl k1),λ y hy=>?_⟩;rcases(hK y).1 hy with hy | hy
   ·exact m1 y hy
   ·have a1:=m2 y hy;have a2:=g.jh y (c,d);have a0:=hb.2;have a5:=g.jh (c,d) (s.a,s.b);have a3:=g.trans (s.a,s.b) (c,d) y WC WC;have a4:=g.jh y (s.a,s.b);omega
theorem sM (s:St)(c d:Val):(s.take c d).op=s.op/\(s.take c d).all=s.all/\(s.take c d).count=s.count/\(s.take c d).sum=s.sum:=by unfold St.take;split <;> exact⟨rfl,rfl,rfl,rfl⟩
def key (op:Int)(x:Val×Val):Option (Val×Val):=
 if op=24\/op=25 then(if x.1.k=0 then none else some (x.1,aP))else if op=27\/op=28 then(if x.2.k=2 then some x else none)else none
def one (op:Int)(x:Val×Val):Int:=if op=22 then(if x.1.k=0 then 0 else 1)else if op=23\/op=26 then(if x.1.k=2 then 1 else 0)else 0
def ND (op:Int)(x:Val×Val):Int:=if op=23\/op=26 then(if x.1.k=2 then x.1.n else 0)else 0
def cnt (op:Int):List (Val×Val)->Int
 | []=>0
 | x::l=>one op x+cnt op l
def BG (op:Int):List (Val×Val)->Int
 | []=>0
 | x::l=>ND op x+BG op l
theorem Ig (op:Int):∀l m:List (Val×Val),cnt op (l++m)=cnt op l+cnt op m
 | [],m=>by simp[cnt]
 | x::l,m=>by simp[cnt,Ig op l m];omega
theorem Ih (op:Int):∀l m:List (Val×Val),BG op (l++m)=BG op l+BG op m
 | [],m=>by simp[BG]
 | x::l,m=>by simp[BG,Ih op l m];omega
def keys (op:Int)(l:List (Val×Val))(y:Val×Val):Prop:=∃x∈l,key op x=some y
structure OH (op:Int) (s:St) (l:List (Val×Val)):Prop where
 kind:s.op=op
 all:s.all=l.length
 count:s.count=cnt op l
 sum:s.sum=BG op l %(M*M)
 arv:xF op s.found s.a s.b (keys op l)
theorem OH.turn{op:Int}  {l m:List (Val×Val)}(h:OH op s (l++m)):OH op s (m++l):=
 ⟨h.kind,by rw[h.all];simp;omega,by rw[h.count,Ig,Ig];omega,by rw[h.sum,Ih,Ih,Int.add_comm],h.arv.iff λ y=>by simp[keys,or_comm]⟩
theorem aat (op:Int):OH op (fh op) []:=⟨rfl,rfl,rfl,by simp[fh,BG],.inl ⟨rfl,rfl,rfl,by simp[keys]⟩⟩
theorem keys_cons{op:Int} {x:Val×Val} {l:List (Val×Val)} {y:Val×Val}:keys op (x::l) y↔keys op l y\/key op x=some y:=by simp[keys,or_comm]
theorem fj{op:Int}  {a b:Val} {x:Val×Val} {l:List (Val×Val)}(h:xF op f a b (keys op l))(hx:key op x=none):xF op f a b (keys op (x::l)):=h.iff λ y=>by rw[keys_cons,hx];simp
theorem sN{c:Val} {x:Val×Val} {l:List (Val×Val)}(h:xF s.op s.found s.a s.b (keys s.op l))(hx:key s.op x=some (c,d)):xF s.op (s.take c d).found (s.take c d).a (s.take c d).b (keys s.op (x::l)):=
 xF.join h (K2:=λ y=>y=(c,d)) (.inr ⟨rfl,rfl,λ y hy=>by
  subst hy
  have:=(RO s.op).jh (c,d) (c,d)
  omega⟩) λ y=>by rw[keys_cons,hx];simp[eq_comm]
theorem OH.feed{op:Int}  {l:List (Val×Val)}(h:OH op s l)(h0:21<=op)(h1:op<=28)(x:Val×Val):OH op (s.feed x.1 x.2) (x::l):=by
 obtain⟨rfl,ha,hc,hs,hb⟩:=h;have afx:s.op=21\/s.op=22\/s.op=23\/s.op=24\/s.op=25\/s.op=26\/s.op=27\/s.op=28:=by omega
 have hall:s.all+1=((x::l).length:Nat):=by rw[ha];simp
 unfold St.feed St.does;dsimp only;rcases afx with o | o | o | o | o | o | o | o
 ·rw[if_pos o];exact⟨rfl,hall,by rw[hc];simp[cnt,one,o],by rw[hs];simp[BG,ND,o],fj hb TaO⟩
 ·rw[if_neg WC,if_pos o];unfold St.some_;split
  ·rename_i hk;exact⟨rfl,hall,by rw[hc];simp[cnt,one,o,hk],by rw[hs];simp[BG,ND,o],fj hb TaO⟩
  ·rename_i hk;exact⟨rfl,hall,by show s.count+1=_;rw[hc];simp[cnt,one,o,hk];omega,by show s.sum=_;rw[hs];simp[BG,ND,o],fj hb TaO⟩
 ·rw[if_neg WC,if_neg WC,if_pos WC];unfold St.put;split
  ·rename_i hk;refine⟨rfl,hall,by show s.count+1=_;rw[hc];simp[cnt,one,o,hk];omega,?_,fj hb TaO⟩;show lY s.sum (fT x.1.n)=_;rw[hs];simp only[BG,ND,o,hk,true_or,if_true];unfold lY fT M;omega
  ·exact Zf9
 ·exact Zb8
 ·exact Zb8
 ·rw[if_neg WC,if_neg WC,if_pos WC];unfold St.put;split
  ·rename_i hk;refine⟨rfl,hall,by show s.count+1=_;rw[hc];simp[cnt,one,o,hk];omega,?_,fj hb TaO⟩;show lY s.sum (fT x.1.n)=_;rw[hs];simp only[BG,ND,o,hk,or_true,if_true];unfold lY fT M;omega
  ·exact Zf9
 ·exact Zb9
 ·exact Zb9
theorem OH.yV{op:Int}(h0:21<=op)(h1:op<=28):∀(m:List (Val×Val)) {s:St} {l:List (Val×Val)},OH op s l->OH op (s.yV m) (l++m)
 | [],s,l,h=>by simpa [St.yV] using h
 | x::m,s,l,h=>by have h2:=(show OH op _ ([x]++l)from h.feed h0 h1 x).turn;have:=OH.yV h0 h1 m h2;simpa [St.yV] using this
theorem AG{op:Int}(h0:21<=op)(h1:op<=28)(l:List (Val×Val)):OH op (ld op l) l:=by have:=OH.yV h0 h1 l (aat op);rwa [nil_append] at this
def bu:List Val->List Val->Int
 | [],[]=>0
 | [],_::_=> -1
 | _::_,[]=>1
 | a::l,b::m=>if bQ a b=0 then bu l m else bQ a b
theorem Fy (l m:List Val)(k:Nat)(h1:k < l.length)(h2:k < m.length):bu (l.drop k) (m.drop k)=if bQ l[k] m[k]=0 then bu (l.drop (k+1)) (m.drop (k+1))else bQ l[k] m[k]:=by rw[drop_eq_getElem_cons h1,drop_eq_getElem_cons h2];rfl
theorem Fz (l m:List Val)(k:Nat)(h2:k < l.length)(h1:m.length<=k):bu (l.drop k) (m.drop k)=1:=by exact Ziq
theorem FA (l m:List Val)(k:Nat)(h1:l.length<=k)(h2:k < m.length):bu (l.drop k) (m.drop k)= -1:=by exact Ziq
theorem KY (l m:List Val)(k:Nat)(h1:l.length<=k)(h2:m.length<=k):bu (l.drop k) (m.drop k)=0:=by rw[drop_eq_nil_of_le h1,drop_eq_nil_of_le h2];rfl
theorem zS (A:Option Addr)(c:Nat)(l:List Val)(A':Option Addr)(c':Nat)(l':List Val)(w:World)(h:RV w w.heap.size A l)(h':RV w w.heap.size A' l')(hm:l.length<=1000)(hm':l'.length<=1000):
  ar 40 #[.slice A l.length c,.slice A' l'.length c',.func (.func 18) #[] #[]] w λ e w'=>e=.returned (af (bu l l'))/\aj w w':=by
 have HR:=aa h;have HR':=aa h';clear h h';go_enter Tryz.func40,Tryz.ntmps40;go_wp2_with fail;go_loopw [13] (λ i wr=>∃k:Nat,k<=l.length/\k<=l'.length/\i=af k/\bu (l.drop k) (l'.drop k)=bu l l'/\aj w wr) (λ i _=>l.length - (intOf i).toNat);case atStart=>exact Zii
 case round=>
  obtain⟨k,hk,Ru,rfl,hd,hB⟩:=hrel;have HD:=aa hd;clear hd;by_cases hlt:k < l.length
  ·obtain⟨b,off,rfl,hb,c0,c1,c2⟩:=(HR.ae.below hB).at_ hlt;by_cases BH:k < l'.length
   ·have HS:=aa (Fy l l' k hlt BH);have b1:=ah wr (.cells #[ag l[k].k,af l[k].n,.string l[k].s] 44);have hV:=aC.new wr 44 #[ag l[k].k,af l[k].n,.string l[k].s];generalize l[k]=v at*;go_upto_region 6 with fail;clear c0 c1 c2;replace hB:=ai.then hB b1;generalize wr.alloc (.cells (aH v) 44)=W1 at*;obtain⟨b',off',rfl,hb',c0',c1',c2'⟩:=(HR'.ae.below hB).at_ BH;have b2:=ah W1 (.cells #[ag l'[k].k,af l'[k].n,.string l'[k].s] 44);have hV':=aC.new W1 44 #[ag l'[k].k,af l'[k].n,.string l'[k].s];generalize l'[k]=v' at*;go_upto_region 7 with fail;clear c0' c1' c2';replace hB:=ai.then hB b2;replace hV:=hV.later b2;generalize W1.alloc (.cells (aH v') 44)=W2 at*;obtain⟨x0,x1,x2⟩:=aJ hV;obtain⟨y0,y1,y2⟩:=aJ hV';go_wp2_with fail;refine(ed v v' _).mono ?_;rintro e w3 ⟨rfl,b3⟩;replace hB:=ai.then hB b3;clear x0 x1 x2 y0 y1 y2 hV hV' b1 b2 b3;exact ZcJ
   ·have HS:=aa (Fz l l' k hlt WC);have b1:=ah wr (.cells #[ag l[k].k,af l[k].n,.string l[k].s] 44);generalize l[k]=v at*;go_wp2_with fail;go_ret;exact⟨by rw[<- HD.ae,HS.ae];rfl,ai.then hB b1⟩
  ·by_cases BH:k < l'.length
   ·have HS:=aa (FA l l' k WC BH);exact Zdt
   ·have HS:=aa (KY l l' k WC WC);exact Zdt
theorem vQ (A:Option Addr)(c:Nat)(l:List Val)(A':Option Addr)(c':Nat)(l':List Val)(w:World)(h:RV w w.heap.size A l)(h':RV w w.heap.size A' l')(hm:l.length<=1000)(hm':l'.length<=1000):
  ar 14 #[.slice A l.length c,.slice A' l'.length c'] w λ e w'=>e=.returned (af (bu l l'))/\aj w w':=by have HC:=zS A c l A' c' l' w h h' hm hm';clear h h';go_enter Tryz.func14,Tryz.ntmps14;go_wp2_with fail;refine HC.mono ?_;exact ZfQ
structure aN where
 A:Option Addr
 l:List Val
 c:Nat
def aN.v (r:aN):Value:=.slice r.A r.l.length r.c
def RR (w:World)(B:Nat)(A:Option Addr)(rs:List aN):Prop:=
 rs=[]\/∃b off,A=some ⟨b,off,none⟩/\b < B/\∀i r,rs[i]?=some r->w.cell? ⟨b,off+i,none⟩=some (.slice r.A r.l.length r.c)/\RV w B r.A r.l
variable{w':World}{B:Nat}{rs:List aN}
theorem RR.below{w:World}  {A:Option Addr} (h:RR w B A rs)(hb:Below B w w'):RR w' B A rs:=by
 rcases h with h |⟨b,off,h1,h2,h3⟩
 ·exact .inl h
 ·exact .inr ⟨b,off,h1,h2,λ i x hx=>⟨(hb.cell (p:=⟨b,off+i,none⟩) h2).trans (h3 i x hx).1,(h3 i x hx).2.below hb⟩⟩
variable{k:Nat}
theorem RR.at_{w:World}  {A:Option Addr} (h:RR w B A rs) (hk:k < rs.length):∃b off,A=some ⟨b,off,none⟩/\b < B/\w.cell? ⟨b,off+k,none⟩=some (.slice rs[k].A rs[k].l.length rs[k].c)/\RV w B rs[k].A rs[k].l:=by
 rcases h with h |⟨b,off,h1,h2,h3⟩
 ·subst h;simp at hk
 ·obtain⟨h4,h5⟩:=h3 k _ (getElem?_eq_getElem hk);exact⟨b,off,h1,h2,h4,h5⟩
theorem sO:∀x y:List Val,bu x y= -(bu y x)
 | [],[]=>rfl
 | [],_::_=>rfl
 | _::_,[]=>rfl
 | a::x,b::y=>by have h:=jB.jh a b;have ih:=sO x y;unfold bu;split <;> split <;> omega
theorem ux:∀x y z:List Val,bu x y<=0->bu y z<=0->bu x z<=0
 | [],_,[],_,_=>by decide
 | [],_,_::_,_,_=>by simp[bu]
 | _::_,[],_,h,_=>by simp[bu] at h
 | _::_,_::_,[],_,h=>by simp[bu] at h
 | a::x,b::y,c::z,h1,h2=>by
   unfold bu at h1 h2 ⊢;have a1:bQ a b<=0:=by split at h1 <;> omega
   have a2:bQ b c<=0:=by split at h2 <;> omega
   have a3:=jB.trans a b c a1 a2;split
   ·rename_i h0;have e:=Fw h0;subst e;have e2:=jB.jh b a;have z1:bQ a b=0:=by omega
    have z2:bQ b a=0:=by omega
    rw[if_pos z1] at h1;rw[if_pos z2] at h2;exact ux x y z h1 h2
   ·exact a3
theorem eD:Good bu:=⟨sO,ux⟩
theorem om (x:List Val):bu x x=0:=by have:=sO x x;omega
theorem fG:∀x y:List Val,bu x y=0->x=y
 | [],[],_=>rfl
 | [],_::_,h=>by simp[bu] at h
 | _::_,[],h=>by simp[bu] at h
 | a::x,b::y,h=>by
   unfold bu at h;split at h
   ·rename_i h0;rw[Fw h0,fG x y h]
   ·rename_i h0;exact absurd h h0
theorem KZ (l:List Val):(l.flatMap aX).length=l.length*3:=by
 induction l with
 | nil=>rfl
 | cons v l ih=>simp only[flatMap_cons,length_append,ih,length_cons];simp[aX];omega
theorem La:∀(l:List Val) (j:Nat),(l.flatMap aX)[j]?=(l[j / 3]?).bind λ v=>(aX v)[j % 3]?
 | [],j=>by simp
 | v::l,j=>by
   rw[flatMap_cons];by_cases h:j < 3
   ·rw[getElem?_append_left (by simpa [aX] using h),Nat.div_eq_of_lt h,Nat.mod_eq_of_lt h];simp
   ·have h3:(aX v).length=3:=rfl;rw[getElem?_append_right WC,h3,La l (j - 3)];have e1:j / 3=(j - 3)/ 3+1:=by omega
    have e2:j % 3=(j - 3)% 3:=by omega
    rw[e1,e2,getElem?_cons_succ]
theorem RV.reads{w:World}  {A:Option Addr} {l:List Val}(h:RV w B A l):Reads w B 3 A l.length (l.flatMap aX):=by
 refine⟨KZ l,λ hn=>?_⟩;rcases h with h |⟨b,off,rfl,h2,h3⟩
 ·subst h;simp at hn
 ·refine⟨⟨b,off,none⟩,rfl,h2,λ j u hu=>?_⟩;rw[La] at hu
  cases hv:l[j / 3]? with
  | none=>rw[hv] at hu;cases hu
  | some v=>
    rw[hv] at hu;have hu:(aX v)[j % 3]?=some u:=hu;obtain⟨c0,c1,c2⟩:=h3 (j / 3) v hv;rw[dR];have hj:j=j / 3*3+j % 3:=by omega
    have hlt:j % 3 < 3:=Nat.mod_lt _ WC;generalize j % 3=r at*;rw[hj]
    match r,hlt with
    | 0,_=>simp[aX] at hu;subst hu;simpa using c0
    | 1,_=>simp[aX] at hu;subst hu;rw[<- Nat.add_assoc];exact c1
    | 2,_=>simp[aX] at hu;subst hu;rw[<- Nat.add_assoc];exact c2
def RN (w:World)(g:Nat)(r:aN):Prop:=
 r.l=[]\/∃b off,r.A=some ⟨b,off,none⟩/\b < w.heap.size/\b≠g/\∀i x,r.l[i]?=some x->eh w b (off+i*3) x
variable{r:aN}
theorem RN.rv{w:World} {g:Nat} (h:RN w g r)(hg:w.grownBy w' (some g)):RV w' w'.heap.size r.A r.l:=by exact Zdp
def At (w:World)(g n:Nat)(D:Nat->aN):Prop:=∃cs,aC w g 38 cs/\n<=cs.size/\∀i,i < n->cs[i]?=some (D i).v
variable{D:Nat->aN}
theorem At.cell{w:World} {g n:Nat} (h:At w g n D)(i:Nat)(hi:i < n):w.cell? ⟨g,i,none⟩=some (.slice (D i).A (D i).l.length (D i).c):=by obtain⟨cs,hb,_,hc⟩:=h;rw[hb.cell,hc i hi];rfl
theorem At.frozen{w:World} {g n:Nat} (h:At w g n D)(i:Nat):w.frozen? ⟨g,i,none⟩=false:=by obtain⟨cs,hb,_,hc⟩:=h;exact hb.frozen i
theorem At.later{w:World} {g n:Nat} (h:At w g n D)(hb:aj w w'):At w' g n D:=by obtain⟨cs,h1,h2,h3⟩:=h;exact⟨cs,h1.later hb,h2,h3⟩
def swp (D:Nat->aN)(i j:Nat):Nat->aN:=λ k=>if k=j then D i else if k=i then D j else D k
theorem At.swap{w:World} {g n:Nat} (h:At w g n D)(i j:Nat)(hi:i < n)(hj:j < n):At (((w.setCell ⟨g,i,none⟩ (D j).v).setCell ⟨g,j,none⟩ (D i).v).drew) g n (swp D i j):=by
 obtain⟨cs,h1,h2,h3⟩:=h;refine⟨(cs.setIfInBounds i (D j).v).setIfInBounds j (D i).v,((h1.aW i _).aW j _).drew,by simpa using h2,λ k hk=>?_⟩;have e0:=h3 k hk;unfold swp;rw[Array.getElem?_setIfInBounds,Array.getElem?_setIfInBounds];have s1:(cs.setIfInBounds i (D j).v).size=cs.size:=by simp
 rw[s1];repeat' split
 all_goals first
  |(exfalso;omega)
  | rfl
  | exact e0
structure SS (w0:World) (g n:Nat) (w:World) (D:Nat->aN):Prop where
 at_:At w g n D
 grown:w0.grownBy w (some g)
 rows:∀k,k < n->RN w0 g (D k)/\(D k).l.length<=1000
variable{w0:World}
theorem SS.later{w:World} {g n:Nat} (h:SS w0 g n w D)(hb:aj w w'):SS w0 g n w' D:=⟨h.at_.later hb,ba h.grown (aT hb),h.rows⟩
theorem SS.rv{w:World} {g n:Nat} (h:SS w0 g n w D)(i:Nat)(hi:i < n):RV w w.heap.size (D i).A (D i).l:=(h.rows i hi).1.rv h.grown
theorem SS.swap{w:World} {g n:Nat} (h:SS w0 g n w D)(i j:Nat)(hi:i < n)(hj:j < n):SS w0 g n (((w.setCell ⟨g,i,none⟩ (D j).v).setCell ⟨g,j,none⟩ (D i).v).drew) (swp D i j):=by refine⟨h.at_.swap i j hi hj,jw (aG (aG h.grown i _) j _),λ k hk=>?_⟩;exact Zg8
theorem SS.second{w:World} {g n:Nat} (h:SS w0 g n w D)(i j:Nat)(hi:i < n)(hj:j < n)(u:Value):∃v,(w.setCell ⟨g,i,none⟩ u).cell? ⟨g,j,none⟩=some v:=by
 obtain⟨cs,h1,h2,h3⟩:=h.at_;rw[(h1.aW i u).cell j,Array.getElem?_setIfInBounds];split
 ·rw[if_pos WC];exact⟨_,rfl⟩
 ·exact⟨_,h3 j hj⟩
def dS (D:Nat->aN)(a b c:Nat):Nat->aN:=λ k=>if a<=k/\k < a+c then D (k - a+b)else if b<=k/\k < b+c then D (k - b+a)else D k
theorem ma (D:Nat->aN)(a b:Nat):dS D a b 0=D:=by funext k;unfold dS;rw[if_neg WC,if_neg WC]
theorem mb (D:Nat->aN)(a b i:Nat)(h:a+i < b):swp (dS D a b i) (a+i) (b+i)=dS D a b (i+1):=by funext k;unfold swp dS;exact Zb3
def ry (w0:World)(g n:Nat)(D:Nat->aN)(e:Ending)(w':World):Prop:=e=.returned (.tuple #[])/\SS w0 g n w' D
theorem eL (w0:World)(g n cap a b c:Nat)(D:Nat->aN)(w:World)(h:SS w0 g n w D)(hn:n<=1000)(hab:a+c<=b)(hb:b+c<=n):
  ar 197 #[aF g n cap,af a,af b,af c,.func (.func 14) #[] #[]] w (ry w0 g n (dS D a b c)):=by
 have HS:=aa h;clear h;have mixed:Tryz.prog.follows .mixedOrders=true:=by kernel_rfl
 go_enter Tryz.func197,Tryz.ntmps197;go_wp2_with fail;go_loopw [10] (λ iv wr=>∃i:Nat,i<=c/\iv=af i/\SS w0 g n wr (dS D a b i)) (λ iv _=>c - (intOf iv).toNat);case atStart=>exact⟨0,Nat.zero_le _,rfl,by rw[ma];exact HS.ae⟩
 case round=>
  obtain⟨i,hi,rfl,hs⟩:=hrel;have H2:=aa hs;clear hs;by_cases hlt:i < c
  ·have c1:=H2.ae.at_.cell (a+i) WC;have c2:=H2.ae.at_.cell (b+i) WC;have f1:=H2.ae.at_.frozen (a+i);have f2:=H2.ae.at_.frozen (b+i);obtain⟨u,c3⟩:=H2.ae.second (a+i) (b+i) WC WC (dS D a b i (b+i)).v;have S3:=aa (H2.ae.swap (a+i) (b+i) WC WC);unfold aN.v at c3 S3;go_upto_region 3 with fail;go_big_region_o;clear c1 c2 c3 f1 f2;exact Zei
  ·have xm:i=c:=by omega
   subst xm;go_wp2_with fail;exact bodyPost_ret (v:=.tuple #[]) (by simp[results,Tryz.results197,go_sem]) rfl ⟨rfl,H2.ae⟩
def aO (D:Nat->aN)(s m e:Nat):Nat->aN:=λ k=>if s<=k/\k < e then(if k < s+(e - m)then D (k+(m - s))else D (k - (e - m)))else D k
theorem rz (D:Nat->aN)(m i j:Nat)(hi:i<=m)(kY:j < i):aO (dS D (m - i) m j) (m - (i - j)) m (m+j)=aO D (m - i) m (m+j):=by exact ZfX
theorem rB (D:Nat->aN)(m i j:Nat)(hi:i<=m)(kY:i < j):aO (dS D (m - i) (m+j - i) i) (m - i) m (m+(j - i))=aO D (m - i) m (m+j):=by exact ZfX
theorem rC (D:Nat->aN)(m i:Nat)(hi:i<=m):dS D (m - i) m i=aO D (m - i) m (m+i):=by exact ZfX
theorem zgc.Kbm(h:p:=by exact bodyPost_ret (v:=.tuple #[]) (by simp[results,Tryz.results173,go_sem]) rfl ⟨rfl,H3.ae⟩):p:=h
theorem cC (w0:World)(g n cap a m b:Nat)(D:Nat->aN)(w:World)(h:SS w0 g n w D)(hn:n<=1000)(BI:a < m)(BJ:m < b)(hb:b<=n):
  ar 173 #[aF g n cap,af a,af m,af b,.func (.func 14) #[] #[]] w (ry w0 g n (aO D a m b)):=by
 have HS:=aa h;clear h;go_enter Tryz.func173,Tryz.ntmps173;go_wp2_with fail;go_loopw [10,11] (λ iv jv wr=>∃(i j:Nat) (E:Nat->aN),0 < i/\0 < j/\a+i<=m/\m+j<=b/\iv=af i/\jv=af j/\SS w0 g n wr E/\aO E (m - i) m (m+j)=aO D a m b) (λ iv jv _=>(intOf iv).toNat+(intOf jv).toNat);case atStart=>exact ZeE
 case round=>
  obtain⟨i,j,E,kB,hj0,hi,hj,rfl,rfl,hs,hr⟩:=hrel;have H2:=aa hs;have HR:=aa hr;clear hs hr;by_cases heq:i=j
  ·open zgc in exact Zdw
  ·exact ZaY
def lt (x y:aN):Prop:=bu x.l y.l < 0
def le (x y:aN):Prop:=bu x.l y.l<=0
theorem le_refl (x:aN):le x x:=by unfold le;rw[om];omega
variable{x y z:aN}
theorem le_trans(h:le x y)(k:le y z):le x z:=ux _ _ _ h k
theorem le_of_lt(h:lt x y):le x y:=by unfold lt at h;unfold le;omega
theorem not_lt:¬lt x y↔le y x:=by unfold lt le;have:=sO x.l y.l;omega
theorem jU(h:le x y)(k:lt y z):lt x z:=by exact ZgP
theorem jV(h:lt x y)(k:le y z):lt x z:=by exact ZgQ
def bc (D:Nat->aN)(a b:Nat):Prop:=∀i j,a<=i->i < j->j < b->le (D i) (D j)
variable{a' b':Nat}
theorem bc.mono{a b:Nat}(h:bc D a b)(h1:a<=a')(h2:b'<=b):bc D a' b':=λ i j hi hj hb=>h i j WC hj WC
variable{E:Nat->aN}
theorem bc.congr{a b:Nat}(h:bc D a b)(he:∀i,a<=i->i < b->E i=D i):bc E a b:=λ i j hi hj hb=>by rw[he i hi WC,he j WC hb];exact h i j hi hj hb
variable{j:Nat}
theorem bc.le{a b i:Nat}(h:bc D a b)(hi:a<=i)(kY:i<=j)(hj:j < b):le (D i) (D j):=by exact ZgI
theorem bc.none{a b:Nat}(h:b<=a+1):bc D a b:=λ i j hi hj hb=>by omega
inductive Sw (a b:Nat) (D:Nat->aN):(Nat->aN)->Prop
 | refl:Sw a b D D
 | step {E:Nat->aN} {i j:Nat}:Sw a b D E->a<=i->i < b->a<=j->j < b->Sw a b D (swp E i j)
variable{F:Nat->aN}
theorem Sw.trans{a b:Nat} (h:Sw a b D E)(k:Sw a b E F):Sw a b D F:=by exact Zhi
theorem Sw.mono{a b:Nat} (h:Sw a b D E)(h1:a'<=a)(h2:b<=b'):Sw a' b' D E:=by exact ZfU
theorem Sw.ae{a b:Nat} (h:Sw a b D E):∀k,k < a\/b<=k->E k=D k:=by exact Ze8
theorem Sw.mem{a b:Nat} (h:Sw a b D E):∀k,a<=k->k < b->∃k',a<=k'/\k' < b/\E k=D k':=by exact ZdV
theorem iT (D:Nat->aN)(a b:Nat):∀c,a+c<=b->Sw a (b+c) D (dS D a b c)
 | 0,_=>by rw[ma];exact .refl
 | c+1,h=>by rw[<- mb D a b c WC];exact .step ((iT D a b c WC).mono (Nat.le_refl _) WC) WC WC WC WC
theorem OI (D:Nat->aN)(m:Nat):∀N i j,i+j<=N->0 < i->0 < j->i<=m->Sw (m - i) (m+j) D (aO D (m - i) m (m+j)):=by exact Zbc
theorem eH (D:Nat->aN)(s m e:Nat)(h1:s < m)(h2:m < e):Sw s e D (aO D s m e):=by exact Zet
theorem jC (D:Nat->aN)(m e:Nat):aO D m m e=D:=by exact Zde
theorem iz (D:Nat->aN)(s m:Nat):aO D s m m=D:=by exact Zde
def Lb (E:Nat->aN)(a i j:Nat):Prop:=(∀p q,a<=p->p < q->q<=i->p≠j->q≠j->le (E p) (E q))/\∀q,j < q->q<=i->le (E j) (E q)
theorem Lb.start{a i:Nat}(h:bc D a i):Lb D a i i:=⟨λ p q h1 h2 h3 h4 h5=>h p q h1 h2 WC,λ q h1 h2=>by omega⟩
theorem Lb.step{a i:Nat}(h:Lb E a i j)(hj:a < j)(Ts:j<=i)(hl:lt (E j) (E (j - 1))):Lb (swp E j (j - 1)) a i (j - 1):=by exact ZbK
theorem Lb.stop{a i:Nat}(h:Lb E a i j)(hj:a<=j)(hs:j=a\/¬lt (E j) (E (j - 1))):bc E a (i+1):=by exact ZcD
def mf (D:Nat->aN)(a k:Nat):Nat->aN:=λ x=>if a<=x/\x < k then D (x+1)else if x=k then D a else D x
theorem oq (D:Nat->aN)(a:Nat):mf D a a=D:=by funext x;unfold mf;exact Zc9
theorem ot (D:Nat->aN)(a k:Nat)(h:a<=k):swp (mf D a k) k (k+1)=mf D a (k+1):=by funext x;unfold swp mf;exact Zdd
theorem vR (D:Nat->aN)(a:Nat):∀d,Sw a (a+d+1) D (mf D a (a+d))
 | 0=>by show Sw a (a+0+1) D (mf D a a);rw[oq];exact .refl
 | d+1=>by rw[show a+(d+1)=a+d+1 by omega,<- ot D a (a+d) WC];exact .step ((vR D a d).mono (Nat.le_refl _) WC) WC WC WC WC
theorem BK{a b i:Nat}(hs:bc D (a+1) b)(hi:a+1<=i)(hib:i<=b)(h1:∀h,a+1<=h->h < i->lt (D h) (D a))(h2:∀h,i<=h->h < b->¬lt (D h) (D a)):bc (mf D a (i - 1)) a b:=by exact ZbC
def nJ (D:Nat->aN)(k m:Nat):Nat->aN:=λ x=>if x=k then D m else if k < x/\x<=m then D (x - 1)else D x
theorem ou (D:Nat->aN)(m:Nat):nJ D m m=D:=by funext x;unfold nJ;exact Zc9
theorem ow (D:Nat->aN)(k m:Nat)(h0:0 < k)(h:k<=m):swp (nJ D k m) k (k - 1)=nJ D (k - 1) m:=by funext x;unfold swp nJ;exact Zdd
theorem vS (D:Nat->aN)(m:Nat):∀d,d<=m->Sw (m - d) (m+1) D (nJ D (m - d) m)
 | 0,_=>by rw[Nat.sub_zero,ou];exact .refl
 | d+1,h=>by rw[show m - (d+1)=m - d - 1 by omega,<- ow D (m - d) m WC WC];exact .step ((vS D m d WC).mono WC (Nat.le_refl _)) WC WC WC WC
variable{m:Nat}
theorem BL{a i:Nat}(hs:bc D a m)(hi:a<=i)(EU:i<=m)(h1:∀h,a<=h->h < i->¬lt (D m) (D h))(h2:∀h,i<=h->h < m->lt (D m) (D h)):bc (nJ D i m) a (m+1):=by exact ZbM
structure yX (D:Nat->aN) (p s0 r0 s r:Nat):Prop where
 low:∀c,s0<=c->c < s->¬lt (D (p - c)) (D c)
 high:∀c,r<=c->c < r0->lt (D (p - c)) (D c)
structure mg (a m b mid s0 r0:Nat):Prop where
 ab:a < m/\m < b
 arw:mid=(a+b)/ 2
 ends:(m > mid/\s0=mid+m - b/\r0=mid)\/(m<=mid/\s0=a/\r0=m)
variable{mid s0 r0:Nat}
theorem yX.go{a b s r c:Nat}(he:mg a m b mid s0 r0)(h1:bc D a m)(h2:bc D m b)(h:yX D (mid+m - 1) s0 r0 s r)(hs:s0<=s)(hr:r<=r0)(hc:s<=c)(hc2:c < r):
  (¬lt (D (mid+m - 1 - c)) (D c)->yX D (mid+m - 1) s0 r0 (c+1) r)/\(lt (D (mid+m - 1 - c)) (D c)->yX D (mid+m - 1) s0 r0 s c):=by exact ZbI
theorem xG{a b s:Nat}(he:mg a m b mid s0 r0)(h1:bc D a m)(h2:bc D m b)(h:yX D (mid+m - 1) s0 r0 s s)(hs:s0<=s)(hr:s<=r0):
  bc (aO D s m (mid+m - s)) a s/\bc (aO D s m (mid+m - s)) s mid/\bc (aO D s m (mid+m - s)) mid (mid+m - s)/\bc (aO D s m (mid+m - s)) (mid+m - s) b/\
  ∀x y,a<=x->x < mid->mid<=y->y < b->le (aO D s m (mid+m - s) x) (aO D s m (mid+m - s) y):=by exact Zau
theorem dn{a b:Nat}(hm:a<=mid/\mid<=b)(h:∀x y,a<=x->x < mid->mid<=y->y < b->le (D x) (D y))(k1:Sw a mid D E)(k2:Sw mid b E F)(s1:bc E a mid)(s2:bc F mid b):bc F a b/\Sw a b D F:=by exact Zb7
theorem at_root{w:World} :∀ {t:Tr} {y:Ex},t.at_ w S y->y.op=t.op/\y.v=t.v/\y.name=t.name
 | .mk op v name width args,y,h=>by unfold Tr.at_ at h;exact⟨h.1,h.2.1,h.2.2.1⟩
def mK (y:Ex):Value:=.agg (ay y)
mutual
theorem Tr.tell {α:Type}(f:Tr->α)(P:Tr->Prop)(C:World->Ex->α->Prop)(hP:∀op v name width ts,P (.mk op v name width ts)->∀t∈ts,P t)
  (step:∀(op:Int) (v:Val) (name:ByteArray) (width:Int) (ts:List Tr) (A:Option Addr) (c:Nat) (args:List (Ex×α)) (w:World),(Tr.mk op v name width ts).ok->P (.mk op v name width ts)->args.length=ts.length->args.map (·.2)=ts.map f->RE w w.heap.size A (args.map (·.1))->Tr.aQ w (Old w) ts (args.map (·.1))->(∀a∈args,∀W,aj w W->C W a.1 a.2)->C w ⟨op,v,name,width,A,args.length,c⟩ (f (.mk op v name width ts))):
  ∀(t:Tr) (y:Ex) (w:World),t.ok->P t->t.at_ w (Old w) y->∀W,aj w W->C W y (f t)
 | .mk op v name width ts,y,w,bh,hp,hat,W,hW=>by
   have oh:=hat.later hW;unfold Tr.at_ at oh;obtain⟨h1,h2,h3,h4,h5,ys,h6,h7⟩:=oh;have Yf:=bh;unfold Tr.ok at Yf;obtain⟨l,fq,hl2,uu⟩:=Tr.tells f P C hP step ts ys W Yf.2.2.2.2.2 (hP op v name width ts hp) h7;obtain⟨JW,yv,kZ,gP,yA,yn,yc⟩:=y;dsimp only at h1 h2 h3 h4 h5 h6;subst h1 h2 h3 h4 h5;have hlen:l.length=ts.length:=by
    have:(l.map (·.1)).length=ys.length:=by rw[fq]
    rw[length_map,h7.length] at this;exact this
   have k:=step JW yv kZ gP ts yA yc l W bh hp hlen hl2 Tba (by rw[fq];exact h7) uu;rw[hlen] at k;exact k
theorem Tr.tells {α:Type}(f:Tr->α)(P:Tr->Prop)(C:World->Ex->α->Prop)(hP:∀op v name width ts,P (.mk op v name width ts)->∀t∈ts,P t)
  (step:∀(op:Int) (v:Val) (name:ByteArray) (width:Int) (ts:List Tr) (A:Option Addr) (c:Nat) (args:List (Ex×α)) (w:World),(Tr.mk op v name width ts).ok->P (.mk op v name width ts)->args.length=ts.length->args.map (·.2)=ts.map f->RE w w.heap.size A (args.map (·.1))->Tr.aQ w (Old w) ts (args.map (·.1))->(∀a∈args,∀W,aj w W->C W a.1 a.2)->C w ⟨op,v,name,width,A,args.length,c⟩ (f (.mk op v name width ts))):
  ∀(ts:List Tr) (ys:List Ex) (w:World),Tr.cP ts->(∀t∈ts,P t)->Tr.aQ w (Old w) ts ys->∃l:List (Ex×α),l.map (·.1)=ys/\l.map (·.2)=ts.map f/\∀a∈l,∀W,aj w W->C W a.1 a.2
 | [],ys,w,_,_,hat=>by unfold Tr.aQ at hat;subst hat;exact⟨[],rfl,rfl,by simp⟩
 | t::ts,ys,w,bh,hp,hat=>by
   unfold Tr.aQ at hat;unfold Tr.cP at bh;obtain⟨y,ys',rfl,h2,h3⟩:=hat;obtain⟨l,fq,hl2,uu⟩:=Tr.tells f P C hP step ts ys' w bh.2 (λ x hx=>hp x Tbd) h3;refine⟨(y,f t)::l,by simp[fq],by simp[hl2],λ a ha W hW=>?_⟩;rcases List.mem_cons.1 ha with rfl | ha
   ·exact Tr.tell f P C hP step t y w bh.1 (hp t Tac) h2 W hW
   ·exact uu a ha W hW
end
structure fU (w:World) (ts:List Tr) (A:Option Addr) (n:Nat):Prop where
 n:n=ts.length
 lies:∃ys,R8 w (Old w) A ys/\Tr.aQ w (Old w) ts ys
variable{ts:List Tr}
theorem fU.later{w:World}  {A:Option Addr} {n:Nat}(h:fU w ts A n)(hb:aj w w'):fU w' ts A n:=by obtain⟨h1,ys,h2,h3⟩:=h;exact⟨h1,ys,h2.keep λ b hS=>⟨λ o=>hb.cell (p:=⟨b,o,none⟩) hS,Nat.lt_of_lt_of_le hS hb.size⟩,h3.later hb⟩
def RI (w:World)(B:Nat)(A:Option Addr)(l:List (Ex×Value)):Prop:=
 l=[]\/∃b off,A=some ⟨b,off,none⟩/\b < B/\∀i x,l[i]?=some x->cy w b (off+i*8) x.1/\w.cell? ⟨b,off+i*8+7,none⟩=some x.2
theorem RI.below{w:World}  {A:Option Addr} {l:List (Ex×Value)}(h:RI w B A l)(hb:Below B w w'):RI w' B A l:=by
 rcases h with h |⟨b,off,h1,h2,h3⟩
 ·exact .inl h
 ·exact .inr ⟨b,off,h1,h2,λ i x hx=>⟨(h3 i x hx).1.keep λ o=>hb.cell (p:=⟨b,o,none⟩) h2,(hb.cell (p:=⟨b,off+i*8+7,none⟩) h2).trans (h3 i x hx).2⟩⟩
variable{B':Nat}
theorem RI.more{w:World}  {A:Option Addr} {l:List (Ex×Value)}(h:RI w B A l)(hB:B<=B'):RI w B' A l:=by
 rcases h with h |⟨b,off,h1,h2,h3⟩
 ·exact .inl h
 ·exact .inr ⟨b,off,h1,Nat.lt_of_lt_of_le h2 hB,h3⟩
theorem RI.later{w:World} {A:Option Addr} {l:List (Ex×Value)}(h:RI w w.heap.size A l)(hb:aj w w'):RI w' w'.heap.size A l:=(h.below hb).more hb.size
theorem RI.at_{w:World}  {A:Option Addr} {l:List (Ex×Value)}(h:RI w B A l) (hk:k < l.length):∃b off,A=some ⟨b,off,none⟩/\b < B/\cy w b (off+k*8) l[k].1/\w.cell? ⟨b,off+k*8+7,none⟩=some l[k].2:=by
 rcases h with h |⟨b,off,h1,h2,h3⟩
 ·subst h;simp at hk
 ·exact⟨b,off,h1,h2,h3 k l[k] (getElem?_eq_getElem hk)⟩
structure eQ (w:World) (l:List (Tr×Value)) (A:Option Addr) (n:Nat):Prop where
 n:n=l.length
 lies:∃ys:List (Ex×Value),RI w w.heap.size A ys/\ys.map (·.2)=l.map (·.2)/\Tr.aQ w (Old w) (l.map (·.1)) (ys.map (·.1))
theorem eQ.later{w:World} {l:List (Tr×Value)} {A:Option Addr} {n:Nat}(h:eQ w l A n)(hb:aj w w'):eQ w' l A n:=by obtain⟨h1,ys,h2,h3,h4⟩:=h;exact⟨h1,ys,h2.later hb,h3,h4.later hb⟩
theorem jW{p:Nat} {a b:World}(h:a.grownBy b (some p))(o:Obj):a.grownBy (b.alloc o) (some p):=by
 refine⟨h.os,h.tape,h.output,?_,λ k hk hne=>?_⟩
 ·have:=h.size;simp;omega
 ·rw[Below.heap_alloc b o k (Nat.lt_of_lt_of_le hk h.size)];exact h.block k hk hne
theorem RP (x y c:Int)(hx:0<=x)(hy:0<=y)(hc0:0<=c)(hc:c<=1)(w:World):(callFunc 205 #[.int .u64 x,.int .u64 y,.int .u64 c]).run Tryz.prog w=.ok (.value (.tuple #[.int .u64 (lo (x+y+c)),.int .u64 (hi (x+y+c))])) w:=by rw[run_callFunc_extern Tryz.func205 Vx Vx Vx (e:=add64Entry) Vx,run_add64 x y c hx hy hc0 hc];rfl
theorem Yg (a b:Int):0<=lY a b/\lY a b < M*M:=by unfold lY M;omega
theorem Yh (a b:Int)(ha0:0<=a)(ha:a < M*M)(hb0:0<=b)(hb:b < M*M):
  Value.agg #[.int .u64 (lo (hi a+hi b+hi (lo a+lo b+0))),.int .u64 (lo (lo a+lo b+0))]=wv (lY a b):=by
 have e1:lo (hi a+hi b+hi (lo a+lo b+0))=hi (lY a b):=by unfold lY hi lo M at*;omega
 have e2:lo (lo a+lo b+0)=lo (lY a b):=by unfold lY lo M;omega
 unfold wv;rw[e1,e2]
theorem Yi (a b:Int)(ha0:0<=a)(ha:a < M*M)(hb0:0<=b)(hb:b < M*M)(w:World):
  ar 190 #[.agg #[.int .u64 (hi a),.int .u64 (lo a)],.agg #[.int .u64 (hi b),.int .u64 (lo b)]] w λ e w'=>e=.returned (wv (lY a b))/\aj w w':=by
 rw[<- Yh a b ha0 ha hb0 hb];have q1:=sK a;have q2:=sK b;have q3:=sL ha0;have q4:=sL hb0;have q5:0<=hi (lo a+lo b+0)/\hi (lo a+lo b+0)<=1:=by have:=RH a;have:=RH b;unfold hi M at*;omega
 have l1:=λ w=>RP (lo a) (lo b) 0 q1 q2 WC WC w
 have l2:=λ w=>RP (hi a) (hi b) (hi (lo a+lo b+0)) q3 q4 q5.1 q5.2 w
 clear q1 q2 q3 q4 q5 ha0 ha hb0 hb;generalize lo (lo a+lo b+0)=x1 at*;generalize hi (lo a+lo b+0)=x2 at*;generalize lo (hi a+hi b+x2)=x3 at*;generalize hi (hi a+hi b+x2)=x4 at*;generalize lo a=la at*;generalize lo b=lb at*;generalize hi a=ha at*;generalize hi b=hb at*;go_enter Tryz.func190,Tryz.ntmps190;go_wp2;exact bodyPost_ret (v:=.agg #[.int .u64 x3,.int .u64 x1]) (by simp[results,Tryz.results190,go_sem]) rfl ⟨rfl,by go_grown⟩
theorem afA (x y:Int)(w:World):ar 47 #[aF w.heap.size 2 2] (w.alloc (.cells #[af x,af y] 3)) λ e w'=>
  e=.returned (af (oN x y))/\w'=w.alloc (.cells #[af x,af y] 3):=by
 unfold oN;have q1:∀u:Int,u≠0->((u != 0)=true):=λ u h=>by simp[h]
 by_cases h1:x=0
 ·subst h1;by_cases h2:y=0
  ·subst h2;go_enter Tryz.func47,Tryz.ntmps47;go_wp2;refine wp_loop_rounds 3 ?_;iterate 3 (rw[rounds_succ];go_wp2)
   exact ZbN
  ·have:=q1 y h2;go_enter Tryz.func47,Tryz.ntmps47;go_wp2;refine wp_loop_rounds 3 ?_;iterate 2 (rw[rounds_succ];go_wp2)
   exact ZbN
 ·have:=q1 x h1;go_enter Tryz.func47,Tryz.ntmps47;go_wp2;refine wp_loop_rounds 3 ?_;rw[rounds_succ];exact Zgl
theorem cF.free{w:World} {p:Nat} (h:cF w p s)(i:Nat):w.frozen? ⟨p,i,none⟩=false:=aC.frozen h i
variable{W:World}
theorem sP{p:Nat}  {a b:Val}(h:cF W p s):cF ((((((((W.setCell ⟨p,5,none⟩ (ag a.k)).setCell ⟨p,6,none⟩ (af a.n)).setCell ⟨p,7,none⟩ (.string a.s)).setCell ⟨p,8,none⟩ (ag b.k)).setCell ⟨p,9,none⟩ (af b.n)).setCell ⟨p,10,none⟩ (.string b.s)).setCell ⟨p,11,none⟩ (.bool true)).drew) p { s with a:=a,b:=b,found:=true }:=by
 have h1:=(((((((aC.aW h 5 (ag a.k)).aW 6 (af a.n)).aW 7 (.string a.s)).aW 8 (ag b.k)).aW 9 (af b.n)).aW 10 (.string b.s)).aW 11 (.bool true)).drew;have e:(((((((s.cells.setIfInBounds 5 (ag a.k)).setIfInBounds 6 (af a.n)).setIfInBounds 7 (.string a.s)).setIfInBounds 8 (ag b.k)).setIfInBounds 9 (af b.n)).setIfInBounds 10 (.string b.s)).setIfInBounds 11 (.bool true))=St.cells { s with a:=a,b:=b,found:=true }:=by simp[St.cells]
 rw[e] at h1;exact h1
variable{v5 v6 v7 v8 v9 v10 v11:Value}
theorem px{w:World} {p:Nat} (h:w.grownBy W (some p)):w.grownBy (((((((W.setCell ⟨p,5,none⟩ v5).setCell ⟨p,6,none⟩ v6).setCell ⟨p,7,none⟩ v7).setCell ⟨p,8,none⟩ v8).setCell ⟨p,9,none⟩ v9).setCell ⟨p,10,none⟩ v10).setCell ⟨p,11,none⟩ v11) (some p):=
 aG (aG (aG (aG (aG (aG (aG h 5 _) 6 _) 7 _) 8 _) 9 _) 10 _) 11 _
theorem Ld (p:Nat)(s:St)(a b:Val)(w:World)(h:cF w p s):
  ar 194 #[aw p,.agg (aH a),.agg (aH b)] w λ e w'=>
   e=.returned (.tuple #[])/\cF w' p (s.take a b)/\w.grownBy w' (some p):=by
 have HT:fc (s.take a b=if s.better a b then { s with a:=a,b:=b,found:=true } else s):=rfl;have hr:=Ib b s.b;have hr2:=Ib a s.a;have hcv: -1<=s.rank a b/\s.rank a b<=1:=by unfold St.rank oN;split <;> assumption
 obtain⟨op,all,count,sum,sa,sb,found⟩:=s;go_enter Tryz.func194,Tryz.ntmps194;go_wp2_with fail;have hS:cF ((w.alloc (.cells (aH a) 44)).alloc (.cells (aH b) 44)) p _:=(aC.alloc h _).alloc _;have hA:=(aC.new w 44 (aH a)).alloc (.cells (aH b) 44);have hB:=aC.new (w.alloc (.cells (aH a) 44)) 44 (aH b);have hg:w.grownBy ((w.alloc (.cells (aH a) 44)).alloc (.cells (aH b) 44)) (some p):=jW (jW (aT (Below.refl _ _)) _) _;rw[World.size_alloc] at hB;have hp1:p≠w.heap.size:=by have:=aC.lt h;omega
 have Ea:p≠w.heap.size+1:=by have:=aC.lt h;omega
 clear h;generalize (w.alloc (.cells (aH a) 44)).alloc (.cells (aH b) 44)=W at*;have cS:=λ x9:Ext W.heap.size W=>cF.gS (aC.later hS x9.h)
 have cA:=λ x9:Ext W.heap.size W=>aJ (hA.later x9.h)
 have cB:=λ x9:Ext W.heap.size W=>aJ (hB.later x9.h)
 refine aD 12 W.heap.size W (Below.refl _ _) Vx Vx Vx Vx ?_;simp only[Uab];repeat (go_big_quiet_step (first
  |(go_at_call_of 18 b.k;exact aB (Nat.le_refl _) (ed b sb _))
  |(go_at_call_of 18 a.k;exact aB (Nat.le_refl _) (ed a sa _))))
 refine wpQuiet_nil ?_;rintro W4 ⟨x9,bM⟩;have hL:=x9.h;rw[<- bM] at hL;clear cS cA cB bM x9;have RQ:=aC.later hS hL;have xH:=hA.later hL;have ek:=hB.later hL;have hg2:=ba hg (aT (p:=p) hL);clear hS hA hB hg hL;go_wp2_with fail;refine(afA _ _ _).mono ?_;rintro e w' ⟨rfl,rfl⟩;have hS:=aC.alloc RQ (.cells #[af (bQ b sb),af (bQ a sa)] 3);have hA:=aC.alloc xH (.cells #[af (bQ b sb),af (bQ a sa)] 3);have hB:=aC.alloc ek (.cells #[af (bQ b sb),af (bQ a sa)] 3);have hg:=jW hg2 (.cells #[af (bQ b sb),af (bQ a sa)] 3);clear RQ xH ek hg2;have HR:=aa (show St.rank ⟨op,all,count,sum,sa,sb,found⟩ a b=oN (bQ b sb) (bQ a sa)from rfl);rw[HR.ae] at hcv;generalize W4.alloc (.cells #[af (bQ b sb),af (bQ a sa)] 3)=W3 at*;generalize oN (bQ b sb) (bQ a sa)=rk at*;have cS:=cF.gS hS;have cA:=aJ hA;have cB:=aJ hB;have fr:=cF.free hS;have HB:=aa (show St.better ⟨op,all,count,sum,sa,sb,found⟩ a b=(!found || decide ((if op=25\/op=28 then -(St.rank ⟨op,all,count,sum,sa,sb,found⟩ a b)else St.rank ⟨op,all,count,sum,sa,sb,found⟩ a b)< 0))from rfl);by_cases hop:op=25\/op=28
 ·have hor:((op==25)=true)\/((op==25)=false/\(op==28)=true):=by
   by_cases h25:op=25
   ·exact .inl (by rw[h25];rfl)
   ·exact .inr ⟨by rw[beq_eq_false_iff_ne];exact h25,by rw[beq_iff_eq];omega⟩
  cases found
  ·rcases hor with o1 |⟨o1,o2⟩;all_goals
    go_wp2_with fail;go_region;go_wp2_with fail;go_end0;rw[HT.ae,if_pos (by rw[HB.ae];rfl)];exact⟨rfl,sP hS,jw (px hg)⟩
  ·by_cases hlt: -rk < 0
   ·have q1:decide (-rk < 0)=true:=by simpa using hlt
    rcases hor with o1 |⟨o1,o2⟩;all_goals
     go_wp2_with fail;go_region;go_wp2_with fail;go_end0;rw[HT.ae,if_pos (by rw[HB.ae,HR.ae,if_pos hop,q1];rfl)];exact⟨rfl,sP hS,jw (px hg)⟩
   ·have q1:decide (-rk < 0)=false:=by simpa using hlt
    rcases hor with o1 |⟨o1,o2⟩;all_goals
     go_wp2_with fail;go_end0;rw[HT.ae,if_neg (by rw[HB.ae,HR.ae,if_pos hop,q1];decide)];exact⟨rfl,hS,hg⟩
 ·have o1:(op==25)=false:=by rw[beq_eq_false_iff_ne];omega
  have o2:(op==28)=false:=by rw[beq_eq_false_iff_ne];omega
  cases found
  ·go_wp2_with fail;go_region;go_wp2_with fail;go_end0;rw[HT.ae,if_pos (by rw[HB.ae];rfl)];exact⟨rfl,sP hS,jw (px hg)⟩
  ·by_cases hlt:rk < 0
   ·have q1:decide (rk < 0)=true:=by simpa using hlt
    go_wp2_with fail;go_region;go_wp2_with fail;go_end0;rw[HT.ae,if_pos (by rw[HB.ae,HR.ae,if_neg hop,q1];rfl)];exact⟨rfl,sP hS,jw (px hg)⟩
   ·have q1:decide (rk < 0)=false:=by simpa using hlt
    go_wp2_with fail;go_end0;rw[HT.ae,if_neg (by rw[HB.ae,HR.ae,if_neg hop,q1];decide)];exact⟨rfl,hS,hg⟩
theorem aau{p:Nat} (h:cF W p s)(n:Int):cF (W.setCell ⟨p,1,none⟩ (af n)) p { s with all:=n }:=by
 have h1:=aC.aW h 1 (af n);have e:s.cells.setIfInBounds 1 (af n)=St.cells { s with all:=n }:=by simp[St.cells]
 rw[e] at h1;exact h1
theorem FB{p:Nat} (h:cF W p s)(n:Int):cF (W.setCell ⟨p,2,none⟩ (af n)) p { s with count:=n }:=by
 have h1:=aC.aW h 2 (af n);have e:s.cells.setIfInBounds 2 (af n)=St.cells { s with count:=n }:=by simp[St.cells]
 rw[e] at h1;exact h1
theorem aav{p:Nat} (h:cF W p s)(n:Int):cF ((W.setCell ⟨p,3,none⟩ (.int .u64 (hi n))).setCell ⟨p,4,none⟩ (.int .u64 (lo n))) p { s with sum:=n }:=by
 have h1:=(aC.aW h 3 (.int .u64 (hi n))).aW 4 (.int .u64 (lo n));have e:(s.cells.setIfInBounds 3 (.int .u64 (hi n))).setIfInBounds 4 (.int .u64 (lo n))=St.cells { s with sum:=n }:=by simp[St.cells]
 rw[e] at h1;exact h1
def boxed (w:World)(a b:Val):World:=(w.alloc (.cells (aH a) 44)).alloc (.cells (aH b) 44)
theorem ox{w:World} {p:Nat} (h:cF w p s)(a b:Val):cF (boxed w a b) p s:=(aC.alloc h _).alloc _
theorem vT (w:World)(a b:Val):aC (boxed w a b) w.heap.size 44 (aH a):=(aC.new w _ _).alloc _
theorem RS (w:World)(a b:Val):aC (boxed w a b) (w.heap.size+1) 44 (aH b):=by have:=aC.new (w.alloc (.cells (aH a) 44)) 44 (aH b);rw[World.size_alloc] at this;exact this
theorem iK (w:World)(a b:Val)(p:Nat):w.grownBy (boxed w a b) (some p):=jW (jW (aT (Below.refl _ _)) _) _
theorem Le (p:Nat)(s:St)(a b:Val)(w:World)(h:cF w p s):
  ar 156 #[aw p,.agg (aH a),.agg (aH b)] w λ e w'=>
   e=.returned (.tuple #[])/\cF w' p s/\w.grownBy w' (some p):=by go_enter Tryz.func156,Tryz.ntmps156;go_wp2;go_end0;exact⟨rfl,ox h a b,iK w a b p⟩
theorem Yj (p:Nat)(s:St)(a b:Val)(w:World)(h:cF w p s)(h0:0<=s.count)(h1:s.count < 4611686018427387904):
  ar 158 #[aw p,.agg (aH a),.agg (aH b)] w λ e w'=>
   e=.returned (.tuple #[])/\cF w' p (s.some_ a)/\w.grownBy w' (some p):=by
 have hS:=ox h a b;have hA:=vT w a b;have cS:=(cF.gS hS).2.2.1;have cA:=(aJ hA).1;have fr:=cF.free hS 2;have hg:=iK w a b p;by_cases hk:a.k=0
 ·have HT:=aa (show s.some_ a=s from if_pos hk);have t1:(a.k != 0)=false:=by simp[hk]
  unfold boxed at*;have HS:=aa hS;have HG:=aa hg;clear hS hA hg hk h;go_enter Tryz.func158,Tryz.ntmps158;go_wp2;exact Zf5
 ·have HT:=aa (show s.some_ a= { s with count:=s.count+1 } from if_neg hk);have t1:(a.k != 0)=true:=by simp[hk]
  unfold boxed at*;have HS:=aa hS;have HG:=aa hg;clear hS hA hg hk h;go_enter Tryz.func158,Tryz.ntmps158;go_wp2;go_end0;rw[HT.ae];exact⟨rfl,FB HS.ae _,aG HG.ae 2 _⟩
theorem aaw (p:Nat)(s:St)(a b:Val)(w:World)(h:cF w p s)(h0:0<=s.count)(h1:s.count < 4611686018427387904)(hs0:0<=s.sum)(hs1:s.sum < M*M)(JZ: -9223372036854775808<=a.n)(vn:a.n<=9223372036854775807):
  ar 160 #[aw p,.agg (aH a),.agg (aH b)] w λ e w'=>
   e=.returned (.tuple #[])/\cF w' p (s.put a)/\w.grownBy w' (some p):=by
 have hS:=ox h a b;have hA:=vT w a b;have cS:=(cF.gS hS).2.2.1;have cA:=(aJ hA).1;have fr:=cF.free hS 2;have hg:=iK w a b p;by_cases hk:a.k=2
 ·have HT:=aa (show s.put a= { s with count:=s.count+1,sum:=lY s.sum (fT a.n)} from if_pos hk);have t1:(a.k==2)=true:=by simp[hk]
  have RQ:=FB hS (s.count+1);have xH:=aC.far hA (p:=⟨p,2,none⟩) (λ e=>by have:=aC.lt h;simp at e;omega) (af (s.count+1));have hg2:=aG hg 2 (af (s.count+1));unfold boxed at*;have HS:=aa RQ;have HA:=aa xH;have HG:=aa hg2;clear hS hA hg hk h RQ xH hg2;go_enter Tryz.func160,Tryz.ntmps160;go_wp2_with fail;have hS:=HS.ae;have hA:=HA.ae;have hg:=HG.ae;clear HS HA HG cS cA fr;generalize (World.setCell _ ⟨p,2,none⟩ (af (s.count+1)))=W at*;have cS:=λ x9:Ext W.heap.size W=>cF.gS (aC.later hS x9.h)
  have cA:=λ x9:Ext W.heap.size W=>aJ (hA.later x9.h)
  have wb:=Yg 0 a.n;have hw0:0<=fT a.n:=by unfold fT M;omega
  have Z1:fT a.n < M*M:=by unfold fT M;omega
  refine aD 9 W.heap.size W (Below.refl _ _) Vx Vx Vx Vx ?_;simp only[Uab];repeat (go_big_quiet_step (first
   |(go_at_call 191;exact aB (Nat.le_refl _) (Fq a.n JZ vn _))
   |(go_at_call 190;exact aB (Nat.le_refl _) (Yi s.sum (fT a.n) hs0 hs1 hw0 Z1 _))))
  refine wpQuiet_nil ?_;rintro W4 ⟨x9,bM⟩;have hL:=x9.h;rw[<- bM] at hL;clear cS cA bM x9;have RQ:=aC.later hS hL;have hg2:=ba hg (aT (p:=p) hL);have fr:=cF.free RQ;have cS:=cF.gS RQ;unfold wv;go_wp2_with fail;go_end0;rw[HT.ae];exact⟨rfl,aav RQ _,aG (aG hg2 3 _) 4 _⟩
 ·have HT:=aa (show s.put a=s from if_neg hk);have t1:(a.k==2)=false:=by simp[hk]
  unfold boxed at*;have HS:=aa hS;have HG:=aa hg;clear hS hA hg hk h;go_enter Tryz.func160,Tryz.ntmps160;go_wp2_with fail;exact Zf5
theorem Ud (p:Nat)(s:St)(a b:Val)(w:World)(h:cF w p s):
  ar 163 #[aw p,.agg (aH a),.agg (aH b)] w λ e w'=>
   e=.returned (.tuple #[])/\cF w' p (s.alone a)/\w.grownBy w' (some p):=by
 have hS:=ox h a b;have hA:=vT w a b;have cA:=aJ hA;have hg:=iK w a b p;by_cases hk:a.k=0
 ·have HT:=aa (show s.alone a=s from if_pos hk);have t1:(a.k != 0)=false:=by simp[hk]
  unfold boxed at*;have HS:=aa hS;have HG:=aa hg;clear hS hA hg hk h;go_enter Tryz.func163,Tryz.ntmps163;go_wp2_with fail;exact Zf5
 ·have HT:=aa (show s.alone a=s.take a aP from if_neg hk);have t1:(a.k != 0)=true:=by simp[hk]
  unfold boxed at*;have HS:=aa hS;have HG:=aa hg;clear hS hA hg hk h;go_enter Tryz.func163,Tryz.ntmps163;go_wp2_with fail;refine(Ld p s a aP _ HS.ae).mono ?_;exact ZgO
theorem Ue (p:Nat)(s:St)(a b:Val)(w:World)(h:cF w p s):
  ar 165 #[aw p,.agg (aH a),.agg (aH b)] w λ e w'=>
   e=.returned (.tuple #[])/\cF w' p (s.BD a b)/\w.grownBy w' (some p):=by
 have hS:=ox h a b;have hA:=vT w a b;have hB:=RS w a b;have cA:=aJ hA;have cB:=aJ hB;have hg:=iK w a b p;by_cases hk:b.k=2
 ·have HT:=aa (show s.BD a b=s.take a b from if_pos hk);have t1:(b.k==2)=true:=by simp[hk]
  unfold boxed at*;have HS:=aa hS;have HG:=aa hg;clear hS hA hB hg hk h;go_enter Tryz.func165,Tryz.ntmps165;go_wp2_with fail;refine(Ld p s a b _ HS.ae).mono ?_;exact ZgO
 ·have HT:=aa (show s.BD a b=s from if_neg hk);have t1:(b.k==2)=false:=by simp[hk]
  unfold boxed at*;have HS:=aa hS;have HG:=aa hg;clear hS hA hB hg hk h;go_enter Tryz.func165,Tryz.ntmps165;go_wp2_with fail;exact Zf5
theorem OJ (w:World):(zeroValue 192).run Tryz.prog w=.ok (.agg #[.nilFunc,.nilFunc,af 0]) w:=by exact ZhU
theorem FC (w:World)(g:Nat)(es:Array MapEntry)(c:Nat)(hg:w.heap[g]?=some (.map es c))(k:Int)(ok:Bool)(hf:Instr.findNow (.int .u8) (ag k) es.toList 0=some none):
  (Instr.lookup 193 (.map (some g)) (ag k) ok).run Tryz.prog w=.ok (if ok then .tuple #[.agg #[.nilFunc,.nilFunc,af 0],.bool false] else .agg #[.nilFunc,.nilFunc,af 0]) w:=by unfold Instr.lookup;simp only[Sem.run_bind,run_underlying Tryz.underlying193,Result.andThen_ok,MapKept.run_getObj_map hg,xy,Instr.findKey,run_underlying Tryz.underlying5,hf,Sem.run_pure,OJ]
theorem Lf (op:Int)(h:op < 21\/28 < op):Instr.findNow (.int .u8) (ag op) zR.toList 0=some none:=by
 simp only[zR,Instr.findNow,Instr.sameNow];have q:∀k:Int,21<=k->k<=28->(op==k)=false:=λ k h1 h2=>by rw[beq_eq_false_iff_ne];omega
 simp[q 21,q 22,q 23,q 24,q 25,q 26,q 27,q 28]
theorem xI (op:Int)(w:World):ar 146 #[ag op] w λ e w'=>e=.returned (.bool (isAgg op))/\aj w w':=by
 have hg:(w.alloc (.map zR 8)).heap[w.heap.size]?=some (.map zR 8):=heap_alloc_new w _;by_cases h:21<=op/\op<=28
 ·obtain⟨i,hi⟩:=AE op h.1 h.2;have hl:=AD _ _ _ _ hg op true i _ hi;have HT:=aa (show isAgg op=true by simp[isAgg,h.1,h.2]);unfold cf fn at hl;simp only[if_true] at hl;generalize ql op=f1 at*;generalize vP op=f2 at*;generalize Ic op=f3 at*;clear hg hi h;go_enter Tryz.func146,Tryz.ntmps146;exact Zcx
 ·have hl:=FC _ _ _ _ hg op true (Lf op WC);have HT:=aa (show isAgg op=false by simp[isAgg];omega);simp only[if_true] at hl;clear hg h;go_enter Tryz.func146,Tryz.ntmps146;exact Zcx
theorem afB (x y z:Value)(w:World):(Instr.field 192 (.agg #[x,y,z]) 0).run Tryz.prog w=.ok x w:=by exact ZhU
theorem Yk (x y z:Value)(w:World):(Instr.field 192 (.agg #[x,y,z]) 2).run Tryz.prog w=.ok z w:=by exact ZhU
def iA (op:Int):Int:=if isAgg op then Ic op else 0
theorem Yl (op:Int)(w:World):ar 187 #[ag op] w λ e w'=>e=.returned (af (iA op))/\aj w w':=by
 have hg:(w.alloc (.map zR 8)).heap[w.heap.size]?=some (.map zR 8):=heap_alloc_new w _;by_cases h:21<=op/\op<=28
 ·obtain⟨i,hi⟩:=AE op h.1 h.2;have hl:=AD _ _ _ _ hg op false i _ hi;have HT:=aa (show iA op=Ic op by unfold iA;rw[if_pos (by simp[isAgg,h.1,h.2])]);unfold cf fn at hl;simp only[Bool.false_eq_true,if_false] at hl;generalize ql op=f1 at*;generalize vP op=f2 at*;generalize Ic op=f3 at*;clear hg hi h;have f2':=Yk;go_enter Tryz.func187,Tryz.ntmps187;exact Zcx
 ·have hl:=FC _ _ _ _ hg op false (Lf op WC);have HT:=aa (show iA op=0 by unfold iA;rw[if_neg (by simp[isAgg];omega)]);simp only[Bool.false_eq_true,if_false] at hl;clear hg h;have f2':=Yk;go_enter Tryz.func187,Tryz.ntmps187;exact Zcx
theorem Uf (op:Int):(fh op).cells= #[ag op,af 0,af 0,.int .u64 0,.int .u64 0,ag 0,af 0,.string ByteArray.empty,ag 0,af 0,.string ByteArray.empty,.bool false]:=by simp[fh,St.cells,aP,hi,lo]
def aax (op:Int)(w:World)(e:Ending)(w':World):Prop:=∃p,w.heap.size<=p/\e=.returned (.tuple #[aw p,af 0])/\cF w' p (fh op)/\aj w w'
theorem aay (op:Int)(w:World)(h:isAgg op=true):ar 100 #[ag op] w (aax op w):=by have H:=aa h;clear h;go_enter Tryz.func100,Tryz.ntmps100;go_wp2_with (go_at_call 146;refine(xI _ _).mono ?_;rintro e w1 ⟨rfl,b1⟩;rw[H.ae]);go_ret2;exact⟨w1.heap.size,b1.size,rfl,by unfold cF;rw[Uf];exact aC.new w1 _ _,b1.alloc b1.size _⟩
theorem Ym (p:Nat)(s:St)(a b:Val)(w:World)(h:cF w p s)(ok:s.Ok)(ha:a.Ok):
  ar (ql s.op) #[aw p,.agg (aH a),.agg (aH b)] w λ e w'=>
   e=.returned (.tuple #[])/\cF w' p (s.does a b)/\w.grownBy w' (some p):=by
 unfold ql St.does;by_cases h1:s.op=21
 ·rw[if_pos h1,if_pos h1];exact Le p s a b w h
 ·rw[if_neg h1,if_neg h1];by_cases h2:s.op=22
  ·rw[if_pos h2,if_pos h2];exact Yj p s a b w h ok.xE ok.Ie
  ·rw[if_neg h2,if_neg h2];by_cases h3:s.op=23\/s.op=26
   ·rw[if_pos h3,if_pos h3];exact aaw p s a b w h ok.xE ok.Ie ok.aao ok.aap ha.1 ha.2
   ·rw[if_neg h3,if_neg h3];by_cases h4:s.op=24\/s.op=25
    ·rw[if_pos h4,if_pos h4];exact Ud p s a b w h
    ·rw[if_neg h4,if_neg h4];exact Ue p s a b w h
theorem Em (args:Array Value)(w:World):(callFunc 156 args).run Tryz.prog w=.ok (.enter 156 args) w:=by exact ZhU
theorem OL (args:Array Value)(w:World):(callFunc 158 args).run Tryz.prog w=.ok (.enter 158 args) w:=by exact ZhU
theorem Ug (args:Array Value)(w:World):(callFunc 160 args).run Tryz.prog w=.ok (.enter 160 args) w:=by exact ZhU
theorem Lg (args:Array Value)(w:World):(callFunc 163 args).run Tryz.prog w=.ok (.enter 163 args) w:=by exact ZhU
theorem Lh (args:Array Value)(w:World):(callFunc 165 args).run Tryz.prog w=.ok (.enter 165 args) w:=by exact ZhU
theorem OM (op:Int)(args:Array Value)(w:World):(callFunc (ql op) args).run Tryz.prog w=.ok (.enter (ql op) args) w:=by
 unfold ql;split
 ·exact Em args w
 ·split
  ·exact OL args w
  ·split
   ·exact Ug args w
   ·split
    ·exact Lg args w
    ·exact Lh args w
def RT (p:Nat)(op:Int)(a b:Val):Nat->World->Value->Prop
 | 0=>λ w v=>∃g,v=.map (some g)/\w.heap[g]?=some (.map zR 8)
 | 1=>λ _ v=>v=aw p
 | 2=>λ _ v=>v=aw p
 | 3=>λ _ v=>v=aw p
 | 4=>λ _ v=>v=ag op
 | 5=>λ _ v=>v=cf op
 | 6=>λ _ v=>v=fn (ql op)
 | 7=>λ _ v=>v=aw p
 | 8=>λ _ v=>v=.agg (aH a)
 | 9=>λ _ v=>v=.agg (aH b)
 | _=>λ _ _=>True
theorem Lj (p:Nat)(op:Int)(a b:Val)(i:Nat)(w w':World)(v:Value)(h:RT p op a b i w v)(hl:ai w w'):RT p op a b i w' v:=by unfold RT at*;exact ZdK
theorem Yn (p:Nat)(s:St)(a b:Val)(w:World)(h:cF w p s)(ok:s.Ok)(hall:s.all < 4611686018427387904)(ha:a.Ok):
  ar 103 #[aw p,.agg (aH a),.agg (aH b)] w λ e w'=>
   e=.returned (.tuple #[])/\cF w' p (s.feed a b)/\w.grownBy w' (some p):=by
 have hS:=ox h a b;have hA:=vT w a b;have hB:=RS w a b;have hg:=iK w a b p;have cS:=(cF.gS hS).2.1;have fr:=cF.free hS 1;have q0:=ok.akv;have q1:=hall;have hp:=aC.lt h;have RQ:=aau hS (s.all+1);have xH:=aC.far hA (p:=⟨p,1,none⟩) (λ e=>by simp at e;omega) (af (s.all+1));have ek:=aC.far hB (p:=⟨p,1,none⟩) (λ e=>by simp at e;omega) (af (s.all+1));have hg2:=aG hg 1 (af (s.all+1));unfold boxed at*;have HS:=aa RQ;have HA:=aa xH;have HB:=aa ek;have HG:=aa hg2;clear hS hA hB hg h RQ xH ek hg2 hp;go_enter Tryz.func103,Tryz.ntmps103;go_wp2_with fail;have hS:=HS.ae;have hA:=HA.ae;have hB:=HB.ae;have hg:=HG.ae;clear HS HA HB HG cS fr;generalize (World.setCell _ ⟨p,1,none⟩ (af (s.all+1)))=W at*;refine bC 10 (RT p s.op a b) (Lj p s.op a b) Vx Vx Vx ?_ ?_
 ·simp only[take_succ_cons,take_zero];refine⟨Zdq,?_,?_,?_,?_,?_,?_,?_,?_,?_,trivial⟩
  ·intro ρ W4 hc hL hr;have h1:_=_:=hr.1;exact Zgg
  ·intro ρ W4 hc hL hr;have h1:_=_:=hr.1;exact Zdf
  ·intro ρ W4 hc hL hr;have h1:_=_:=hr.1;exact Zdf
  ·intro ρ W4 hc hL hr;have h1:_=_:=hr.1;have c0:=(cF.gS (aC.later hS hL)).1;exact Zep
  ·intro ρ W4 hc hL hr;obtain⟨g,h1,hgm⟩:∃g,ρ (.tmp 15)=.map (some g)/\W4.heap[g]?=some (.map zR 8):=hr.1;have h2:_=_:=hr.2.1;obtain⟨i,hi⟩:=AE s.op ok.op0 ok.op1;exact Zgp
  ·intro ρ W4 hc hL hr;have h1:_=_:=hr.1;have hf:=afB (fn (ql s.op)) (fn (vP s.op)) (af (Ic s.op)) W4;exact Zif
  ·intro ρ W4 hc hL hr;have h1:_=_:=hr.1;exact Zgg
  ·intro ρ W4 hc hL hr;have h1:_=_:=hr.1;have c0:=aJ (hA.later hL);exact Zep
  ·intro ρ W4 hc hL hr;have h1:_=_:=hr.1;have c0:=aJ (hB.later hL);exact Zep
 ·intro W4 hL;simp only[Uab];rintro _ ⟨g,rfl,hgm⟩ _ rfl _ rfl _ rfl _ rfl _ rfl _ rfl _ rfl _ rfl _ rfl;have RQ:cF W4 p { s with all:=s.all+1 }:=aC.later hS hL;have hg2:=ba hg (aT (p:=p) hL);have ok2:St.Ok { s with all:=s.all+1 }:=⟨ok.op0,ok.op1,by show 0<=s.all+1;omega,by show s.all+1 < 4611686018427387905;omega,ok.xE,ok.Ie,ok.aao,ok.aap⟩;have hen:=OM s.op;simp only[bF,Act.put,Uac,fn];go_wp2_with fail;refine(Ym p { s with all:=s.all+1 } a b _ RQ ok2 ha).mono ?_;rintro e w2 ⟨rfl,hs3,hg3⟩;go_wp2_with fail;go_end0;exact⟨rfl,hs3,ba hg2 hg3⟩
def fV:List Bool->Int
 | []=> -1
 | b::l=>if b=true then 0 else if fV l < 0 then -1 else fV l+1
theorem vU:∀l:List Bool, -1<=fV l
 | []=>by simp[fV]
 | b::l=>by
   have:=vU l;unfold fV;split
   ·omega
   ·split <;> omega
theorem xJ:∀(l:List Bool) (k:Nat),(∀j,j < k->l.getD j false=false)->(fV l < 0↔fV (l.drop k)< 0)/\(0<=fV (l.drop k)->fV l=k+fV (l.drop k))
 | l,0,_=>by simp
 | [],k+1,_=>by simp[fV]
 | b::l,k+1,h=>by
   have h0:b=false:=h 0 WC;obtain⟨h1,h2⟩:=xJ l k λ j hj=>h (j+1) WC
   have h3:=vU l;rw[drop_succ_cons];subst h0;have e:fV (false::l)=if fV l < 0 then -1 else fV l+1:=rfl
   rw[e];constructor
   ·rw[<- h1];split <;> omega
   ·intro h4;have h5:=h2 h4;rw[if_neg WC];omega
theorem vV{l:List Bool} (h:∀j,j < k->l.getD j false=false)(hk:l[k]?=some true):fV l=k:=by
 obtain⟨h1,h2⟩:=xJ l k h;obtain⟨hlt,he⟩:=List.getElem?_eq_some_iff.1 hk;have e:fV (l.drop k)=0:=by rw[drop_eq_getElem_cons hlt,he];rfl
 have:=h2 WC;omega
theorem oy{l:List Bool}(h:∀j,j < l.length->l.getD j false=false):fV l= -1:=by obtain⟨h1,h2⟩:=xJ l l.length h;rw[drop_length] at h1;have:=vU l;have:fV l < 0:=h1.2 (by simp[fV]);omega
theorem vX (l:List Bool):l.any id=decide (0<=fV l):=by
 induction l with
 | nil=>rfl
 | cons b l ih=>
   rw[any_cons,ih];have h:=vU l;cases b
   ·show decide (0<=fV l)=decide (0<=if fV l < 0 then -1 else fV l+1);split
    ·rw[decide_eq_false WC,decide_eq_false WC]
    ·rw[decide_eq_true WC,decide_eq_true WC]
   ·rfl
theorem RE.later{w:World} {A:Option Addr} {l:List Ex}(h:RE w w.heap.size A l)(hb:aj w w'):RE w' w'.heap.size A l:=(h.below hb).more hb.size
variable{α:Type}
theorem BM{l:List (α×Bool)} (h:k < l.length):(l.map (·.2)).getD k false=l[k].2:=by rw[getD_eq_getElem?_getD,getElem?_map,getElem?_eq_getElem h];rfl
theorem Ii (A:Option Addr)(c:Nat)(args:List (Ex×Bool))(w:World)(hl:args.length<=1599289640356)(hA:RE w w.heap.size A (args.map (·.1)))(hE:∀a∈args,∀W,aj w W->ar 93 #[.agg (ay a.1)] W λ e w'=>e=.returned (.bool a.2)/\aj W w'):
  ar 150 #[.slice A args.length c,.func (.func 93) #[] #[]] w λ e w'=>e=.returned (af (fV (args.map (·.2))))/\aj w w':=by exact ZaW
theorem zT (A:Option Addr)(c:Nat)(args:List (Ex×Bool))(w:World)(hl:args.length<=1599289640356)(hA:RE w w.heap.size A (args.map (·.1)))(hE:∀a∈args,∀W,aj w W->ar 93 #[.agg (ay a.1)] W λ e w'=>e=.returned (.bool a.2)/\aj W w'):
  ar 147 #[.slice A args.length c,.func (.func 93) #[] #[]] w λ e w'=>e=.returned (.bool ((args.map (·.2)).any id))/\aj w w':=by have hi:=Ii A c args w hl hA hE;rw[vX];clear hA hE;go_enter Tryz.func147,Tryz.ntmps147;exact Zba
theorem zf2.Kbj(h:p:=by
 clear hg;have gX:=HX.cell 0;simp only[Uaa] at gX;cases S2:isAgg op
 ·have HI:=aa (xI op);have HG:=aa S2;clear S2;go_wp2_with fail;refine(HI.ae _).mono ?_;rintro e w1 ⟨rfl,b1⟩;rw[HG.ae];have c10:=(HX.later b1).cell 6;simp only[Uaa] at c10;clear gX;go_wp2_with fail;refine(zT A c args w1 hl (HA.ae.later b1) (λ a ha W hW=>HE.ae a ha W (ai.then b1 hW))).mono ?_;rintro e w2 ⟨rfl,b2⟩;go_wp2_with fail;go_ret;exact⟨by rw[HG.ae,Bool.false_or,any_map];rfl,ai.then (ai.then HB.ae b1) b2⟩
 ·have HI:=aa (xI op);have HG:=aa S2;clear S2;go_wp2_with fail;refine(HI.ae _).mono ?_;rintro e w1 ⟨rfl,b1⟩;rw[HG.ae];go_wp2_with fail;go_ret;exact⟨by rw[HG.ae,Bool.true_or];rfl,ai.then HB.ae b1⟩):p:=h
theorem Yo (op:Int)(v:Val)(name:ByteArray)(width:Int)(A:Option Addr)(c:Nat)(args:List (Ex×Bool))(w:World)(hl:args.length<=1599289640356)(hA:RE w w.heap.size A (args.map (·.1)))(hE:∀a∈args,∀W,aj w W->ar 93 #[.agg (ay a.1)] W λ e w'=>e=.returned (.bool a.2)/\aj W w'):
  ar 93 #[.agg #[ag op,ag v.k,af v.n,.string v.s,.string name,af width,.slice A args.length c]] w λ e w'=>e=.returned (.bool (isAgg op ||(args.map (·.2)).any id))/\aj w w':=by
 have bb:=ah w (.cells #[.int .u8 op,.int .u8 v.k,.int .i64 v.n,.string v.s,.string name,.int .i64 width,.slice A args.length c] 46);have HX:=aC.new w 46 #[.int .u8 op,.int .u8 v.k,.int .i64 v.n,.string v.s,.string name,.int .i64 width,.slice A args.length c];have Uh:=hA.later bb;have hE1:=λ a (ha:a∈args) W (hW:Below (w.alloc (.cells #[.int .u8 op,.int .u8 v.k,.int .i64 v.n,.string v.s,.string name,.int .i64 width,.slice A args.length c] 46)).heap.size (w.alloc (.cells #[.int .u8 op,.int .u8 v.k,.int .i64 v.n,.string v.s,.string name,.int .i64 width,.slice A args.length c] 46)) W)=>hE a ha W (ai.then bb hW)
 have HA:=aa Uh;have HE:=aa hE1;clear hA hE Uh hE1;go_enter Tryz.func93,Tryz.ntmps93;have HB:=aa bb;clear bb;open zf2 in exact Zdm
mutual
def Tr.has:Tr->Bool
 | .mk op v name width args=>isAgg op || Tr.En args
def Tr.En:List Tr->Bool
 | []=>false
 | t::ts=>t.has || Tr.En ts
end
theorem vY:∀ts:List Tr,(ts.map Tr.has).any id=Tr.En ts
 | []=>by simp[Tr.En]
 | t::ts=>by unfold Tr.En;rw[map_cons,any_cons,vY ts];rfl
def yY (w:World)(y:Ex)(b:Bool):Prop:=ar 93 #[mK y] w λ e w'=>e=.returned (.bool b)/\aj w w'
theorem Tr.afC (t:Tr)(y:Ex)(w:World)(bh:t.ok)(hat:t.at_ w (Old w) y):∀W,aj w W->yY W y t.has:=
 Tr.tell Tr.has (λ _=>True) yY (λ _ _ _ _ _ _ _ _=>trivial) (λ op v name width ts A c args w bh _ hlen hm hA hall hE=>by
  have Yf:=bh
  unfold Tr.ok at Yf
  have h:=Yo op v name width A c args w (by rw[hlen];exact Yf.2.1) hA (λ a ha W hW=>hE a ha W hW)
  rw[hm,vY] at h
  unfold yY mK Tr.has
  exact h) t y w bh trivial hat
theorem Ij (A:Option Addr)(c:Nat)(args:List ((Ex×Value)×Bool))(w:World)(hl:args.length<=1599289640356)(hA:RI w w.heap.size A (args.map (·.1)))(hE:∀a∈args,∀W,aj w W->ar 92 #[.agg #[ag a.1.1.op,ag a.1.1.v.k,af a.1.1.v.n,.string a.1.1.v.s,.string a.1.1.name,af a.1.1.width,.slice a.1.1.A a.1.1.n a.1.1.c,a.1.2]] W λ e w'=>e=.returned (.bool a.2)/\aj W w'):
  ar 145 #[.slice A args.length c,.func (.func 92) #[] #[]] w λ e w'=>e=.returned (af (fV (args.map (·.2))))/\aj w w':=by have HA:=aa hA;have HE:=aa hE;clear hA hE;go_enter Tryz.func145,Tryz.ntmps145;exact Za1
theorem zU (A:Option Addr)(c:Nat)(args:List ((Ex×Value)×Bool))(w:World)(hl:args.length<=1599289640356)(hA:RI w w.heap.size A (args.map (·.1)))(hE:∀a∈args,∀W,aj w W->ar 92 #[.agg #[ag a.1.1.op,ag a.1.1.v.k,af a.1.1.v.n,.string a.1.1.v.s,.string a.1.1.name,af a.1.1.width,.slice a.1.1.A a.1.1.n a.1.1.c,a.1.2]] W λ e w'=>e=.returned (.bool a.2)/\aj W w'):
  ar 91 #[.slice A args.length c,.func (.func 92) #[] #[]] w λ e w'=>e=.returned (.bool ((args.map (·.2)).any id))/\aj w w':=by have hi:=Ij A c args w hl hA hE;rw[vX];clear hA hE;go_enter Tryz.func91,Tryz.ntmps91;exact Zba
theorem zbK.Kal(h:p:=by go_wp2_with fail;refine H.ae.mono ?_;exact Zey):p:=h
theorem OO (y:Ex)(z:Value)(b:Bool)(w:World)(h:∀W,aj w W->yY W y b):
  ar 92 #[.agg #[ag y.op,ag y.v.k,af y.v.n,.string y.v.s,.string y.name,af y.width,.slice y.A y.n y.c,z]] w λ e w'=>e=.returned (.bool b)/\aj w w':=by have bb:=ah w (.cells #[ag y.op,ag y.v.k,af y.v.n,.string y.v.s,.string y.name,af y.width,.slice y.A y.n y.c,z] 48);have k1:=aC.new w 48 #[ag y.op,ag y.v.k,af y.v.n,.string y.v.s,.string y.name,af y.width,.slice y.A y.n y.c,z];have hh:=h _ bb;have HB:=aa bb;clear bb;unfold yY mK at hh;have H:=aa hh;clear h hh;go_enter Tryz.func92,Tryz.ntmps92;go_upto_region 1 with fail;generalize MI:w.alloc _=W1 at*;obtain⟨g,HP⟩:∃g,g=w.heap.size:=⟨_,rfl⟩;rw[<- HP] at k1 ⊢;clear HP MI;open zbK in exact ZaD
theorem Ik (A:Option Addr)(c:Nat)(args:List ((Ex×Value)×Bool))(w:World)(hl:args.length<=1599289640356)(hA:RI w w.heap.size A (args.map (·.1)))(hE:∀a∈args,∀W,aj w W->ar 95 #[.agg #[ag a.1.1.op,ag a.1.1.v.k,af a.1.1.v.n,.string a.1.1.v.s,.string a.1.1.name,af a.1.1.width,.slice a.1.1.A a.1.1.n a.1.1.c,a.1.2]] W λ e w'=>e=.returned (.bool a.2)/\aj W w'):
  ar 148 #[.slice A args.length c,.func (.func 95) #[] #[]] w λ e w'=>e=.returned (af (fV (args.map (·.2))))/\aj w w':=by have HA:=aa hA;have HE:=aa hE;clear hA hE;go_enter Tryz.func148,Tryz.ntmps148;exact Za1
theorem zV (A:Option Addr)(c:Nat)(args:List ((Ex×Value)×Bool))(w:World)(hl:args.length<=1599289640356)(hA:RI w w.heap.size A (args.map (·.1)))(hE:∀a∈args,∀W,aj w W->ar 95 #[.agg #[ag a.1.1.op,ag a.1.1.v.k,af a.1.1.v.n,.string a.1.1.v.s,.string a.1.1.name,af a.1.1.width,.slice a.1.1.A a.1.1.n a.1.1.c,a.1.2]] W λ e w'=>e=.returned (.bool a.2)/\aj W w'):
  ar 94 #[.slice A args.length c,.func (.func 95) #[] #[]] w λ e w'=>e=.returned (.bool ((args.map (·.2)).any id))/\aj w w':=by have hi:=Ik A c args w hl hA hE;rw[vX];clear hA hE;go_enter Tryz.func94,Tryz.ntmps94;exact Zba
theorem zbL.Kal(h:p:=by go_wp2_with fail;refine H.ae.mono ?_;exact Zey):p:=h
theorem OQ (y:Ex)(z:Value)(b:Bool)(w:World)(h:∀W,aj w W->yY W y b):
  ar 95 #[.agg #[ag y.op,ag y.v.k,af y.v.n,.string y.v.s,.string y.name,af y.width,.slice y.A y.n y.c,z]] w λ e w'=>e=.returned (.bool b)/\aj w w':=by have bb:=ah w (.cells #[ag y.op,ag y.v.k,af y.v.n,.string y.v.s,.string y.name,af y.width,.slice y.A y.n y.c,z] 117);have k1:=aC.new w 117 #[ag y.op,ag y.v.k,af y.v.n,.string y.v.s,.string y.name,af y.width,.slice y.A y.n y.c,z];have hh:=h _ bb;have HB:=aa bb;clear bb;unfold yY mK at hh;have H:=aa hh;clear h hh;go_enter Tryz.func95,Tryz.ntmps95;go_upto_region 1 with fail;generalize MI:w.alloc _=W1 at*;obtain⟨g,HP⟩:∃g,g=w.heap.size:=⟨_,rfl⟩;rw[<- HP] at k1 ⊢;clear HP MI;open zbL in exact ZaD
structure Qy where
 items:List (Tr×ByteArray)
 bZ:ByteArray
 only:Bool
 cK:List Tr
 aL:List Tr
 ft:List Tr
 ord:List (Tr×Bool)
 lim:List Int
structure Sl where
 A:Option Addr
 n:Nat
 c:Nat
structure QL where
 i:Sl
 w:Sl
 g:Sl
 h:Sl
 o:Sl
 l:Sl
def tJ (q:Qy)(L:QL):Value:=.agg #[.slice L.i.A L.i.n L.i.c,.string q.bZ,.bool q.only,.slice L.w.A L.w.n L.w.c,.slice L.g.A L.g.n L.g.c,.slice L.h.A L.h.n L.h.c,.slice L.o.A L.o.n L.o.c,.slice L.l.A L.l.n L.l.c]
def fW (q:Qy)(L:QL):Array Value:= #[.slice L.i.A L.i.n L.i.c,.string q.bZ,.bool q.only,.slice L.w.A L.w.n L.w.c,.slice L.g.A L.g.n L.g.c,.slice L.h.A L.h.n L.h.c,.slice L.o.A L.o.n L.o.c,.slice L.l.A L.l.n L.l.c]
def Ui (w:World)(B:Nat)(A:Option Addr)(l:List Int):Prop:=l=[]\/∃b off,A=some ⟨b,off,none⟩/\b < B/\∀i x,l[i]?=some x->w.cell? ⟨b,off+i,none⟩=some (af x)
theorem Ui.later{w:World} {A:Option Addr} {l:List Int}(h:Ui w w.heap.size A l)(hb:aj w w'):Ui w' w'.heap.size A l:=by
 rcases h with h |⟨b,off,h1,h2,h3⟩
 ·exact .inl h
 ·exact .inr ⟨b,off,h1,Nat.lt_of_lt_of_le h2 hb.size,λ i x hx=>(hb.cell (p:=⟨b,off+i,none⟩) h2).trans (h3 i x hx)⟩
structure rD (W:World) (q:Qy) (L:QL):Prop where
 i:eQ W (q.items.map λ x=>(x.1,.string x.2)) L.i.A L.i.n
 w:fU W q.cK L.w.A L.w.n
 g:fU W q.aL L.g.A L.g.n
 h:fU W q.ft L.h.A L.h.n
 o:eQ W (q.ord.map λ x=>(x.1,.bool x.2)) L.o.A L.o.n
 l:L.l.n=q.lim.length/\Ui W W.heap.size L.l.A q.lim
variable{q:Qy}{L:QL}
theorem rD.later{w:World}  (h:rD w q L)(hb:aj w w'):rD w' q L:=
 ⟨h.i.later hb,h.w.later hb,h.g.later hb,h.h.later hb,h.o.later hb,h.l.1,h.l.2.later hb⟩
structure Qy.Ok (q:Qy):Prop where
 i:Tr.cP (q.items.map (·.1))
 w:Tr.cP q.cK
 g:Tr.cP q.aL
 h:Tr.cP q.ft
 o:Tr.cP (q.ord.map (·.1))
 ni:q.items.length<=1599289640356
 nw:q.cK.length<=1599289640356
 ng:q.aL.length<=1599289640356
 nh:q.ft.length<=1599289640356
 no:q.ord.length<=1599289640356
def Qy.aK (q:Qy):Bool:=decide (0 < q.aL.length+q.ft.length)|| Tr.En (q.items.map (·.1))|| Tr.En (q.ord.map (·.1))
theorem Il:∀(ts:List Tr) (ys:List (Ex×Value)) (w:World),Tr.cP ts->Tr.aQ w (Old w) ts (ys.map (·.1))->∃args:List ((Ex×Value)×Bool),args.map (·.1)=ys/\args.map (·.2)=ts.map Tr.has/\∀a∈args,∀W,aj w W->yY W a.1.1 a.2
 | [],ys,w,_,hat=>by
   unfold Tr.aQ at hat;have:ys=[]:=by simpa using hat
   subst this;exact⟨[],rfl,rfl,by simp⟩
 | t::ts,ys,w,bh,hat=>by
   unfold Tr.aQ at hat;unfold Tr.cP at bh;obtain⟨y,ys',h1,h2,h3⟩:=hat;cases ys with
   | nil=>cases h1
   | cons z ys=>
     rw[map_cons] at h1;injection h1 with e1 e2;subst e1 e2;obtain⟨l,fq,hl2,uu⟩:=Il ts ys w bh.2 h3;refine⟨(z,t.has)::l,by simp[fq],by simp[hl2],λ a ha W hW=>?_⟩;rcases List.mem_cons.1 ha with rfl | ha
     ·exact Tr.afC t z.1 w bh.1 h2 W hW
     ·exact uu a ha W hW
theorem Yp{l:List (Tr×Value)} {A:Option Addr} {n:Nat}(c:Nat) {w:World}(h:eQ w l A n)(bh:Tr.cP (l.map (·.1)))(hl:l.length<=1599289640356):
  ar 91 #[.slice A n c,.func (.func 92) #[] #[]] w λ e w'=>e=.returned (.bool (Tr.En (l.map (·.1))))/\aj w w':=by
 obtain⟨rfl,ys,h2,h3,h4⟩:=h;obtain⟨args,a1,a2,a3⟩:=Il _ ys w bh h4;have hlen:args.length=l.length:=by have:=congrArg List.length a2;simpa using this
 have h:=zU A c args w WC (by rw[a1];exact h2) (λ a ha W hW=>OO a.1.1 a.1.2 a.2 W (λ W2 hW2=>a3 a ha W2 (ai.then hW hW2)));rw[hlen,a2,vY] at h;exact h
theorem Yq{l:List (Tr×Value)} {A:Option Addr} {n:Nat}(c:Nat) {w:World}(h:eQ w l A n)(bh:Tr.cP (l.map (·.1)))(hl:l.length<=1599289640356):
  ar 94 #[.slice A n c,.func (.func 95) #[] #[]] w λ e w'=>e=.returned (.bool (Tr.En (l.map (·.1))))/\aj w w':=by
 obtain⟨rfl,ys,h2,h3,h4⟩:=h;obtain⟨args,a1,a2,a3⟩:=Il _ ys w bh h4;have hlen:args.length=l.length:=by have:=congrArg List.length a2;simpa using this
 have h:=zV A c args w WC (by rw[a1];exact h2) (λ a ha W hW=>OQ a.1.1 a.1.2 a.2 W (λ W2 hW2=>a3 a ha W2 (ai.then hW hW2)));rw[hlen,a2,vY] at h;exact h
theorem zf3.Kbj(h:p:=by
 clear hg;have gX:=HX.cell 0;have x4:=HX.cell 4;have x5:=HX.cell 5;have c10:=HX.cell 6;simp only[Uaa] at gX x4 x5 c10;rw[NG.ae] at x4;rw[NH.ae] at x5;by_cases h1:0 < q.aL.length+q.ft.length
 ·have t1:=decide_eq_true (show(0:Int)<(q.aL.length:Int)+(q.ft.length:Int) by omega);have t2:=decide_eq_true h1;have HT:=aa (show(decide (0 < q.aL.length+q.ft.length))=true from t2);clear h1 t2;go_wp2_with fail;go_ret;exact⟨by unfold Qy.aK;rw[HT.ae,Bool.true_or,Bool.true_or];rfl,HB.ae⟩
 ·have t1:=decide_eq_false (show¬(0:Int)<(q.aL.length:Int)+(q.ft.length:Int) by omega);have HT:=aa (decide_eq_false h1);clear h1;have hi:=Yp L.i.c HQ.ae.i (by rw[map_map];exact je.ae.i) (by rw[length_map];exact je.ae.ni);have e1:((q.items.map λ x=>(x.1,Value.string x.2)).map (·.1))=q.items.map (·.1):=by rw[map_map];rfl
  have e2:((q.ord.map λ x=>(x.1,Value.bool x.2)).map (·.1))=q.ord.map (·.1):=by rw[map_map];rfl
  rw[e1] at hi;obtain⟨bi,hbi⟩:∃b,b=Tr.En (q.items.map (·.1)):=⟨_,rfl⟩;rw[<- hbi] at hi;have HI:=aa hi;have HBI:=aa hbi;have E2:=aa e2;clear hi hbi e1 e2;go_wp2_with fail;refine HI.ae.mono ?_;rintro e Kx ⟨rfl,b1⟩;cases bi
  ·have ho:=Yq L.o.c (HQ.ae.o.later b1) (by rw[E2.ae];exact je.ae.o) (by rw[length_map];exact je.ae.no);rw[E2.ae] at ho;have H:=aa ho;clear ho;have c10:=(HX.later b1).cell 6;simp only[Uaa] at c10;clear gX x4 x5;go_wp2_with fail;refine H.ae.mono ?_;rintro e w1 ⟨rfl,b9⟩;go_wp2_with fail;go_ret;exact⟨by unfold Qy.aK;rw[HT.ae,<- HBI.ae,Bool.false_or,Bool.false_or];rfl,ai.then (ai.then HB.ae b1) b9⟩
  ·go_wp2_with fail;go_ret;exact⟨by unfold Qy.aK;rw[HT.ae,<- HBI.ae,Bool.false_or,Bool.true_or];rfl,ai.then HB.ae b1⟩):p:=h
theorem Lk (q:Qy)(L:QL)(w:World)(hq:rD w q L)(bh:q.Ok):ar 54 #[tJ q L] w λ e w'=>e=.returned (.bool q.aK)/\aj w w':=by have bb:=ah w (.cells (fW q L) 27);have HX:=aC.new w 27 (fW q L);have JY:=hq.later bb;have NG:=aa hq.g.n;have NH:=aa hq.h.n;have kg:=bh.ng;have kh:=bh.nh;have HQ:=aa JY;have je:=aa bh;clear hq JY bh;unfold tJ;unfold fW at HX bb HQ;go_enter Tryz.func54,Tryz.ntmps54;have HB:=aa bb;clear bb;open zf3 in exact Zdm
end Go.Proofs.YtndgjggokjickaaGreatDoor
