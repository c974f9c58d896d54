/- Parts of the proof. -/
import Derived.Shelf.Small.Bits
import Derived.Shelf.Strconv.Itoa3
import Derived.Shelf.SlicesE.Clone
import Derived.Shelf.Spec.BitsCarry
import Derived.Deep.DeepCutAuto
import Derived.Test.YtndgjggokjickaaGreatDoorXW2
namespace Go.Proofs.YtndgjggokjickaaGreatDoor
variable{p:Prop}
set_option maxHeartbeats 90000000
set_option maxRecDepth 100000
open Go.ChangeShapes Go.WideShapes Go.ChangeAt Go.RowKit List
set_option linter.unusedVariables false
set_option linter.unusedSimpArgs false
theorem iz:Tryz.prog.cellsOf 46=7:=by exact Zgn
theorem Ff:Tryz.prog.cellsOf 113=2:=by exact Zgn
theorem yC:Tryz.prog.cellsOf 23=1:=by exact Zgn
theorem Bi:Tryz.prog.bytesOf 46=88:=by exact Zgn
theorem Ua:Tryz.prog.bytesOf 113=24:=by exact Zgn
theorem Ub:Tryz.prog.bytesOf 44=32:=by exact Zgn
def fg (y:Ex):List Value:=[ag y.op,ag y.v.k,af y.v.n,.string y.v.s,.string y.name,af y.width,.slice y.A y.n y.c]
def aS (x:aW):List Value:=[.string x.name,ag x.t]
variable{base:Nat}{cs:List Value}
theorem Yv{w:World} {K:Nat} {a:Addr} (h:w.cells? base a K=some cs):cs.length=K/\∀i,i < K->w.cell? (a.add i)=cs[i]?:=by
 unfold World.cells? at h;split at h
 ·exact⟨by simpa using mapM_some_length h,λ i hi=>mapM_some_get h i i (by simp[hi])⟩
 ·cases h
variable{H:Type}
def Light(t:TypeId)(d:DataW H):Prop:=∀n∈d.weights Tryz.prog t,n<=reachBytes
section
variable {H:Type} {enc:TypeId×Value->H} {w:World} {base:Nat} {spare:Nat->Bool} {held:Bool}
theorem Fg {e:TypeId}:∀ {l:List (DataW H)},(∀n∈DataW.weightsAll Tryz.prog e l,n<=reachBytes)->∀d∈l,Light e d
 | [],_,d,h=>by cases h
 | x::l,hw,d,h=>by
   unfold DataW.weightsAll at hw;rcases List.mem_cons.1 h with rfl | h
   ·exact λ n hn=>hw n (mem_append_left _ hn)
   ·exact Fg (λ n hn=>hw n (mem_append_right _ hn)) d h
theorem yD {T e:TypeId} {es rs:List (DataW H)}(hT:Tryz.prog.underlying T=some (.slice e))(h:Light T (.slice es rs)):(es.length+rs.length)*Tryz.prog.bytesOf e<=reachBytes/\∀d∈es,Light e d:=by unfold Light at h;unfold DataW.weights at h;rw[hT] at h;dsimp only at h;exact⟨h _ (mem_cons_self ..),Fg λ n hn=>h n (mem_cons_of_mem _ (mem_append_left _ hn))⟩
theorem oN {t:TypeId} {fs:Array Field} {ps:List (DataW H)}(ht:Tryz.prog.underlying t=some (.struct fs))(h:Light t (.agg ps)) {j:Nat} {f:Field} {d:DataW H}(hf:fs[j]?=some f)(hd:ps[j]?=some d):Light f.type d:=by unfold Light at h ⊢;unfold DataW.weights at h;rw[ht] at h;dsimp only at h;intro n hn;refine h n (DataW.weights_mem_each (j:=j) ?_ hd n hn);rw[getElem?_map,Array.getElem?_toList,hf];rfl
theorem zeW.Ka4(h:p:=by
 obtain⟨l,Hx,hp⟩:=pick len (P:=λ i a=>P a/\∀j,j < K->w.cell? ⟨b,off+i*K+j,none⟩=(f a)[j]?) λ i hi=>by obtain⟨a,ha,hca⟩:=nd i hi;refine⟨a,ha,λ j hj=>?_⟩;have:=hca j hj;simp only[dQ] at this;exact this
 subst Hx;refine⟨some ⟨b,off,none⟩,l,cap,rfl,λ a ha=>?_,hb2,.inr ⟨b,off,rfl,hbl,λ i x j u hx hu=>?_⟩⟩
 ·obtain⟨i,hi,rfl⟩:=getElem_of_mem ha;exact(hp i _ (getElem?_eq_getElem hi)).1
 ·exact Zeg):p:=h
theorem zhE.Kb6(h:p:=by
 rcases Nat.eq_zero_or_pos len with h0 | h0
 ·subst h0;exact⟨some ad,[],cap,rfl,by simp,by simp,.inl rfl⟩
 have nd:∀i,i < len->∃a:α,P a/\∀j,j < K->w.cell? ((ad.add (i*K)).add j)=(f a)[j]?:=by intro i hi;have h1:=he i hi;rw[getElem?_eq_getElem WC,hc] at h1;obtain⟨cs,h2,h3⟩:=Option.bind_eq_some_iff.1 h1;obtain⟨a,rfl,ha⟩:=hel n WC cs _ h3 (Og _ (List.mem_map.2 ⟨_,getElem_mem _,rfl⟩));exact⟨a,ha,(Yv h2).2⟩
 open zeW in exact ZcJ):p:=h
theorem tU {α:Type}(f:α->List Value)(P:α->Prop)(K:Nat) {T e:TypeId}(hT:Tryz.prog.underlying T=some (.slice e))(hc:Tryz.prog.cellsOf e=K)(hK:0 < K)(hf:∀x,(f x).length=K) {fuel:Nat} {cs:List Value} {x:DataW H×List MemPlace}
  (hel:∀m,m < fuel->∀cs x,DataW.trod enc Tryz.prog w base spare held m e cs=some x->Light e x.1->∃a,cs=f a/\P a) (h:DataW.trod enc Tryz.prog w base spare held fuel T cs=some x) (hw:Light T x.1):
  ∃(A:Option Addr) (l:List α) (c:Nat),cs=[.slice A l.length c]/\(∀a∈l,P a)/\l.length*Tryz.prog.bytesOf e<=reachBytes/\(l=[]\/∃b off,A=some ⟨b,off,none⟩/\b < w.heap.size/\∀i x j u,l[i]?=some x->(f x)[j]?=some u->w.cell? ⟨b,off+i*K+j,none⟩=some u):=by
 rcases DataW.trod_slice hT h with ⟨hcs,_⟩|⟨ad,len,cap,elems,rest,n,hn,hcs,hx,_,hl,hm,hlen,he,_,_⟩
 ·exact⟨none,[],0,hcs,by simp,by simp,.inl rfl⟩
 ·open zhE in exact ZfJ
theorem Yw {fuel:Nat} {cs:List Value} {x:DataW H×List MemPlace}(h:DataW.trod enc Tryz.prog w base spare held fuel 113 cs=some x):∃a:aW,cs=aS a/\0<=a.t/\a.t<=255:=by
 obtain⟨y0,y1,n,_,hl,t0,t1⟩:=trod_struct2 Tryz.underlying113 h;rw[Ff] at hl
 match cs,hl with
 | [c0,c1],_=>simp only[gD,vw,drop_succ_cons,drop_zero,take_succ_cons,take_zero] at t0 t1;obtain⟨s,q0,_,f0⟩:=DataW.trod_string Tryz.underlying9 t0;obtain⟨n1,q1,_,f1⟩:=DataW.trod_int Tryz.underlying5 t1;simp at q0 q1;subst q0 q1;exact⟨⟨s,n1⟩,rfl,RH f1⟩
theorem Uc {fuel:Nat} {cs:List Value} {x:DataW H×List MemPlace}(h:DataW.trod enc Tryz.prog w base spare held fuel 28 cs=some x)(hw:Light 28 x.1):
  ∃A l c,cs=[.slice A l.length c]/\RC w w.heap.size A l/\l.length<=140737488355328/\∀a∈l,0<=a.t/\a.t<=255:=by
 obtain⟨A,l,c,q,hP,hby,cf⟩:=tU aS (λ a=>0<=a.t/\a.t<=255) 2 Tryz.underlying28 Ff WC (λ _=>rfl) (λ m hm cs x h1 _=>Yw h1) h hw;rw[Ua] at hby;refine⟨A,l,c,q,?_,by unfold reachBytes at hby;omega,hP⟩;rcases cf with cf |⟨b,off,rfl,hb,cf⟩
 ·exact .inl cf
 ·exact .inr ⟨b,off,rfl,hb,λ i y hy=>⟨cf i y 0 _ hy rfl,cf i y 1 _ hy rfl⟩⟩
theorem Ud {fuel:Nat} {cs:List Value} {x:DataW H×List MemPlace}(h:DataW.trod enc Tryz.prog w base spare held fuel 38 cs=some x)(hw:Light 38 x.1):
  ∃A l c,cs=[.slice A l.length c]/\RV w w.heap.size A l/\l.length<=140737488355328/\∀a∈l,a.Ok/\0<=a.k/\a.k<=255:=by
 obtain⟨A,l,c,q,hP,hby,cf⟩:=tU aV (λ a=>a.Ok/\0<=a.k/\a.k<=255) 3 Tryz.underlying38 mI WC (λ _=>rfl) (λ m hm cs x h1 _=>Yu h1) h hw;rw[Ub] at hby;refine⟨A,l,c,q,?_,by unfold reachBytes at hby;omega,hP⟩;rcases cf with cf |⟨b,off,rfl,hb,cf⟩
 ·exact .inl cf
 ·exact .inr ⟨b,off,rfl,hb,λ i y hy=>⟨cf i y 0 _ hy rfl,cf i y 1 _ hy rfl,cf i y 2 _ hy rfl⟩⟩
end
section
variable {H:Type} {enc:TypeId×Value->H} {W:World} {base:Nat} {v:Value} {d:DataW H} {p:List MemPlace}
theorem Ue (ok:Value.okWide Tryz.prog W .any base 28 v)(k:DataW.Trod enc Tryz.prog W 0 (λ _=>true) true 28 v d p)(hw:Light 28 d):
  ∃A l c,v=.slice A l.length c/\RC W W.heap.size A l/\l.length<=140737488355328/\∀a∈l,0<=a.t/\a.t<=255:=by obtain⟨a,len,cap,rfl⟩:=okWide_slice Tryz.underlying28 ok;obtain⟨fuel,hf⟩:=k;obtain⟨A,l,c,q,h⟩:=Uc hf hw;exact ZgC
end
def Tr.op:Tr->Int | .mk op _ _ _ _=>op
def Tr.v:Tr->Val | .mk _ v _ _ _=>v
def Tr.name:Tr->ByteArray | .mk _ _ name _ _=>name
def Tr.args:Tr->List Tr | .mk _ _ _ _ args=>args
def Bj (n a b m:Int):Int:=wrap64 (wrap64 (wrap64 (wrap64 (n+1)+wrap64 (wrap64 (a / 5000)*2000))+wrap64 (wrap64 (b / 5000)*2000))+m)
mutual
def Tr.size:Tr->Int
 | .mk op v name width args=>Tr.dC 0 args
def Tr.dC:Int->List Tr->Int
 | n,[]=>n
 | n,.mk op v name width args::ts=>if n < 2000 then Tr.dC (Bj n name.size v.s.size (Tr.dC 0 args)) ts else n
end
variable{S:Nat->Prop}
theorem Tr.aO.get{w:World} :∀ {ts:List Tr} {ys:List Ex} {i:Nat} {t:Tr},Tr.aO w S ts ys->ts[i]?=some t->∃y,ys[i]?=some y/\t.at_ w S y
 | [],ys,i,t,h,ht=>by simp at ht
 | x::ts,ys,0,t,h,ht=>by unfold Tr.aO at h;obtain⟨y,ys',rfl,h2,h3⟩:=h;simp at ht;subst ht;exact⟨y,rfl,h2⟩
 | x::ts,ys,i+1,t,h,ht=>by unfold Tr.aO at h;obtain⟨y,ys',rfl,h2,h3⟩:=h;have:=Tr.aO.get h3 (i:=i) (t:=t) (by simpa using ht);simpa using this
def Oh (w:World)(y:Ex)(n:Int):Prop:=∀W,aj w W->ar 22 #[.slice y.A y.n y.c] W λ e w'=>e=.returned (af n)/\aj W w'
theorem ze5.Ka8(h:p:=by
 clear fP y2 cV cQ;go_wp2_with fail;go_roundw;case rel=>refine⟨k+1,Bj n y.name.size y.v.s.size m,hlt,by go_num,by unfold Bj;rfl,?_,ai.then hb hL⟩;rw[HF.ae,HD.ae];exact HG.ae
 case measure=>exact Za0):p:=h
theorem RJ (A:Option Addr)(c:Nat)(ts:List Tr)(ys:List Ex)(w:World)(hl:ts.length<=1599289640356)(hm:Tr.aO w (Old w) ts ys)(hA:RE w w.heap.size A ys)(hE:∀(i:Nat) (t:Tr) (y:Ex),ts[i]?=some t->ys[i]?=some y->Oh w y t.size):
  ar 22 #[.slice A ts.length c] w λ e w'=>e=.returned (af (Tr.dC 0 ts))/\aj w w':=by
 have HA:=aa hA;have HE:=aa hE;have HL:=aa hm;clear hA hE hm;go_enter Tryz.func22,Tryz.ntmps22;go_wp2_with fail;go_loopw [3,4] (λ nv i wr=>∃(k:Nat) (n:Int),k<=ts.length/\i=af k/\nv=af n/\Tr.dC 0 ts=Tr.dC n (ts.drop k)/\aj w wr) (λ _ i _=>ts.length - (intOf i).toNat);case atStart=>exact⟨0,0,Nat.zero_le _,rfl,rfl,rfl,Below.refl _ _⟩
 case round=>
  obtain⟨k,n,hk,rfl,rfl,hF,hb⟩:=hrel;have HF:=aa hF;clear hF;by_cases hlt:k < ts.length
  ·have HD:=aa (show ts.drop k=ts[k]::ts.drop (k+1)from drop_eq_getElem_cons hlt);obtain⟨y,hy,hat⟩:=HL.ae.get (getElem?_eq_getElem hlt);have hsz:=HE.ae k _ y (getElem?_eq_getElem hlt) hy;by_cases h2:n < 2000
   ·have hyk:k < ys.length:=by
     rcases Nat.lt_or_ge k ys.length with h | h
     ·exact h
     ·rw[getElem?_eq_none h] at hy;cases hy
    obtain⟨b,off,rfl,kz,cQ⟩:=(HA.ae.below hb).at_ hyk;have js:ys[k]=y:=by rw[getElem?_eq_getElem hyk] at hy;simpa using hy
    rw[js] at cQ;clear js hy hyk;generalize ts[k]=t at*;obtain⟨top,tv,Ky,Bk,targs⟩:=t;unfold Tr.at_ at hat;have h4:=hat.2.1;have h5:=hat.2.2.1;clear hat;have HG:=aa (show Tr.dC n (.mk top tv Ky Bk targs::ts.drop (k+1))=Tr.dC (Bj n y.name.size y.v.s.size (Tr.size (.mk top tv Ky Bk targs))) (ts.drop (k+1)) by
     rw[h4,h5]
     conv=>lhs;unfold Tr.dC
     rw[if_pos h2]
     rfl)
    clear h4 h5;generalize Tr.size (.mk top tv Ky Bk targs)=m at*;have t1:=decide_eq_true h2;have cV:=λ x:Ext wr.heap.size wr=>(cQ.keep (w':=x.w) λ o=>x.h.cell (p:=⟨b,o,none⟩) (Nat.lt_of_lt_of_le kz hb.size))
    unfold cw at cV;have abq:=λ x:Ext wr.heap.size wr=>hsz x.w (ai.then hb x.h)
    go_wp2_with fail;refine aM 28 wr.heap.size wr (Below.refl _ _) Va Va Va Va ?_;simp only[Uab];repeat (go_big_quiet_step (fail))
    go_big_quiet_step ((go_at_call 22;exact aH (Nat.le_refl _) (abq _)));open ze5 in exact ZcU
   ·have t1:=decide_eq_false h2;generalize ts[k]=t at*;obtain⟨top,tv,Ky,Bk,targs⟩:=t;have HG:=aa (show Tr.dC n (.mk top tv Ky Bk targs::ts.drop (k+1))=n by
     unfold Tr.dC
     rw[if_neg h2])
    clear hsz hat hy;go_wp2_with fail;go_ret;refine⟨?_,hb⟩;rw[HF.ae,HD.ae,HG.ae];rfl
  ·go_wp2_with fail;go_ret;refine⟨?_,hb⟩;rw[HF.ae,drop_eq_nil_of_le WC];unfold Tr.dC;rfl
mutual
theorem Tr.abr:∀(t:Tr) (y:Ex) (w:World),t.ok->t.at_ w (Old w) y->Oh w y t.size
 | .mk op v name width args,y,w,aZ,hat=>by intro W hb;have nN:=hat.later hb;unfold Tr.at_ at nN;obtain⟨h1,h2,h3,h4,h5,ys,h6,h7⟩:=nN;unfold Tr.ok at aZ;have k:=RJ y.A y.c args ys W aZ.2.1 h7 h6.old (Tr.Bl args ys W aZ.2.2.2.2.2 h7);rw[h5];unfold Tr.size;exact k
theorem Tr.Bl:∀(ts:List Tr) (ys:List Ex) (w:World),Tr.cL ts->Tr.aO w (Old w) ts ys->∀(i:Nat) (t:Tr) (y:Ex),ts[i]?=some t->ys[i]?=some y->Oh w y t.size
 | [],ys,w,_,_,i,t,y,ht,_=>by simp at ht
 | x::ts,ys,w,aZ,hat,i,t,y,ht,hy=>by
   unfold Tr.aO at hat;unfold Tr.cL at aZ;obtain⟨y',ys',rfl,h2,h3⟩:=hat
   match i,ht,hy with
   | 0,ht,hy=>simp at ht hy;subst ht hy;exact Tr.abr x y' w aZ.1 h2
   | i+1,ht,hy=>exact Tr.Bl ts ys' w aZ.2 h3 i t y (by simpa using ht) (by simpa using hy)
end
def qT (w:World)(e:Ending)(w':World):Prop:=∃b:Bool,e=.returned (.bool b)/\aj w w'
open Go.Shelf
def Tryz.lays134_ren:Go.Shelf.Ren:=⟨λ | 134=>214 | 129=>210 | n=>n,λ | 53=>195 | 3=>3 | 4=>4 | 46=>184 | 5=>5 | 9=>9 | n=>n,λ | n=>n⟩
theorem Tryz.lays134:Go.Proofs.Lays.n134 Tryz.prog Tryz.lays134_ren:= {
 mixed:=by kernel_rfl
 f129:=Tryz.func210.trans (congrArg some Va)
 f134:=Tryz.func214.trans (congrArg some Va)
 t3:=Tryz.underlying3
 a3:=Tryz.isAgg3
 z3:=Tryz.sizeOf3
 v3:=Tryz.zeroValue3
 t4:=Tryz.underlying4
 a4:=Tryz.isAgg4
 z4:=Tryz.sizeOf4
 v4:=Tryz.zeroValue4
 t5:=Tryz.underlying5
 a5:=Tryz.isAgg5
 z5:=Tryz.sizeOf5
 v5:=Tryz.zeroValue5
 t9:=Tryz.underlying9
 a9:=Tryz.isAgg9
 z9:=Tryz.sizeOf9
 v9:=Tryz.zeroValue9
 t46:=Tryz.underlying184
 a46:=Tryz.isAgg184
 z46:=Tryz.sizeOf184
 v46:=Tryz.zeroValue184
 t53:=Tryz.underlying195
 a53:=Tryz.isAgg195
 z53:=Tryz.sizeOf195
 v53:=Tryz.zeroValue195 }
theorem Tryz.bits_LeadingZeros64 (x:Int)(w:World)(h0:0<=x)(h1:x<=18446744073709551615):
 ar 214 #[.int .u64 x] w λ e w'=>e=.returned (af (64 - (Lib.bitLen x.toNat:Int)))/\w'=w:=Any.bits_LeadingZeros64 Tryz.lays134 x w h0 h1
def Tryz.laysM171_ren:Go.Shelf.Ren:=⟨λ | 171=>98 | 243=>149 | 246=>185 | 283=>201 | 284=>202 | 285=>203 | 286=>204 | 129=>210 | 317=>209 | 318=>211 | 319=>212 | 320=>213 | 337=>215 | 338=>216 | n=>n,λ | 3=>3 | 9=>9 | 2=>2 | 4=>4 | 171=>251 | 0=>0 | 53=>195 | 37=>97 | 5=>5 | 173=>254 | 212=>261 | 51=>262 | 20=>20 | 213=>263 | 46=>184 | 232=>268 | 233=>269 | n=>n,λ | 17=>0 | 18=>3 | 19=>4 | n=>n⟩
theorem Tryz.laysM171:Go.Proofs.LaysM.n171 Tryz.prog Tryz.laysM171_ren:= {
 mixed:=by kernel_rfl
 f129:=Tryz.func210.trans (congrArg some Va)
 f171:=Tryz.func98.trans (congrArg some Va)
 f243:=Tryz.func149.trans (congrArg some Va)
 f246:=Tryz.func185.trans (congrArg some Va)
 f283:=Tryz.func201.trans (congrArg some Va)
 f284:=Tryz.func202.trans (congrArg some Va)
 f285:=Tryz.func203.trans (congrArg some Va)
 f286:=Tryz.func204.trans (congrArg some Va)
 f317:=Tryz.func209.trans (congrArg some Va)
 f318:=Tryz.func211.trans (congrArg some Va)
 f319:=Tryz.func212.trans (congrArg some Va)
 f320:=Tryz.func213.trans (congrArg some Va)
 f337:=Tryz.func215.trans (congrArg some Va)
 f338:=Tryz.func216.trans (congrArg some Va)
 t0:=Tryz.underlying0
 a0:=Tryz.isAgg0
 z0:=Tryz.sizeOf0
 v0:=Tryz.zeroValue0
 t2:=Tryz.underlying2
 a2:=Tryz.isAgg2
 z2:=Tryz.sizeOf2
 v2:=Tryz.zeroValue2
 t3:=Tryz.underlying3
 a3:=Tryz.isAgg3
 z3:=Tryz.sizeOf3
 v3:=Tryz.zeroValue3
 t4:=Tryz.underlying4
 a4:=Tryz.isAgg4
 z4:=Tryz.sizeOf4
 v4:=Tryz.zeroValue4
 t5:=Tryz.underlying5
 a5:=Tryz.isAgg5
 z5:=Tryz.sizeOf5
 v5:=Tryz.zeroValue5
 t9:=Tryz.underlying9
 a9:=Tryz.isAgg9
 z9:=Tryz.sizeOf9
 v9:=Tryz.zeroValue9
 t20:=Tryz.underlying20
 a20:=Tryz.isAgg20
 z20:=Tryz.sizeOf20
 v20:=Tryz.zeroValue20
 t37:=Tryz.underlying97
 a37:=Tryz.isAgg97
 z37:=Tryz.sizeOf97
 v37:=Tryz.zeroValue97
 t46:=Tryz.underlying184
 a46:=Tryz.isAgg184
 z46:=Tryz.sizeOf184
 v46:=Tryz.zeroValue184
 t51:=Tryz.underlying262
 a51:=Tryz.isAgg262
 z51:=Tryz.sizeOf262
 v51:=Tryz.zeroValue262
 t53:=Tryz.underlying195
 a53:=Tryz.isAgg195
 z53:=Tryz.sizeOf195
 v53:=Tryz.zeroValue195
 t171:=Tryz.underlying251
 a171:=Tryz.isAgg251
 z171:=Tryz.sizeOf251
 v171:=Tryz.zeroValue251
 t173:=Tryz.underlying254
 a173:=Tryz.isAgg254
 z173:=Tryz.sizeOf254
 v173:=Tryz.zeroValue254
 t212:=Tryz.underlying261
 a212:=Tryz.isAgg261
 z212:=Tryz.sizeOf261
 v212:=Tryz.zeroValue261
 t213:=Tryz.underlying263
 a213:=Tryz.isAgg263
 z213:=Tryz.sizeOf263
 t232:=Tryz.underlying268
 a232:=Tryz.isAgg268
 z232:=Tryz.sizeOf268
 v232:=Tryz.zeroValue268
 t233:=Tryz.underlying269
 a233:=Tryz.isAgg269
 z233:=Tryz.sizeOf269
 v233:=Tryz.zeroValue269
 g17:=by kernel_rfl
 g18:=by kernel_rfl
 g19:=by kernel_rfl
 i0:=by kernel_rfl
 i2:=by kernel_rfl
 i3:=by kernel_rfl
 i4:=by kernel_rfl
 i5:=by kernel_rfl
 i9:=by kernel_rfl
 i20:=by kernel_rfl
 i37:=by kernel_rfl
 i46:=by kernel_rfl
 i51:=by kernel_rfl
 i53:=by kernel_rfl
 i171:=by kernel_rfl
 i173:=by kernel_rfl
 i212:=by kernel_rfl
 i232:=by kernel_rfl
 i233:=by kernel_rfl
 m17:=by kernel_rfl
 m18:=by kernel_rfl
 m19:=by kernel_rfl }
open Go.RowKit Go.Sort Go.Lib in
theorem Tryz.strconv_Itoa (n:Int)(h0: -9223372036854775808<=n)(h1:n<=9223372036854775807)(w:World)(ass:Lib.TabIs Tryz.prog w "internal/strconv.uint64pow10" .u64 Lib.pow10Tab):
 ar 98 #[af n] w λ e w'=>e=.returned (.string ⟨(Lib.itoa n).toArray⟩)/\∃k os,w'=grow (w.drewN k) os:=Any.strconv_Itoa Tryz.laysM171 n h0 h1 w ass
def vy (y z:Ex):Bool:=y.op==z.op &&((y.v.k==z.v.k &&(y.v.n==z.v.n && y.v.s.toList==z.v.s.toList))&&(y.name.toList==z.name.toList && y.width==z.width))
mutual
def Tr.same:Tr->Tr->Bool
 | .mk o1 v1 n1 w1 a1,.mk o2 v2 n2 w2 a2=>(o1==o2 &&((v1.k==v2.k &&(v1.n==v2.n && v1.s.toList==v2.s.toList))&&(n1.toList==n2.toList && w1==w2)))&&(a1.length==a2.length && Tr.Fh a1 a2)
def Tr.Fh:List Tr->List Tr->Bool
 | t::ts,u::us=>t.same u && Tr.Fh ts us
 | _,_=>true
end
def mJ (w:World)(y z:Ex)(b:Bool):Prop:=∀W,aj w W->ar 152 #[.agg (ay y),.agg (ay z)] W λ e w'=>e=.returned (.bool b)/\aj W w'
def abt (w:World)(y z:Ex)(b:Bool):Prop:=∀W,aj w W->ar 186 #[.slice y.A y.n y.c,.slice z.A z.n z.c,.func (.func 152) #[] #[]] W λ e w'=>e=.returned (.bool b)/\aj W w'
theorem zbi.Kaf(h:p:=by
 have x0:=hR.cell 0;have x1:=hR.cell 1;have z2:=hR.cell 2;have z3:=hR.cell 3;have z4:=hR.cell 4;have z5:=hR.cell 5;have z6:=hR.cell 6;simp only[Uaa] at x0 x1 z2 z3 z4 z5 z6;cases e1:(y.op==z.op)
 ·go_wp2_with fail;go_ret;exact⟨by simp[vy,e1],hb⟩
 ·cases e2:(y.v.k==z.v.k)
  ·go_wp2_with fail;go_ret;exact⟨by simp[vy,e1,e2],hb⟩
  ·cases e3:(y.v.n==z.v.n)
   ·go_wp2_with fail;go_ret;exact⟨by simp[vy,e1,e2,e3],hb⟩
   ·cases e4:(y.v.s.toList==z.v.s.toList)
    ·go_wp2_with fail;go_ret;exact⟨by simp[vy,e1,e2,e3,e4],hb⟩
    ·cases e5:(y.name.toList==z.name.toList)
     ·go_wp2_with fail;go_ret;exact⟨by simp[vy,e1,e2,e3,e4,e5],hb⟩
     ·cases e6:(y.width==z.width)
      ·exact Zg2
      ·go_wp2_with fail;refine(oH.ae _ hb).mono ?_;rintro e w1 ⟨rfl,hB⟩;replace hb:=ai.then hb hB;clear hB z0 z1 x2 x3 x4 x5 x6 x0 x1 z2 z3 z4 z5 z6;exact Zg2):p:=h
theorem Oi (y z:Ex)(bl:Bool)(w:World)(hL:abt w y z bl):ar 152 #[.agg (ay y),.agg (ay z)] w λ e w'=>e=.returned (.bool (vy y z && bl))/\aj w w':=by have oH:=aa hL;clear hL;go_enter Tryz.func152,Tryz.ntmps152;have k1:=(aB.new w 46 (ay y)).alloc (.cells (ay z) 46);have hR:=aB.new (w.alloc (.cells (ay y) 46)) 46 (ay z);rw[World.size_alloc] at hR;have hb:=ai.then (ah w (.cells (ay y) 46)) (ah _ (.cells (ay z) 46));open zbi in exact Zav
theorem Fi (A A':Option Addr)(c c':Nat)(ys zs:List Ex)(bs:List Bool)(w:World)(hl:ys.length<=1599289640356)(hl':zs.length<=1599289640356)(JM:bs.length=ys.length)(hA:RE w w.heap.size A ys)(hA':RE w w.heap.size A' zs)(hE:ys.length=zs.length->∀(i:Nat) y z b2,ys[i]?=some y->zs[i]?=some z->bs[i]?=some b2->mJ w y z b2):
  ar 186 #[.slice A ys.length c,.slice A' zs.length c',.func (.func 152) #[] #[]] w λ e w'=>e=.returned (.bool (ys.length==zs.length && bs.all id))/\aj w w':=by
 have JT:=aa hA;have HI:=aa hA';have HE:=aa hE;have HBS:=aa JM;clear hA hA' hE JM;by_cases hne:ys.length=zs.length
 ·have t0:(ys.length != zs.length)=false:=by simpa using hne
  have t0':((ys.length:Int) !=(zs.length:Int))=false:=by simp[hne]
  have nE:=aa hne;have hle:ys.length<=zs.length:=by omega
  rw[show(ys.length==zs.length)=true by simpa using hne];clear hne;rw[Bool.true_and];go_enter Tryz.func186,Tryz.ntmps186;go_wp2_with fail;clear t0 t0';go_loopw [17] (λ i wr=>∃k:Nat,k<=ys.length/\i=af k/\bs.all id=(bs.drop k).all id/\aj w wr) (λ i _=>ys.length - (intOf i).toNat);case atStart=>exact Zf5
  case round=>
   obtain⟨k,hk,rfl,hp,hb⟩:=hrel;have HK:=aa hp;clear hp;by_cases hlt:k < ys.length
   ·have sX:k < zs.length:=by omega
    have Uf:k < bs.length:=by have:=HBS.ae;omega
    obtain⟨b2,aBO,rfl,hb1,hx⟩:=(JT.ae.below hb).at_ hlt;obtain⟨KK,azM,rfl,hb2,RM⟩:=(HI.ae.below hb).at_ sX;have gu:=HE.ae nE.ae k _ _ _ (getElem?_eq_getElem hlt) (getElem?_eq_getElem sX) (getElem?_eq_getElem Uf);have HD:=aa (show bs.drop k=bs[k]::bs.drop (k+1)from drop_eq_getElem_cons Uf);generalize ys[k]=y at*;generalize zs[k]=z at*;generalize bs[k]=sb at*;have O6:b2 < wr.heap.size:=Nat.lt_of_lt_of_le hb1 hb.size;have O7:KK < wr.heap.size:=Nat.lt_of_lt_of_le hb2 hb.size;have bb:=ai.then (ah wr (.cells (ay y) 46)) (ah _ (.cells (ay z) 46));have alv:=RM.keep (w':=wr.alloc (.cells (ay y) 46)) λ o=>(ah wr (.cells (ay y) 46)).cell (p:=⟨KK,o,none⟩) O7
    unfold cw at hx alv;go_wp2_with fail;refine(gu _ (ai.then hb bb)).mono ?_;rintro e w1 ⟨rfl,b1⟩;have Kx:=ai.then hb (ai.then bb b1);clear hx RM alv gu bb b1 hb;cases sb
    ·go_wp2_with fail;go_ret;refine⟨?_,Kx⟩;rw[HK.ae,HD.ae];rfl
    ·go_wp2_with fail;go_roundw;case rel=>refine⟨k+1,hlt,by go_num,?_,Kx⟩;rw[HK.ae,HD.ae];rfl
     case measure=>exact Za0
   ·go_wp2_with fail;go_ret;refine⟨?_,hb⟩;rw[HK.ae,drop_eq_nil_of_le (by have:=HBS.ae;omega)];rfl
 ·have t0:(ys.length != zs.length)=true:=by simpa using hne
  have t0':((ys.length:Int) !=(zs.length:Int))=true:=by simp;omega
  rw[show(ys.length==zs.length)=false by simpa using hne];clear hne;go_enter Tryz.func186,Tryz.ntmps186;go_wp2_with fail;go_ret;exact⟨rfl,Below.refl _ _⟩
mutual
theorem Tr.Kz:∀(t u:Tr) (y z:Ex) (w:World),t.ok->u.ok->t.at_ w (Old w) y->u.at_ w (Old w) z->mJ w y z (t.same u)
 | .mk o1 v1 n1 w1 a1,.mk o2 v2 n2 w2 a2,y,z,w,aZ,sV,hat,hat'=>by
   intro W hb;have h1:=hat.later hb;have h2:=hat'.later hb;unfold Tr.at_ at h1 h2;unfold Tr.ok at aZ sV;obtain⟨p1,p2,p3,p4,p5,ys,p6,p7⟩:=h1;obtain⟨q1,q2,q3,q4,q5,zs,q6,q7⟩:=h2;have hlY:=p7.length;have hlZ:=q7.length;have k:=Oi y z (a1.length==a2.length && Tr.Fh a1 a2) W (by
    intro W' Z6
    have hp7:=p7.later Z6
    have hq7:=q7.later Z6
    by_cases Hx:a1.length=a2.length
    ·obtain⟨bs,b1,b2,b3⟩:=Tr.Fj a1 a2 ys zs W' aZ.2.2.2.2.2 sV.2.2.2.2.2 hp7 hq7 Hx
     have kk:=Fi y.A z.A y.c z.c ys zs bs W' (by rw[hlY];exact aZ.2.1) (by rw[hlZ];exact sV.2.1) (by rw[b1,hlY]) ((p6.old.below Z6).more Z6.size) ((q6.old.below Z6).more Z6.size) (λ _=>b3)
     rw[hlY,hlZ,b2] at kk
     rw[p5,q5]
     exact kk
    ·have kk:=Fi y.A z.A y.c z.c ys zs (List.replicate ys.length true) W' (by rw[hlY];exact aZ.2.1) (by rw[hlZ];exact sV.2.1) Tac ((p6.old.below Z6).more Z6.size) ((q6.old.below Z6).more Z6.size) (λ h=>absurd (by rw[<- hlY,<- hlZ];exact h) Hx)
     have e0:(a1.length==a2.length)=false:=by simpa using Hx
     rw[hlY,hlZ,e0] at kk
     rw[p5,q5,e0]
     exact kk)
   unfold vy at k;rw[p1,p2,p3,p4,q1,q2,q3,q4] at k;unfold Tr.same;rw[<- p1,<- p2,<- p3,<- p4,<- q1,<- q2,<- q3,<- q4] at k ⊢;exact k
theorem Tr.Fj:∀(ts us:List Tr) (ys zs:List Ex) (w:World),Tr.cL ts->Tr.cL us->Tr.aO w (Old w) ts ys->Tr.aO w (Old w) us zs->ts.length=us.length->∃bs:List Bool,bs.length=ts.length/\bs.all id=Tr.Fh ts us/\∀(i:Nat) y z b,ys[i]?=some y->zs[i]?=some z->bs[i]?=some b->mJ w y z b
 | [],[],ys,zs,w,_,_,_,_,_=>⟨[],rfl,by simp[Tr.Fh],λ i y z b _ _ h=>by simp at h⟩
 | [],_::_,ys,zs,w,_,_,_,_,h=>by simp at h
 | _::_,[],ys,zs,w,_,_,_,_,h=>by simp at h
 | t::ts,u::us,ys,zs,w,aZ,sV,hat,hat',hl=>by
   unfold Tr.aO at hat hat';unfold Tr.cL at aZ sV;obtain⟨y,ys',rfl,h2,h3⟩:=hat;obtain⟨z,zs',rfl,Ed,h3'⟩:=hat';obtain⟨bs,b1,b2,b3⟩:=Tr.Fj ts us ys' zs' w aZ.2 sV.2 h3 h3' (by simpa using hl);refine⟨t.same u::bs,by simp[b1],by simp[Tr.Fh,b2],?_⟩;intro i y' z' b hy hz hb
   match i,hy,hz,hb with
   | 0,hy,hz,hb=>simp at hy hz hb;subst hy hz hb;exact Tr.Kz t u y z w aZ.1 sV.1 h2 Ed
   | i+1,hy,hz,hb=>exact b3 i y' z' b (by simpa using hy) Ta3 (by simpa using hb)
end
def M:Int:=18446744073709551616
def lo (a:Int):Int:=a % M
def hi (a:Int):Int:=a / M
theorem sj (a:Int):0<=lo a:=by unfold lo M;omega
theorem RO (a:Int):lo a < M:=by unfold lo M;omega
theorem sk{a:Int}(h:0<=a):0<=hi a:=by unfold hi M;omega
def wv (a:Int):Value:=.agg #[.int .u64 (hi a),.int .u64 (lo a)]
def fT (n:Int):Int:=n %(M*M)
theorem Yx (n:Int)(h1: -9223372036854775808<=n)(h2:n<=9223372036854775807):hi (fT n)=if n < 0 then M - 1 else 0:=by unfold hi fT M;split <;> omega
theorem Yy (n:Int):lo (fT n)=n % M:=by unfold lo fT M;omega
theorem Ug (n:Int)(h1: -9223372036854775808<=n)(h2:n<=9223372036854775807):Value.agg #[.int .u64 (IntKind.u64.wrap (n / 9223372036854775808)),.int .u64 (IntKind.u64.wrap n)]=wv (fT n):=by
 unfold wv;rw[Yx n h1 h2,Yy,IntKind.wrap_u64,IntKind.wrap_u64];have e1:n / 9223372036854775808 % 18446744073709551616=if n < 0 then M - 1 else 0:=by unfold M;split <;> omega
 rw[e1];rfl
theorem Fk (n:Int)(h1: -9223372036854775808<=n)(h2:n<=9223372036854775807)(w:World):ar 191 #[af n] w λ e w'=>e=.returned (wv (fT n))/\aj w w':=by rw[<- Ug n h1 h2];go_enter Tryz.func191,Tryz.ntmps191;go_wp2;exact bodyPost_ret (v:=.agg #[.int .u64 (IntKind.u64.wrap (n / 9223372036854775808)),.int .u64 (IntKind.u64.wrap n)]) (by simp[results,Tryz.results191,go_sem]) rfl ⟨rfl,(Below.refl _ _).alloc (Nat.le_refl _) _⟩
def lT (a b:Int):Int:=(a+b)%(M*M)
theorem Yz:(Tryz.prog.info? 195).map (λ i=>(i.zero,i.size,i.bytes))=some (some (.int .u64 0),1,8):=by exact Zgn
theorem abv (a b c d:Int)(w:World):(Op.equalIn 10000 197 (.agg #[.int .u64 a,.int .u64 b]) (.agg #[.int .u64 c,.int .u64 d])).run Tryz.prog w=.ok (a==c && b==d) w:=by
 obtain⟨i0,kR,hz0,hz1,hz2⟩:=info_parts Yz;rw[show(10000:Nat)=9998+1+1 from rfl];unfold Op.equalIn;simp[run_underlying Tryz.underlying197,sizeOf,typeInfo,kR,hz1,Std.Legacy.Range.forIn_eq_forIn_range',List.range',part,isAgg,run_underlying Tryz.underlying195,run_equalIn_int w 9998 195 .u64 .u64 _ _ Tryz.underlying195];by_cases h1:a=c
 ·by_cases h2:b=d <;> simp[h1,h2]
 ·simp[h1]
def Fl (x:Int):Int:=IntKind.i64.wrap x
def lU (a:Int):Bool:=(hi a==hi (fT (Fl (lo a))))&&(lo a==lo (fT (Fl (lo a))))
theorem Oj (a:Int)(w:World):ar 192 #[.agg #[.int .u64 (hi a),.int .u64 (lo a)]] w λ e w'=>e=.returned (.tuple #[af (Fl (lo a)),.bool (lU a)])/\aj w w':=by
 have hb: -9223372036854775808<=Fl (lo a)/\Fl (lo a)<=9223372036854775807:=by unfold Fl;rw[IntKind.wrap_i64];omega
 have hw:=λ w=>Fk (Fl (lo a)) hb.1 hb.2 w
 unfold wv at hw;have HW:=aa hw;have HD:=aa (show lU a=((hi a==hi (fT (Fl (lo a))))&&(lo a==lo (fT (Fl (lo a)))))from rfl);clear hw hb;have hs:IntKind.i64.wrap (lo a)=Fl (lo a):=rfl;have he:=abv;generalize Fl (lo a)=n at*;generalize hi (fT n)=h2 at*;generalize lo (fT n)=l2 at*;generalize lo a=l1 at*;generalize hi a=h1 at*;generalize lU a=r at*;go_enter Tryz.func192,Tryz.ntmps192;go_wp2_with fail;have cS:∀(y2:Ext (w.heap.size+1) (w.alloc (.cells #[.int .u64 h1,.int .u64 l1] 197))),y2.w.cell? ⟨w.heap.size,0,none⟩=some (.int .u64 h1):=λ y2=>by rw[y2.cell Tac];simp
 have cA:∀(y2:Ext (w.heap.size+1) (w.alloc (.cells #[.int .u64 h1,.int .u64 l1] 197))),y2.w.cell? ⟨w.heap.size,1,none⟩=some (.int .u64 l1):=λ y2=>by rw[y2.cell Tac];simp
 refine aM 7 (w.heap.size+1) _ (Below.refl _ _) Va Va Va Va ?_;simp only[Uab];repeat (go_big_quiet_step (first
  |(go_at_call 191;exact aH Tac (HW.ae _))))
 refine wpQuiet_nil ?_;rintro w3 ⟨y2,fP⟩;have hL:=y2.h;rw[<- fP] at hL;clear cS cA fP y2;go_wp2_with fail;go_ret2;rw[HD.ae];exact ZcX
theorem YA (hi lo y Y Y1 H Lq U LL u1 u0 q1 r1 V q0 r0:Int)(k:Nat)(hy0:0 < y)(hy1:y<=65535)(hh0:0 < hi)(hh1:hi < y)(hk:k<=63)(hk0:1<=k)
  (hlz:(64 - (Lib.bitLen y.toNat:Int))=(k:Int)) (hY1:1<=Y1) (hU0:0<=U) (hV0:0<=V)
  (e1:IntKind.u64.wrap (y*2 ^ k)=Y) (e2:Y / 4294967296=Y1) (e3:bits .and .u64 Y 4294967295=0)
  (e4:IntKind.u64.wrap (hi*2 ^ k)=H) (e5:lo / 2 ^(64 - k)=Lq) (e6:bits .or .u64 H Lq=U) (e7:IntKind.u64.wrap (lo*2 ^ k)=LL) (e8:LL / 4294967296=u1) (e9:bits .and .u64 LL 4294967295=u0)
  (f1:IntKind.u64.wrap (U.tdiv Y1)=q1) (f2:IntKind.u64.wrap (U - IntKind.u64.wrap (q1*Y1))=r1) (JN:q1 < 4294967296) (asv:0<=q1)
  (g1:IntKind.u64.wrap (IntKind.u64.wrap (IntKind.u64.wrap (U*4294967296)+u1) - IntKind.u64.wrap (q1*Y))=V)
  (g2:IntKind.u64.wrap (V.tdiv Y1)=q0) (g3:IntKind.u64.wrap (V - IntKind.u64.wrap (q0*Y1))=r0) (hq0:q0 < 4294967296) (asw:0<=q0) (q r:Int) (d1:IntKind.u64.wrap (IntKind.u64.wrap (q1*4294967296)+q0)=q) (d2:IntKind.u64.wrap (IntKind.u64.wrap (IntKind.u64.wrap (V*4294967296)+u0) - IntKind.u64.wrap (q0*Y))/ 2 ^ k=r) (w:World):
  ar 206 #[.int .u64 hi,.int .u64 lo,.int .u64 y] w λ e w'=>e=.returned (.tuple #[.int .u64 q,.int .u64 r])/\w=w':=by
 have b1:(y==0)=false:=by rw[beq_eq_false_iff_ne];omega
 have b2:decide (y<=hi)=false:=by simp;omega
 have b3:(hi==0)=false:=by rw[beq_eq_false_iff_ne];omega
 have b4:decide ((4294967296:Int)<=q1)=false:=by simp;omega
 have b5:decide ((4294967296:Int)<=q0)=false:=by simp;omega
 have b6:∀z:Int,decide (IntKind.u64.wrap z < 0)=false:=by intro z;rw[IntKind.wrap_u64];simp;omega
 have HL:=aa hlz;have E:=aa e1;clear hlz hh0 hh1 JN hq0 asv asw;go_enter Tryz.func206,Tryz.ntmps206;go_wp2_with (go_at_call 214;refine(Tryz.bits_LeadingZeros64 y _ WC WC).mono ?_;rintro e w' ⟨rfl,rfl⟩;rw[HL.ae]);refine wp_loop_rounds 1 ?_;rw[rounds_succ];go_wp2_with fail;refine wp_loop_rounds 1 ?_;rw[rounds_succ];go_wp2_with fail;go_ret2;exact Zfo
theorem agJ:∀y:Fin 512,y.val=0\/(1<=Lib.bitLen y.val/\Lib.bitLen y.val<=9/\2 ^(Lib.bitLen y.val - 1)<=y.val/\y.val < 2 ^ Lib.bitLen y.val):=by decide+kernel
theorem YB (x:Int)(h0:0<=x)(h1:x < M):bits .and .u64 x 4294967295=x % 4294967296:=by have:=bits_mask .u64 64 Taa (λ n h0 h1=>by rw[IntKind.wrap_u64];omega) 32 Taa x h0 (by unfold M at h1;omega);exact this
theorem abx (k:Nat)(hk:k<=64)(x y:Int)(hx0:0<=x)(hx:x % 2 ^ k=0)(hx1:x < M)(hy0:0<=y)(hy:y < 2 ^ k)(hy1:y < M):bits .or .u64 x y=x+y:=
 bits_join .u64 64 Taa (λ n h0 h1=>by rw[IntKind.wrap_u64];omega) k x y hx0 hx (by unfold M at hx1;omega) hy0 hy (by unfold M at hy1;omega)
theorem asx (U Y Y1 u1 q1:Int)(hY:Y=Y1*4294967296)(h1:1<=Y1)(h2:Y1 < 4294967296)(hU0:0<=U)(hU1:U < Y)(Xl:0<=u1)(hu1:u1 < 4294967296)(hq:q1=U / Y1):
  IntKind.u64.wrap (IntKind.u64.wrap (IntKind.u64.wrap (U*4294967296)+u1) - IntKind.u64.wrap (q1*Y))=U % Y1*4294967296+u1:=by
 have Np:=Int.emod_nonneg U (show Y1≠0 by omega);have Hy:=Int.emod_lt_of_pos U (show 0 < Y1 by omega);have hd:=Int.mul_ediv_add_emod U Y1;have hp:q1*Y=(q1*Y1)*4294967296:=by rw[hY,Int.mul_assoc]
 have DO:q1*Y1=U - U % Y1:=by rw[hq,Int.mul_comm];omega
 rw[hp,DO];simp only[IntKind.wrap_u64];omega
theorem aly (hi lo y:Int)(L k:Nat)(hL:L=Lib.bitLen y.toNat)(hk:k=64 - L)(hh0:0 < hi)(hh1:hi < y)(hl0:0<=lo)(ft:lo < M)(a1:1<=L)(a2:L<=9)(P Q:Int)(hP:(2:Int)^ k=P)(hQ:(2:Int)^(64 - k)=Q)(hPQ:P*Q=M)
  (asz:∃P':Int,P=P'*4294967296/\0 < P') (y1:M<=2*(y*P)) (y2:y*P < M) (hy:y<=65535):
  ∃q r:Int,∀w,ar 206 #[.int .u64 hi,.int .u64 lo,.int .u64 y] w λ e w'=>e=.returned (.tuple #[.int .u64 q,.int .u64 r])/\w=w':=by
 obtain⟨P',hP',asA⟩:=asz;have hP0:0 < P:=by omega
 have hQ0:0 < Q:=by rw[<- hQ];exact Int.pow_pos Taa
 have hY:IntKind.u64.wrap (y*P)=y*P:=by rw[IntKind.wrap_u64];have:0<=y*P:=Int.mul_nonneg WC WC;unfold M at y2;omega
 have hYe:y*P=(y*P')*4294967296:=by rw[hP',Int.mul_assoc]
 have hY1:y*P / 4294967296=y*P':=by rw[hYe];omega
 have alA:1<=y*P':=Int.mul_pos WC asA;have asB:y*P' < 4294967296:=by rw[hYe] at y2;unfold M at y2;omega
 have azS:(hi+1)*P<=y*P:=Int.mul_le_mul_of_nonneg_right WC WC;have hHx:(hi+1)*P=hi*P+P:=by rw[Int.add_mul,Int.one_mul]
 have hH0:0<=hi*P:=Int.mul_nonneg WC WC;have hH:IntKind.u64.wrap (hi*P)=hi*P:=by rw[IntKind.wrap_u64];unfold M at y2;omega
 have asC:0<=lo / Q:=Int.ediv_nonneg hl0 WC;have asD:lo / Q < P:=by apply Int.ediv_lt_of_lt_mul hQ0;rw[hPQ];exact ft
 have hU:bits .or .u64 (hi*P) (lo / Q)=hi*P+lo / Q:=by refine abx k WC _ _ hH0 (by rw[hP];exact Int.mul_emod_left _ _) WC asC (by rw[hP];exact asD) (by unfold M at*;omega)
 have asE:hi*P+lo / Q < y*P:=by omega
 have asF:0<=IntKind.u64.wrap (lo*P)/\IntKind.u64.wrap (lo*P)< M:=by rw[IntKind.wrap_u64];unfold M;omega
 have hu1:0<=IntKind.u64.wrap (lo*P)/ 4294967296/\IntKind.u64.wrap (lo*P)/ 4294967296 < 4294967296:=by unfold M at asF;omega
 have alB:(hi*P+lo / Q).tdiv (y*P')=(hi*P+lo / Q)/(y*P'):=Int.tdiv_eq_ediv_of_nonneg WC;have hUq:(hi*P+lo / Q)/(y*P')< 4294967296:=by apply Int.ediv_lt_of_lt_mul WC;omega
 have asG:0<=(hi*P+lo / Q)/(y*P'):=Int.ediv_nonneg WC WC;have JN:IntKind.u64.wrap ((hi*P+lo / Q).tdiv (y*P'))=(hi*P+lo / Q)/(y*P'):=by rw[alB,IntKind.wrap_u64];omega
 have hV:=asx (hi*P+lo / Q) (y*P) (y*P') (IntKind.u64.wrap (lo*P)/ 4294967296) _ hYe alA asB WC asE hu1.1 hu1.2 JN;have Np:=Int.emod_nonneg (hi*P+lo / Q) (show y*P'≠0 by omega);have Hy:=Int.emod_lt_of_pos (hi*P+lo / Q) (show 0 < y*P' by omega);generalize hVV:(hi*P+lo / Q)%(y*P')*4294967296+IntKind.u64.wrap (lo*P)/ 4294967296=V at hV;have hV0:0<=V:=by omega
 have azV:V < y*P:=by rw[hYe];omega
 have alC:V.tdiv (y*P')=V /(y*P'):=Int.tdiv_eq_ediv_of_nonneg hV0;have hVq:V /(y*P')< 4294967296:=by apply Int.ediv_lt_of_lt_mul WC;omega
 have asH:0<=V /(y*P'):=Int.ediv_nonneg hV0 WC;have hq0:IntKind.u64.wrap (V.tdiv (y*P'))=V /(y*P'):=by rw[alC,IntKind.wrap_u64];omega
 refine⟨_,_,λ w=>YA hi lo y (y*P) (y*P') (hi*P) (lo / Q) (hi*P+lo / Q) (IntKind.u64.wrap (lo*P)) _ _ _ _ V _ _ k WC hy hh0 hh1 WC WC WC alA WC hV0
  (by rw[hP];exact hY) hY1 (by rw[YB _ WC y2,hYe];omega) (by rw[hP];exact hH) (by rw[hQ]) hU (by rw[hP]) rfl rfl rfl rfl (by rw[JN];exact hUq) (by rw[JN];exact asG) hV rfl rfl (by rw[hq0];exact hVq) (by rw[hq0];exact asH) _ _ rfl rfl w⟩
theorem aby (hi lo y:Int)(hh0:0 < hi)(hh1:hi < y)(hy:y < 512)(hl0:0<=lo)(ft:lo < M):
  ∃q r:Int,∀w,ar 206 #[.int .u64 hi,.int .u64 lo,.int .u64 y] w λ e w'=>e=.returned (.tuple #[.int .u64 q,.int .u64 r])/\w=w':=by
 obtain⟨n,rfl⟩:=Int.eq_ofNat_of_zero_le (show 0<=y by omega);have hb:=agJ ⟨n,by omega⟩;simp only at hb;rcases hb with h |⟨a1,a2,a3,a4⟩
 ·omega
 ·have key:=λ P Q h1 h2 h3 h4 h5 h6=>aly hi lo (n:Int) (Lib.bitLen n) (64 - Lib.bitLen n) Tac rfl hh0 hh1 hl0 ft a1 a2 P Q h1 h2 h3 h4 h5 h6 WC
  generalize Lib.bitLen n=L at*;have hc:L=1\/L=2\/L=3\/L=4\/L=5\/L=6\/L=7\/L=8\/L=9:=by omega
  rcases hc with rfl | rfl | rfl | rfl | rfl | rfl | rfl | rfl | rfl
  ·exact key _ _ rfl rfl rfl ⟨2 ^ 31,by decide,by decide⟩ Tae Tae
  ·exact key _ _ rfl rfl rfl ⟨2 ^ 30,by decide,by decide⟩ Tae Tae
  ·exact key _ _ rfl rfl rfl ⟨2 ^ 29,by decide,by decide⟩ Tae Tae
  ·exact key _ _ rfl rfl rfl ⟨2 ^ 28,by decide,by decide⟩ Tae Tae
  ·exact key _ _ rfl rfl rfl ⟨2 ^ 27,by decide,by decide⟩ Tae Tae
  ·exact key _ _ rfl rfl rfl ⟨2 ^ 26,by decide,by decide⟩ Tae Tae
  ·exact key _ _ rfl rfl rfl ⟨2 ^ 25,by decide,by decide⟩ Tae Tae
  ·exact key _ _ rfl rfl rfl ⟨2 ^ 24,by decide,by decide⟩ Tae Tae
  ·exact key _ _ rfl rfl rfl ⟨2 ^ 23,by decide,by decide⟩ Tae Tae
theorem YC (lo y:Int)(hy:0 < y)(hl0:0<=lo)(ft:lo<=18446744073709551615)(w:World):
  ar 206 #[.int .u64 0,.int .u64 lo,.int .u64 y] w λ e w'=>e=.returned (.tuple #[.int .u64 (lo / y),.int .u64 (lo % y)])/\aj w w':=by
 have b1:(y==0)=false:=by rw[beq_eq_false_iff_ne];omega
 have b2:decide (y<=0)=false:=by simp;omega
 have b3:0<=lo / y/\lo / y<=18446744073709551615:=⟨Int.ediv_nonneg hl0 WC,Int.le_trans (Int.ediv_le_self y hl0) ft⟩;have b4:IntKind.u64.wrap (lo.tdiv y)=lo / y:=by rw[Int.tdiv_eq_ediv_of_nonneg hl0,IntKind.wrap_u64];omega
 have b5:lo.tmod y=lo % y:=Int.tmod_eq_emod_of_nonneg hl0;clear ft b3;go_enter Tryz.func206,Tryz.ntmps206;go_wp2_with fail;go_quiet (fail);go_wp2_with fail;go_ret2;exact⟨rfl,below_drewN (Below.refl _ _) _⟩
theorem abz (x y b:Nat)(hb:b<=1)(w:World):(callFunc 207 #[.int .u64 x,.int .u64 y,.int .u64 b]).run Tryz.prog w=
  .ok (.value (.tuple #[.int .u64 (((x+18446744073709551616 - y - b)% 18446744073709551616:Nat):Int),.int .u64 ((if x < y+b then 1 else 0:Nat):Int)])) w:=by rw[run_callFunc_extern Tryz.func207 Va Va Va (e:=sub64Entry) Va,run_sub64 x y b hb];rfl
def YD (h l y q r:Int):Prop:=∀w,ar 206 #[.int .u64 h,.int .u64 l,.int .u64 y] w λ e w'=>e=.returned (.tuple #[.int .u64 q,.int .u64 r])/\aj w w'
theorem Hz (h l y:Int)(h0:0<=h)(h1:h < y)(hy:y < 512)(hl0:0<=l)(ft:l < M):∃q r,YD h l y q r:=by
 by_cases hz:h=0
 ·subst hz;exact⟨_,_,λ w=>YC l y h1 hl0 (by unfold M at ft;omega) w⟩
 ·obtain⟨q,r,hq⟩:=aby h l y WC h1 hy hl0 ft;exact⟨q,r,λ w=>(hq w).mono λ e w' ⟨he,hw⟩=>⟨he,by rw[hw];exact Below.refl _ _⟩⟩
def Ol (a n v:Int):Prop:=∀w,ar 193 #[.agg #[.int .u64 (hi a),.int .u64 (lo a)],.int .u64 n] w λ e w'=>e=.returned (af v)/\aj w w'
theorem KB (h l n q r hm:Int)(hn:0 < n)(hh0:0<=h)(hb:(h / 9223372036854775808==0)=true)(hd:YD hm l n q r)(Np:h.tmod n=hm)(w:World):
  ar 193 #[.agg #[.int .u64 h,.int .u64 l],.int .u64 n] w λ e w'=>e=.returned (af (wrap64 q))/\aj w w':=by
 have HD:=aa hd;clear hd;have JO:¬n=0:=by omega
 have Hy:h % n=hm:=by rw[<- Np,Int.tmod_eq_emod_of_nonneg hh0]
 go_enter Tryz.func193,Tryz.ntmps193;go_wp2_with fail;have cS:∀(y2:Ext (w.heap.size+1) (w.alloc (.cells #[.int .u64 h,.int .u64 l] 197))),y2.w.cell? ⟨w.heap.size,0,none⟩=some (.int .u64 h):=λ y2=>by rw[y2.cell Tac];simp
 have cA:∀(y2:Ext (w.heap.size+1) (w.alloc (.cells #[.int .u64 h,.int .u64 l] 197))),y2.w.cell? ⟨w.heap.size,1,none⟩=some (.int .u64 l):=λ y2=>by rw[y2.cell Tac];simp
 refine aM 13 (w.heap.size+1) _ (Below.refl _ _) Va Va Va Va ?_;simp only[Uab];repeat (go_big_quiet_step (first
  |(go_at_call 206;exact aH Tac (HD.ae _))))
 refine wpQuiet_nil ?_;rintro w3 ⟨y2,fP⟩;have hL:=y2.h;rw[<- fP] at hL;clear cS cA fP y2;go_wp2_with fail;go_ret;exact ZcX
theorem KC (h l n q r hm nl c nh c2:Int)(hn:0 < n)(hnh:0<=nh)(hb:(h / 9223372036854775808==0)=false)(hd:YD hm nl n q r)(Np:nh.tmod n=hm)
  (s1:∀w,(callFunc 207 #[.int .u64 0,.int .u64 l,.int .u64 0]).run Tryz.prog w=.ok (.value (.tuple #[.int .u64 nl,.int .u64 c])) w)
  (s2:∀w,(callFunc 207 #[.int .u64 0,.int .u64 h,.int .u64 c]).run Tryz.prog w=.ok (.value (.tuple #[.int .u64 nh,.int .u64 c2])) w) (w:World):
  ar 193 #[.agg #[.int .u64 h,.int .u64 l],.int .u64 n] w λ e w'=>e=.returned (af (wrap64 (IntKind.u64.wrap (-(if 0 < r then IntKind.u64.wrap (q+1)else q)))))/\aj w w':=by
 have HD:=aa hd;clear hd;have JO:¬n=0:=by omega
 have Hy:nh % n=hm:=by rw[<- Np,Int.tmod_eq_emod_of_nonneg hnh]
 by_cases hr:0 < r
 ·have hr1:decide (0 < r)=true:=by simpa using hr
  rw[if_pos hr];exact ZeR
 ·have hr1:decide (0 < r)=false:=by simpa using hr
  rw[if_neg hr];exact ZeR
theorem aeN{a:Int}(h:a < M*M):hi a < M:=by unfold hi M at*;omega
theorem Ia (x b:Int)(h0:0<=x)(h1:x < M)(hb0:0<=b)(hb1:b<=1):∃d c:Int,0<=d/\d < M/\0<=c/\c<=1/\d=(M - x - b)% M/\(c=if 0 < x+b then 1 else 0)/\
  ∀w,(callFunc 207 #[.int .u64 0,.int .u64 x,.int .u64 b]).run Tryz.prog w=.ok (.value (.tuple #[.int .u64 d,.int .u64 c])) w:=by
 obtain⟨X,rfl⟩:=Int.eq_ofNat_of_zero_le h0;obtain⟨B,rfl⟩:=Int.eq_ofNat_of_zero_le hb0;have law:=λ w=>abz 0 X B WC w
 refine⟨_,_,?_,?_,?_,?_,?_,?_,law⟩
 ·omega
 ·unfold M;omega
 ·omega
 ·split <;> omega
 ·unfold M at*;omega
 ·by_cases hx:0 < X+B
  ·rw[if_pos WC,if_pos WC];rfl
  ·rw[if_neg WC,if_neg WC];rfl
theorem zfq.Kbg(h:p:=by exact⟨_,λ w=>KC (hi a) (lo a) n q r _ nl c nh c2 hn e0 hs hd (Int.tmod_eq_emod_of_nonneg e0) s1 s2 w⟩):p:=h
theorem YE (a n:Int)(ha0:0<=a)(ha1:a < M*M)(hn:0 < n)(vz:n < 512):∃v,Ol a n v:=by
 have h0:=sk ha0;have h1:=aeN ha1;have l0:=sj a;have l1:=RO a;by_cases hs:(hi a / 9223372036854775808==0)=true
 ·have Np:=Int.emod_nonneg (hi a) (show n≠0 by omega);have Hy:=Int.emod_lt_of_pos (hi a) hn;obtain⟨q,r,hd⟩:=Hz (hi a % n) (lo a) n Np Hy vz l0 l1;exact⟨_,λ w=>KB (hi a) (lo a) n q r _ hn h0 hs hd (Int.tmod_eq_emod_of_nonneg h0) w⟩
 ·open zfq in exact Zdh
structure St where
 op:Int
 all:Int
 count:Int
 sum:Int
 a:Val
 b:Val
 found:Bool
def St.cells (s:St):Array Value:= #[ag s.op,af s.all,af s.count,.int .u64 (hi s.sum),.int .u64 (lo s.sum),ag s.a.k,af s.a.n,.string s.a.s,ag s.b.k,af s.b.n,.string s.b.s,.bool s.found]
def cC (w:World)(p:Nat)(s:St):Prop:=aB w p 199 s.cells
theorem RP (a b:Int): -1<=lK a b/\lK a b<=1:=by unfold lK;split <;>(try split)<;> omega
theorem abA (a b:ByteArray): -1<=ld a b/\ld a b<=1:=by unfold ld;split <;>(try split)<;> omega
theorem Ib (a b:Val): -1<=bM a b/\bM a b<=1:=by have h1:=RP a.k b.k;have h2:=RP a.n b.n;have h3:=abA a.s b.s;unfold bM or3;split <;>(try split)<;> assumption
def St.rank (s:St)(a b:Val):Int:=ou (bM b s.b) (bM a s.a)
def St.better (s:St)(a b:Val):Bool:= !s.found || decide ((if s.op=25\/s.op=28 then -(s.rank a b)else s.rank a b)< 0)
def St.take (s:St)(a b:Val):St:=if s.better a b then { s with a:=a,b:=b,found:=true } else s
variable{s:St}
theorem cC.gQ{w:World} {p:Nat} (h:cC w p s):w.cell? ⟨p,0,none⟩=some (ag s.op)/\w.cell? ⟨p,1,none⟩=some (af s.all)/\w.cell? ⟨p,2,none⟩=some (af s.count)/\w.cell? ⟨p,3,none⟩=some (.int .u64 (hi s.sum))/\w.cell? ⟨p,4,none⟩=some (.int .u64 (lo s.sum))/\
  w.cell? ⟨p,5,none⟩=some (ag s.a.k)/\w.cell? ⟨p,6,none⟩=some (af s.a.n)/\w.cell? ⟨p,7,none⟩=some (.string s.a.s)/\w.cell? ⟨p,8,none⟩=some (ag s.b.k)/\w.cell? ⟨p,9,none⟩=some (af s.b.n)/\w.cell? ⟨p,10,none⟩=some (.string s.b.s)/\w.cell? ⟨p,11,none⟩=some (.bool s.found):=
 ⟨h.cell 0,h.cell 1,h.cell 2,h.cell 3,h.cell 4,h.cell 5,h.cell 6,h.cell 7,h.cell 8,h.cell 9,h.cell 10,h.cell 11⟩
def St.some_ (s:St)(a:Val):St:=if a.k=0 then s else { s with count:=s.count+1 }
def St.put (s:St)(a:Val):St:=if a.k=2 then { s with count:=s.count+1,sum:=lT s.sum (fT a.n)} else s
def St.alone (s:St)(a:Val):St:=if a.k=0 then s else s.take a aN
def St.Bn (s:St)(a b:Val):St:=if b.k=2 then s.take a b else s
theorem mK (w:World)(es:Array MapEntry)(c:Nat)(k:Int)(v:Value)(hf:Instr.findNow (.int .u8) (ag k) es.toList 0=some none):
  (Instr.mapUpdate 193 (.map (some w.heap.size)) (ag k) v).run Tryz.prog (w.alloc (.map es c))=.ok () (w.alloc (.map (es.push ⟨ag k,v,c⟩) (c+1))):=by
 have hg:(w.alloc (.map es c)).heap[w.heap.size]?=some (.map es c):=heap_alloc_new w _
 have e1:({ w.alloc (.map es c)with heap:=(w.alloc (.map es c)).heap.setIfInBounds w.heap.size (.map (es.push ⟨ag k,v,c⟩) (c+1))}:World)=w.alloc (.map (es.push ⟨ag k,v,c⟩) (c+1)):=by
  have hh:∀A B:Obj,(w.heap.push A).setIfInBounds w.heap.size B=w.heap.push B:=by
   intro A B;apply Array.ext_getElem?;intro i;simp only[Array.getElem?_setIfInBounds,Array.getElem?_push,Array.size_push];by_cases h1:i=w.heap.size
   ·subst h1;simp
   ·simp[h1,Ne.symm h1]
  unfold World.alloc;simp only[hh]
 unfold Instr.mapUpdate;simp only[Sem.run_bind,run_underlying Tryz.underlying193,Result.andThen_ok,MapKept.run_getObj_map hg,xe,Instr.findKey,run_underlying Tryz.underlying5,hf,Sem.run_pure,MapKept.run_setObj_map _ hg,e1]
theorem Ai (w:World)(g:Nat)(es:Array MapEntry)(c:Nat)(hg:w.heap[g]?=some (.map es c))(k:Int)(ok:Bool)(i:Nat)(v:Value)(hf:Instr.findNow (.int .u8) (ag k) es.toList 0=some (some (i,v))):
  (Instr.lookup 193 (.map (some g)) (ag k) ok).run Tryz.prog w=.ok (if ok then .tuple #[v,.bool true] else v) w:=by unfold Instr.lookup;simp only[Sem.run_bind,run_underlying Tryz.underlying193,Result.andThen_ok,MapKept.run_getObj_map hg,xe,Instr.findKey,run_underlying Tryz.underlying5,hf,Sem.run_pure]
def fn (f:Nat):Value:=.func (.func f) #[] #[]
def pQ (op:Int):Nat:=if op=21 then 156 else if op=22 then 158 else if op=23\/op=26 then 160 else if op=24\/op=25 then 163 else 165
def vA (op:Int):Nat:=if op=21 then 157 else if op=22 then 159 else if op=23 then 161 else if op=26 then 162 else 164
def Ic (op:Int):Int:=if op=21 then 0 else if op=27\/op=28 then 2 else 1
def bU (op:Int):Value:=.agg #[fn (pQ op),fn (vA op),af (Ic op)]
def zB:Array MapEntry:= #[⟨ag 21,bU 21,0⟩,⟨ag 22,bU 22,1⟩,⟨ag 23,bU 23,2⟩,⟨ag 26,bU 26,3⟩,⟨ag 24,bU 24,4⟩,⟨ag 25,bU 25,5⟩,⟨ag 27,bU 27,6⟩,⟨ag 28,bU 28,7⟩]
theorem Aj (op:Int)(h0:21<=op)(h1:op<=28):∃i,Instr.findNow (.int .u8) (ag op) zB.toList 0=some (some (i,bU op)):=by
 have:op=21\/op=22\/op=23\/op=24\/op=25\/op=26\/op=27\/op=28:=by omega
 rcases this with rfl | rfl | rfl | rfl | rfl | rfl | rfl | rfl
 ·exact⟨0,rfl⟩
 ·exact⟨1,rfl⟩
 ·exact⟨2,rfl⟩
 ·exact⟨4,rfl⟩
 ·exact⟨5,rfl⟩
 ·exact⟨3,rfl⟩
 ·exact⟨6,rfl⟩
 ·exact⟨7,rfl⟩
theorem jC (w:World):ar 104 #[] w λ e w'=>e=.returned (.map (some w.heap.size))/\w'=w.alloc (.map zB 8):=by have Nk:= @run_makeMap Tryz.prog;have i1:=mK w #[] 0 21 (bU 21) rfl;have i2:=mK w #[⟨ag 21,bU 21,0⟩] 1 22 (bU 22) rfl;have i3:=mK w #[⟨ag 21,bU 21,0⟩,⟨ag 22,bU 22,1⟩] 2 23 (bU 23) rfl;have i4:=mK w #[⟨ag 21,bU 21,0⟩,⟨ag 22,bU 22,1⟩,⟨ag 23,bU 23,2⟩] 3 26 (bU 26) rfl;have i5:=mK w #[⟨ag 21,bU 21,0⟩,⟨ag 22,bU 22,1⟩,⟨ag 23,bU 23,2⟩,⟨ag 26,bU 26,3⟩] 4 24 (bU 24) rfl;have i6:=mK w #[⟨ag 21,bU 21,0⟩,⟨ag 22,bU 22,1⟩,⟨ag 23,bU 23,2⟩,⟨ag 26,bU 26,3⟩,⟨ag 24,bU 24,4⟩] 5 25 (bU 25) rfl;have i7:=mK w #[⟨ag 21,bU 21,0⟩,⟨ag 22,bU 22,1⟩,⟨ag 23,bU 23,2⟩,⟨ag 26,bU 26,3⟩,⟨ag 24,bU 24,4⟩,⟨ag 25,bU 25,5⟩] 6 27 (bU 27) rfl;have i8:=mK w #[⟨ag 21,bU 21,0⟩,⟨ag 22,bU 22,1⟩,⟨ag 23,bU 23,2⟩,⟨ag 26,bU 26,3⟩,⟨ag 24,bU 24,4⟩,⟨ag 25,bU 25,5⟩,⟨ag 27,bU 27,6⟩] 7 28 (bU 28) rfl;simp[bU,fn,pQ,vA,Ic] at i1 i2 i3 i4 i5 i6 i7 i8;go_enter Tryz.func104,Tryz.ntmps104;exact Zfs
def isAgg (op:Int):Bool:=decide (21<=op)&& decide (op<=28)
theorem agK (x y z:Value)(w:World):(Instr.field 192 (.agg #[x,y,z]) 1).run Tryz.prog w=.ok y w:=by exact Zgn
def fh (op:Int):St:=⟨op,0,0,0,aN,aN,false⟩
def St.does (s:St)(a b:Val):St:=
 if s.op=21 then s else if s.op=22 then s.some_ a else if s.op=23\/s.op=26 then s.put a else if s.op=24\/s.op=25 then s.alone a else s.Bn a b
def St.feed (s:St)(a b:Val):St:=St.does { s with all:=s.all+1 } a b
structure St.Ok (s:St):Prop where
 op0:21<=s.op
 op1:s.op<=28
 alD:0<=s.all
 asK:s.all < 4611686018427387905
 xj:0<=s.count
 Ie:s.count < 4611686018427387904
 abB:0<=s.sum
 abC:s.sum < M*M
theorem mL (n:Int)(w:World):ar 189 #[af n] w λ e w'=>e=.returned (.agg #[ag 2,af n,.string ByteArray.empty])/\aj w w':=by go_enter Tryz.func189,Tryz.ntmps189;go_wp2;exact bodyPost_ret (v:=.agg #[ag 2,af n,.string ByteArray.empty]) (by simp[results,Tryz.results189,go_sem];rfl) rfl ⟨rfl,by go_grown⟩
theorem YF (p:Nat)(s:St)(w:World)(h:cC w p s):ar 164 #[aw p] w λ e w'=>e=.returned (bQ s.a 0)/\aj w w':=by have cS:=cC.gQ h;have hp:=aB.lt h;unfold bQ;clear h;go_enter Tryz.func164,Tryz.ntmps164;go_wp2;exact bodyPost_ret (v:=.tuple #[.agg #[ag s.a.k,af s.a.n,.string s.a.s],af 0]) (by simp[results,Tryz.results164,go_sem]) rfl ⟨rfl,by go_grown⟩
theorem zfw.Kbj(h:p:=by exact bodyPost_ret (v:=.tuple #[.agg #[ag 2,af s.all,.string ByteArray.empty],af 0]) (by simp[results,Tryz.results157,go_sem,dv]) rfl ⟨rfl,((hB.setCell (Nat.le_refl _) _).setCell (Nat.le_refl _) _).setCell (Nat.le_refl _) _⟩):p:=h
theorem Uh (p:Nat)(s:St)(w:World)(h:cC w p s):ar 157 #[aw p] w λ e w'=>e=.returned (bQ (num s.all) 0)/\aj w w':=by have cS:=cC.gQ h;have hp:=aB.lt h;unfold bQ num;clear h;go_enter Tryz.func157,Tryz.ntmps157;open zfw in exact Zdu
theorem zfx.Kbj(h:p:=by exact bodyPost_ret (v:=.tuple #[.agg #[ag 2,af s.count,.string ByteArray.empty],af 0]) (by simp[results,Tryz.results159,go_sem,dv]) rfl ⟨rfl,((hB.setCell (Nat.le_refl _) _).setCell (Nat.le_refl _) _).setCell (Nat.le_refl _) _⟩):p:=h
theorem YG (p:Nat)(s:St)(w:World)(h:cC w p s):ar 159 #[aw p] w λ e w'=>e=.returned (bQ (num s.count) 0)/\aj w w':=by have cS:=cC.gQ h;have hp:=aB.lt h;unfold bQ num;clear h;go_enter Tryz.func159,Tryz.ntmps159;open zfx in exact Zdu
def St.total (s:St):Val×Int:=if s.count=0 then(aN,0)else if lU s.sum then(num (Fl (lo s.sum)),0)else(aN,43)
theorem Ui (p:Nat)(s:St)(w:World)(h:cC w p s):ar 161 #[aw p] w λ e w'=>e=.returned (bQ s.total.1 s.total.2)/\aj w w':=by
 have cS:=cC.gQ h;have hp:=aB.lt h;have hN:=λ w=>Oj s.sum w
 have HN:=aa hN;clear hN;have H0:=aa (show∀(hz:s.count=0),s.total=(aN,0)from λ hz=>if_pos hz);have H1:=aa (show∀(hz:¬s.count=0) (hn:lU s.sum=true),s.total=(num (Fl (lo s.sum)),0)from λ hz hn=>by unfold St.total;rw[if_neg hz,if_pos hn]);have H2:=aa (show∀(hz:¬s.count=0) (hn:lU s.sum=false),s.total=(aN,43)from λ hz hn=>by unfold St.total;rw[if_neg hz,if_neg (by rw[hn];decide)]);generalize Fl (lo s.sum)=n at*;go_enter Tryz.func161,Tryz.ntmps161;go_wp2_with fail;refine(HN.ae _).mono ?_;rintro e w1 ⟨rfl,b1⟩;have hR:=(aB.new w 44 #[ag 0,af 0,.string { data:= #[] }]).later b1;have dv:=aG hR;have cJ:=aB.frozen hR;have hS1:=cC.gQ (aB.later ((aB.alloc h (.cells #[ag 0,af 0,.string { data:= #[] }] 44))) b1);have hB:aj w w1:=((Below.refl _ _).alloc (Nat.le_refl _) _).trans (b1.mono Tac);have hlt:=hR.lt;have HR:=aa hR;clear b1 hR cS h;by_cases hz:s.count=0
 ·have t1:(s.count==0)=true:=by simp[hz]
  have HZ:=aa hz;clear hz;go_wp2_with fail;rw[H0.ae HZ.ae];exact bodyPost_ret (v:=.tuple #[.agg #[ag 0,af 0,.string ByteArray.empty],af 0]) Ta1 rfl ⟨rfl,((hB.setCell (Nat.le_refl _) _).setCell (Nat.le_refl _) _).setCell (Nat.le_refl _) _⟩
 ·have t1:(s.count==0)=false:=by simp[hz]
  cases hn:lU s.sum
  ·go_wp2_with fail;rw[H2.ae hz hn];exact bodyPost_ret (v:=.tuple #[.agg #[ag 0,af 0,.string ByteArray.empty],af 43]) Ta1 rfl ⟨rfl,((hB.setCell (Nat.le_refl _) _).setCell (Nat.le_refl _) _).setCell (Nat.le_refl _) _⟩
  ·go_wp2_with fail;refine(mL _ _).mono ?_;rintro e w3 ⟨rfl,hL⟩;have hR:=HR.ae.later hL;have Kx:=aG hR;have gV:=aB.frozen hR;have eD:aj w w3:=hB.trans (hL.mono hB.size);clear hL hR dv cJ;go_wp2_with fail;rw[H1.ae hz hn];exact bodyPost_ret (v:=.tuple #[.agg #[ag 2,af n,.string ByteArray.empty],af 0]) (by simp[results,Tryz.results161,go_sem,Kx]) rfl ⟨rfl,((eD.setCell (Nat.le_refl _) _).setCell (Nat.le_refl _) _).setCell (Nat.le_refl _) _⟩
def Om (s:St)(v:Val):Prop:=(s.count=0/\v=aN)\/(s.count≠0/\∃q,Ol s.sum s.count q/\v=num q)
theorem abD (s:St)(ok:s.Ok)(hc:s.count < 512):∃v,Om s v:=by
 by_cases h:s.count=0
 ·exact⟨_,.inl ⟨h,rfl⟩⟩
 ·obtain⟨q,hq⟩:=YE s.sum s.count ok.abB ok.abC (by have:=ok.xj;omega) hc;exact⟨_,.inr ⟨h,q,hq,rfl⟩⟩
theorem zgl.KbC(h:p:=by
 clear cS hp h;generalize w.alloc (.cells #[ag 0,af 0,.string { data:= #[] }] 44)=W at*;have cS:=λ y2:Ext W.heap.size W=>cC.gQ (aB.later hS y2.h)
 refine aM 11 W.heap.size W (Below.refl _ _) Va Va Va Va ?_;simp only[Uab];repeat (go_big_quiet_step (first
  |(go_at_call 193;exact aH (Nat.le_refl _) (HQ.ae _))
  |(go_at_call 189;exact aH (Nat.le_refl _) (mL _ _))))
 refine wpQuiet_nil ?_;rintro w3 ⟨y2,fP⟩;have hL:=y2.h;rw[<- fP] at hL;clear cS fP y2;have hR:=KK.later hL;have Kx:=aG hR;have gV:=aB.frozen hR;have eD:aj w w3:=hB.trans (hL.mono hB.size);clear hR KK hL hS;go_wp2_with fail;exact bodyPost_ret (v:=.tuple #[.agg #[ag 2,af q,.string ByteArray.empty],af 0]) (by simp[results,Tryz.results162,go_sem,Kx]) rfl ⟨rfl,((eD.setCell (Nat.le_refl _) _).setCell (Nat.le_refl _) _).setCell (Nat.le_refl _) _⟩):p:=h
theorem YH (p:Nat)(s:St)(v:Val)(w:World)(h:cC w p s)(ok:s.Ok)(hv:Om s v):ar 162 #[aw p] w λ e w'=>e=.returned (bQ v 0)/\aj w w':=by
 have cS:=cC.gQ h;have hp:=aB.lt h;have q0:=ok.xj;have q1:=ok.Ie;rcases hv with ⟨hz,rfl⟩|⟨hz,q,hq,rfl⟩
 ·have t1:(s.count==0)=true:=by simp[hz]
  clear hz;unfold bQ aN;go_enter Tryz.func162,Tryz.ntmps162;go_wp2_with fail;exact bodyPost_ret (v:=.tuple #[.agg #[ag 0,af 0,.string ByteArray.empty],af 0]) (by simp[results,Tryz.results162,go_sem];try rfl) rfl ⟨rfl,by go_grown⟩
 ·have t1:(s.count==0)=false:=by simp[hz]
  have HQ:=aa hq;clear hz hq;unfold bQ num;have hu:IntKind.u64.wrap s.count=s.count:=by rw[IntKind.wrap_u64];omega
  go_enter Tryz.func162,Tryz.ntmps162;open zgl in exact Zei
def gI (s:St)(v:Val)(err:Int):Prop:=
 if s.op=21 then v=num s.all/\err=0 else if s.op=22 then v=num s.count/\err=0 else if s.op=23 then v=s.total.1/\err=s.total.2 else if s.op=26 then Om s v/\err=0 else v=s.a/\err=0
theorem agL (s:St)(ok:s.Ok)(hc:s.count < 512):∃v err,gI s v err:=by
 unfold gI;split
 ·exact⟨_,_,rfl,rfl⟩
 ·split
  ·exact⟨_,_,rfl,rfl⟩
  ·split
   ·exact⟨_,_,rfl,rfl⟩
   ·split
    ·obtain⟨v,hv⟩:=abD s ok hc;exact⟨v,_,hv,rfl⟩
    ·exact⟨_,_,rfl,rfl⟩
theorem agM (p:Nat)(s:St)(v:Val)(err:Int)(w:World)(h:cC w p s)(ok:s.Ok)(hv:gI s v err):ar (vA s.op) #[aw p] w λ e w'=>e=.returned (bQ v err)/\aj w w':=by
 unfold gI at hv;unfold vA;by_cases h1:s.op=21
 ·rw[if_pos h1] at*;obtain⟨rfl,rfl⟩:=hv;exact Uh p s w h
 ·rw[if_neg h1] at*;by_cases h2:s.op=22
  ·rw[if_pos h2] at*;obtain⟨rfl,rfl⟩:=hv;exact YG p s w h
  ·rw[if_neg h2] at*;by_cases h3:s.op=23
   ·rw[if_pos h3] at*;obtain⟨rfl,rfl⟩:=hv;exact Ui p s w h
   ·rw[if_neg h3] at*;by_cases h4:s.op=26
    ·rw[if_pos h4] at*;obtain⟨hm,rfl⟩:=hv;exact YH p s v w h ok hm
    ·rw[if_neg h4] at*;obtain⟨rfl,rfl⟩:=hv;exact YF p s w h
theorem KD (args:Array Value)(w:World):(callFunc 157 args).run Tryz.prog w=.ok (.enter 157 args) w:=by exact Zgn
theorem Oo (args:Array Value)(w:World):(callFunc 159 args).run Tryz.prog w=.ok (.enter 159 args) w:=by exact Zgn
theorem KE (args:Array Value)(w:World):(callFunc 161 args).run Tryz.prog w=.ok (.enter 161 args) w:=by exact Zgn
theorem Oq (args:Array Value)(w:World):(callFunc 162 args).run Tryz.prog w=.ok (.enter 162 args) w:=by exact Zgn
theorem Ot (args:Array Value)(w:World):(callFunc 164 args).run Tryz.prog w=.ok (.enter 164 args) w:=by exact Zgn
theorem Uj (op:Int)(args:Array Value)(w:World):(callFunc (vA op) args).run Tryz.prog w=.ok (.enter (vA op) args) w:=by
 unfold vA;split
 ·exact KD args w
 ·split
  ·exact Oo args w
  ·split
   ·exact KE args w
   ·split
    ·exact Oq args w
    ·exact Ot args w
def RQ (p:Nat)(op:Int)(v0:Val)(err:Int):Nat->World->Value->Prop
 | 0=>λ w v=>∃g,v=.map (some g)/\w.heap[g]?=some (.map zB 8)
 | 1=>λ _ v=>v=aw p
 | 2=>λ _ v=>v=aw p
 | 3=>λ _ v=>v=aw p
 | 4=>λ _ v=>v=ag op
 | 5=>λ _ v=>v=bU op
 | 6=>λ _ v=>v=fn (vA op)
 | 7=>λ _ v=>v=aw p
 | 8=>λ _ v=>v=bQ v0 err
 | 9=>λ _ v=>v=.agg (aD v0)
 | 10=>λ _ v=>v=af err
 | _=>λ _ _=>True
theorem KF (p:Nat)(op:Int)(v0:Val)(err:Int)(i:Nat)(w w':World)(v:Value)(h:RQ p op v0 err i w v)(hl:ai w w'):RQ p op v0 err i w' v:=by unfold RQ at*;exact Zdd
theorem zgm.KbC(h:p:=by
 clear h;generalize w.alloc (.cells #[ag 0,af 0,.string { data:= #[] }] 44)=W at*;refine bA 11 (RQ p s.op v err) (KF p s.op v err) Va Va Va ?_ ?_
 ·simp only[take_succ_cons,take_zero];refine⟨ZcS,Zhs,?_,?_,?_,?_,?_,Zhs,?_,Zgd,Zgd,trivial⟩
  ·intro ρ w3 hc hL hr;have h1:ρ (.tmp 8)=aw p:=hr.1;exact ZcK
  ·intro ρ w3 hc hL hr;have h1:ρ (.tmp 9)=aw p:=hr.1;exact ZcK
  ·intro ρ w3 hc hL hr;have h1:ρ (.tmp 10)=aw p:=hr.1;have c0:=(cC.gQ (aB.later hS hL)).1;exact ZdM
  ·intro ρ w3 hc hL hr;obtain⟨g,h1,hgm⟩:∃g,ρ (.tmp 7)=.map (some g)/\w3.heap[g]?=some (.map zB 8):=hr.1;have h2:ρ (.tmp 11)=ag s.op:=hr.2.1;obtain⟨i,hi⟩:=Aj s.op HK.ae.op0 HK.ae.op1;exact Zfx
  ·intro ρ w3 hc hL hr;have h1:ρ (.tmp 12)=bU s.op:=hr.1;have hf:=agK (fn (pQ s.op)) (fn (vA s.op)) (af (Ic s.op)) w3;exact Zhc
  ·intro ρ w3 hc hL hr;have h1:ρ (.tmp 13)=.func (.func (vA s.op)) #[] #[]:=hr.1;have h2:ρ (.tmp 14)=aw p:=hr.2.1;refine bu (f:=vA s.op) (args:= #[aw p]) (w':=w3) (by simp[go_sem,h1,h2,Uj]) ?_;refine(agM p s v err w3 (aB.later hS hL) HK.ae HV.ae).mono ?_;rintro e w2 ⟨rfl,b2⟩;exact⟨_,rfl,b2,rfl⟩
 ·intro w3 hL;simp only[Uab];rintro _ ⟨g,rfl,hgm⟩ _ rfl _ rfl _ rfl _ rfl _ rfl _ rfl _ rfl _ rfl _ rfl _ rfl;have hR:=KK.later hL;have Kx:=aG hR;have gV:=aB.frozen hR;have eD:aj w w3:=hB.trans (hL.mono hB.size);clear hR KK hL hS;simp only[bD,Act.put,Uac,fn];go_wp2_with fail;exact bodyPost_ret (v:=.tuple #[.agg (aD v),af err]) (by simp[results,Tryz.results68,go_sem,Kx]) rfl ⟨rfl,((eD.setCell (Nat.le_refl _) _).setCell (Nat.le_refl _) _).setCell (Nat.le_refl _) _⟩):p:=h
theorem Ou (p:Nat)(s:St)(v:Val)(err:Int)(w:World)(h:cC w p s)(ok:s.Ok)(hv:gI s v err):
  ar 68 #[aw p] w λ e w'=>e=.returned (bQ v err)/\aj w w':=by have HV:=aa hv;have HK:=aa ok;clear hv ok;go_enter Tryz.func68,Tryz.ntmps68;open zgm in exact Zei
def St.yE (s:St)(l:List (Val×Val)):St:=l.foldl (λ s x=>s.feed x.1 x.2) s
def kU (op:Int)(l:List (Val×Val)):St:=(fh op).yE l
structure Good {γ:Type} (c:γ->γ->Int):Prop where
 jn:∀x y,c x y= -(c y x)
 trans:∀x y z,c x y<=0->c y z<=0->c x z<=0
variable{γ:Type}
theorem Good.lex{c d:γ->γ->Int}(hc:Good c)(hd:Good d):Good λ x y=>ou (c x y) (d x y):=by
 constructor
 ·intro x y;have h1:=hc.jn x y;have h2:=hd.jn x y;unfold ou;split <;> split <;> omega
 ·intro x y z h1 h2;have a1:c x y<=0:=by unfold ou at h1;split at h1 <;> omega
  have a2:c y z<=0:=by unfold ou at h2;split at h2 <;> omega
  have a3:=hc.trans x y z a1 a2;show ou (c x z) (d x z)<=0;by_cases h0:c x z=0
  ·have b0:c z x=0:=by have:=hc.jn z x;omega
   have b1:=hc.trans z x y WC a1;have b2:=hc.trans y z x a2 WC;have e1:=hc.jn z y;have e2:=hc.jn y x;have z1:c x y=0:=by omega
   have z2:c y z=0:=by omega
   have:=hd.trans x y z (by simpa [ou,z1] using h1) (by simpa [ou,z2] using h2);simpa [ou,h0] using this
  ·simpa [ou,h0] using a3
theorem Good.flip{c:γ->γ->Int}(hc:Good c):Good λ x y=> -(c x y):=by
 constructor
 ·intro x y;have:=hc.jn x y;omega
 ·intro x y z h1 h2;have a1:=hc.jn x y;have a2:=hc.jn y z;have a3:=hc.jn x z;have:=hc.trans z y x WC WC;show -(c x z)<=0;omega
variable{δ:Type}
theorem Good.by_{c:γ->γ->Int}(hc:Good c)(f:δ->γ):Good λ x y=>c (f x) (f y):=⟨λ x y=>hc.jn _ _,λ x y z=>hc.trans _ _ _⟩
theorem Fm:Good lK:=by
 constructor
 ·intro x y;unfold lK;split <;> split <;>(try split)<;>(try split)<;> omega
 ·intro x y z h1 h2;have a:x<=y:=by unfold lK at h1;split at h1 <;>(try split at h1)<;> omega
  have b:y<=z:=by unfold lK at h2;split at h2 <;>(try split at h2)<;> omega
  unfold lK;split
  ·omega
  ·rw[if_neg WC];omega
theorem Fo{a b:Int}(h:lK a b=0):a=b:=by unfold lK at h;split at h <;>(try split at h)<;> omega
theorem jW:∀x:List UInt8,Op.bytesLess x x=false
 | []=>rfl
 | a::x=>by simp[Op.bytesLess,jW x]
theorem tV:∀x y:List UInt8,Op.bytesLess x y=true->Op.bytesLess y x=false
 | _,[],h=>by simp[Op.bytesLess] at h
 | [],_::_,_=>by simp[Op.bytesLess]
 | a::x,b::y,h=>by
   simp only[Op.bytesLess,Bool.or_eq_true,Bool.and_eq_true,decide_eq_true_eq,beq_iff_eq] at h;simp only[Op.bytesLess,Bool.or_eq_false_iff,Bool.and_eq_false_iff,decide_eq_false_iff_not,beq_eq_false_iff_ne];rcases h with h |⟨rfl,h⟩
   ·refine⟨λ h'=>?_,.inl λ e=>?_⟩
    ·exact absurd (UInt8.lt_trans h h') (UInt8.lt_irrefl _)
    ·subst e;exact UInt8.lt_irrefl _ h
   ·exact⟨UInt8.lt_irrefl _,.inr (tV x y h)⟩
theorem oO:∀x y:List UInt8,Op.bytesLess x y=false->Op.bytesLess y x=false->x=y
 | [],[],_,_=>rfl
 | [],_::_,h,_=>by simp[Op.bytesLess] at h
 | _::_,[],_,h=>by simp[Op.bytesLess] at h
 | a::x,b::y,h1,h2=>by simp only[Op.bytesLess,Bool.or_eq_false_iff,Bool.and_eq_false_iff,decide_eq_false_iff_not,beq_eq_false_iff_ne] at h1 h2;have hab:a=b:=UInt8.le_antisymm (UInt8.not_lt.1 h2.1) (UInt8.not_lt.1 h1.1);subst hab;have:=oO x y (by rcases h1.2 with h | h;exact absurd rfl h;exact h) (by rcases h2.2 with h | h;exact absurd rfl h;exact h);rw[this]
theorem Bo:∀x y z:List UInt8,Op.bytesLess x y=true->Op.bytesLess y z=true->Op.bytesLess x z=true
 | _,[],_,h,_=>by simp[Op.bytesLess] at h
 | _,_::_,[],_,h=>by simp[Op.bytesLess] at h
 | [],_::_,_::_,_,_=>by simp[Op.bytesLess]
 | a::x,b::y,c::z,h1,h2=>by
   simp only[Op.bytesLess,Bool.or_eq_true,Bool.and_eq_true,decide_eq_true_eq,beq_iff_eq] at h1 h2 ⊢;rcases h1 with h1 |⟨rfl,h1⟩
   ·rcases h2 with h2 |⟨rfl,h2⟩
    ·exact .inl (UInt8.lt_trans h1 h2)
    ·exact .inl h1
   ·rcases h2 with h2 |⟨rfl,h2⟩
    ·exact .inl h2
    ·exact .inr ⟨rfl,Bo x y z h1 h2⟩
theorem abF{a b:ByteArray}:ld a b<=0↔Op.bytesLess b.toList a.toList=false:=by
 unfold ld;split
 ·rename_i h;simp[tV _ _ h]
 ·rename_i h;split
  ·rename_i h2;rw[beq_iff_eq] at h2;rw[h2];simp[jW]
  ·rename_i h2;constructor
   ·intro h;omega
   ·intro h3;exact absurd (by rw[beq_iff_eq];exact oO _ _ Tak h3) h2
theorem Uk:Good ld:=by
 constructor
 ·intro x y;unfold ld;by_cases h1:Op.bytesLess x.toList y.toList=true
  ·rw[if_pos h1,if_neg (by rw[tV _ _ h1];decide),if_neg (λ e=>by rw[beq_iff_eq] at e;rw[e,jW] at h1;cases h1)]
  ·rw[if_neg h1];by_cases h2:Op.bytesLess y.toList x.toList=true
   ·rw[if_pos h2,if_neg (λ e=>by rw[beq_iff_eq] at e;rw[e,jW] at h2;cases h2)];rfl
   ·rw[if_neg h2];have e:=oO _ _ Ta5 (by simpa using h2);rw[e];simp
 ·intro x y z h1 h2;rw[abF] at*;cases h3:Op.bytesLess z.toList x.toList
  ·rfl
  ·exfalso;cases h4:Op.bytesLess x.toList y.toList
   ·have e:=oO _ _ h4 h1;rw[e,h2] at h3;cases h3
   ·rw[Bo _ _ _ h3 h4] at h2;cases h2
theorem Ul{a b:ByteArray}(h:ld a b=0):a=b:=by
 unfold ld at h;split at h
 ·omega
 ·split at h
  ·rename_i h2;rw[beq_iff_eq,ByteArray.toList_eq,ByteArray.toList_eq] at h2;exact Go.WideShapes.bytes_inj h2
  ·omega
theorem jD:Good bM:=(Fm.by_ Val.k).lex ((Fm.by_ Val.n).lex (Uk.by_ Val.s))
variable{y:Int}
theorem KH{x:Int}(h:ou x y=0):x=0/\y=0:=by unfold ou at h;split at h <;> omega
theorem Fp{a b:Val}(h:bM a b=0):a=b:=by obtain⟨h1,h2⟩:=KH (show ou (lK a.k b.k) (ou (lK a.n b.n) (ld a.s b.s))=0 from h);obtain⟨h2,h3⟩:=KH h2;obtain⟨k,n,s⟩:=a;obtain⟨k',n',s'⟩:=b;have:=Fo h1;have:=Fo h2;have:=Ul h3;simp_all
def pc (op:Int)(x y:Val×Val):Int:=if op=25\/op=28 then -(ou (bM x.2 y.2) (bM x.1 y.1))else ou (bM x.2 y.2) (bM x.1 y.1)
theorem RS (op:Int):Good (pc op):=by
 have h:Good λ x y:Val×Val=>ou (bM x.2 y.2) (bM x.1 y.1):=(jD.by_ Prod.snd).lex (jD.by_ Prod.fst)
 by_cases ho:op=25\/op=28
 ·have e:pc op=λ x y=> -(ou (bM x.2 y.2) (bM x.1 y.1)):=by funext x y;simp[pc,ho]
  rw[e];exact h.flip
 ·have e:pc op=λ x y=>ou (bM x.2 y.2) (bM x.1 y.1):=by funext x y;simp[pc,ho]
  rw[e];exact h
def xl (op:Int)(f:Bool)(a b:Val)(K:Val×Val->Prop):Prop:=
 (f=false/\a=aN/\b=aN/\∀y,¬K y)\/(f=true/\K (a,b)/\∀y,K y->0<=pc op y (a,b))
variable{f:Bool}{K K':Val×Val->Prop}
theorem xl.iff{op:Int}  {a b:Val} (h:xl op f a b K)(hK:∀y,K' y↔K y):xl op f a b K':=by
 have:K'=K:=by funext y;exact propext (hK y)
 rw[this];exact h
theorem Fq (s:St)(c d:Val):s.better c d=(!s.found || decide (pc s.op (c,d) (s.a,s.b)< 0)):=by unfold St.better St.rank pc;rfl
variable{d:Val}{K1 K2:Val×Val->Prop}
theorem xl.join{c:Val} (h1:xl s.op s.found s.a s.b K1)(h2:xl s.op true c d K2)(hK:∀y,K y↔K1 y\/K2 y):
  xl s.op (s.take c d).found (s.take c d).a (s.take c d).b K:=by
 have g:=RS s.op;rcases h2 with ⟨h,_⟩|⟨_,k2,m2⟩
 ·cases h
 unfold St.take;by_cases hb:s.better c d=true
 ·rw[if_pos hb];refine .inr ⟨rfl,(hK _).2 (.inr k2),λ y hy=>?_⟩;rcases(hK y).1 hy with hy | hy
  ·rcases h1 with ⟨_,_,_,h⟩|⟨hf,k1,m1⟩
   ·exact absurd hy (h _)
   ·rw[Fq,hf] at hb;have hb:pc s.op (c,d) (s.a,s.b)< 0:=by simpa using hb
    have a1:=m1 y hy;have a2:=g.jn y (s.a,s.b);have a3:=g.trans (c,d) (s.a,s.b) y WC WC;have a4:=g.jn y (c,d);show 0<=pc s.op y (c,d);omega
  ·exact m2 y hy
 ·rw[if_neg hb];rw[Fq] at hb;simp at hb;rcases h1 with ⟨hf,_⟩|⟨hf,k1,m1⟩
  ·rw[hb.1] at hf;cases hf
  ·refine .inr ⟨hf,(hK _).2 (.inl k1),λ y hy=>?_⟩;rcases(hK y).1 hy with hy | hy
   ·exact m1 y hy
   ·have a1:=m2 y hy;have a2:=g.jn y (c,d);have a0:=hb.2;have a5:=g.jn (c,d) (s.a,s.b);have a3:=g.trans (s.a,s.b) (c,d) y WC WC;have a4:=g.jn y (s.a,s.b);omega
theorem sq (s:St)(c d:Val):(s.take c d).op=s.op/\(s.take c d).all=s.all/\(s.take c d).count=s.count/\(s.take c d).sum=s.sum:=by unfold St.take;split <;> exact⟨rfl,rfl,rfl,rfl⟩
def key (op:Int)(x:Val×Val):Option (Val×Val):=
 if op=24\/op=25 then(if x.1.k=0 then none else some (x.1,aN))else if op=27\/op=28 then(if x.2.k=2 then some x else none)else none
def one (op:Int)(x:Val×Val):Int:=if op=22 then(if x.1.k=0 then 0 else 1)else if op=23\/op=26 then(if x.1.k=2 then 1 else 0)else 0
def Nq (op:Int)(x:Val×Val):Int:=if op=23\/op=26 then(if x.1.k=2 then x.1.n else 0)else 0
def cnt (op:Int):List (Val×Val)->Int
 | []=>0
 | x::l=>one op x+cnt op l
def Bp (op:Int):List (Val×Val)->Int
 | []=>0
 | x::l=>Nq op x+Bp op l
theorem Ig (op:Int):∀l m:List (Val×Val),cnt op (l++m)=cnt op l+cnt op m
 | [],m=>by simp[cnt]
 | x::l,m=>by simp[cnt,Ig op l m];omega
theorem Ih (op:Int):∀l m:List (Val×Val),Bp op (l++m)=Bp op l+Bp op m
 | [],m=>by simp[Bp]
 | x::l,m=>by simp[Bp,Ih op l m];omega
def keys (op:Int)(l:List (Val×Val))(y:Val×Val):Prop:=∃x∈l,key op x=some y
structure Ov (op:Int) (s:St) (l:List (Val×Val)):Prop where
 kind:s.op=op
 all:s.all=l.length
 count:s.count=cnt op l
 sum:s.sum=Bp op l %(M*M)
 asL:xl op s.found s.a s.b (keys op l)
variable{m:List (Val×Val)}
theorem Ov.turn{op:Int}  {l:List (Val×Val)}(h:Ov op s (l++m)):Ov op s (m++l):=
 ⟨h.kind,by rw[h.all];simp;omega,by rw[h.count,Ig,Ig];omega,by rw[h.sum,Ih,Ih,Int.add_comm],h.asL.iff λ y=>by simp[keys,or_comm]⟩
theorem abG (op:Int):Ov op (fh op) []:=⟨rfl,rfl,rfl,by simp[fh,Bp],.inl ⟨rfl,rfl,rfl,by simp[keys]⟩⟩
variable{x:Val×Val}
theorem keys_cons{op:Int}  {l:List (Val×Val)} {y:Val×Val}:keys op (x::l) y↔keys op l y\/key op x=some y:=by simp[keys,or_comm]
theorem fj{op:Int}  {a b:Val}  {l:List (Val×Val)}(h:xl op f a b (keys op l))(hx:key op x=none):xl op f a b (keys op (x::l)):=h.iff λ y=>by rw[keys_cons,hx];simp
theorem su{c:Val}  {l:List (Val×Val)}(h:xl s.op s.found s.a s.b (keys s.op l))(hx:key s.op x=some (c,d)):xl s.op (s.take c d).found (s.take c d).a (s.take c d).b (keys s.op (x::l)):=
 xl.join h (K2:=λ y=>y=(c,d)) (.inr ⟨rfl,rfl,λ y hy=>by
  subst hy
  have:=(RS s.op).jn (c,d) (c,d)
  omega⟩) λ y=>by rw[keys_cons,hx];simp[eq_comm]
theorem Ov.feed{op:Int}  {l:List (Val×Val)}(h:Ov op s l)(h0:21<=op)(h1:op<=28)(x:Val×Val):Ov op (s.feed x.1 x.2) (x::l):=by
 obtain⟨rfl,ha,hc,hs,hb⟩:=h;have agN:s.op=21\/s.op=22\/s.op=23\/s.op=24\/s.op=25\/s.op=26\/s.op=27\/s.op=28:=by omega
 have hall:s.all+1=((x::l).length:Nat):=by rw[ha];simp
 unfold St.feed St.does;dsimp only;rcases agN with o | o | o | o | o | o | o | o
 ·rw[if_pos o];exact⟨rfl,hall,by rw[hc];simp[cnt,one,o],by rw[hs];simp[Bp,Nq,o],fj hb TaN⟩
 ·rw[if_neg WC,if_pos o];unfold St.some_;split
  ·rename_i hk;exact⟨rfl,hall,by rw[hc];simp[cnt,one,o,hk],by rw[hs];simp[Bp,Nq,o],fj hb TaN⟩
  ·rename_i hk;exact⟨rfl,hall,by show s.count+1=_;rw[hc];simp[cnt,one,o,hk];omega,by show s.sum=_;rw[hs];simp[Bp,Nq,o],fj hb TaN⟩
 ·rw[if_neg WC,if_neg WC,if_pos WC];unfold St.put;split
  ·rename_i hk;refine⟨rfl,hall,by show s.count+1=_;rw[hc];simp[cnt,one,o,hk];omega,?_,fj hb TaN⟩;show lT s.sum (fT x.1.n)=_;rw[hs];simp only[Bp,Nq,o,hk,true_or,if_true];unfold lT fT M;omega
  ·exact Zfh
 ·exact ZbJ
 ·exact ZbJ
 ·rw[if_neg WC,if_neg WC,if_pos WC];unfold St.put;split
  ·rename_i hk;refine⟨rfl,hall,by show s.count+1=_;rw[hc];simp[cnt,one,o,hk];omega,?_,fj hb TaN⟩;show lT s.sum (fT x.1.n)=_;rw[hs];simp only[Bp,Nq,o,hk,or_true,if_true];unfold lT fT M;omega
  ·exact Zfh
 ·exact ZbK
 ·exact ZbK
theorem Ov.yE{op:Int}(h0:21<=op)(h1:op<=28):∀(m:List (Val×Val)) {s:St} {l:List (Val×Val)},Ov op s l->Ov op (s.yE m) (l++m)
 | [],s,l,h=>by simpa [St.yE] using h
 | x::m,s,l,h=>by have h2:=(show Ov op _ ([x]++l)from h.feed h0 h1 x).turn;have:=Ov.yE h0 h1 m h2;simpa [St.yE] using this
theorem Ak{op:Int}(h0:21<=op)(h1:op<=28)(l:List (Val×Val)):Ov op (kU op l) l:=by have:=Ov.yE h0 h1 l (abG op);rwa [nil_append] at this
def cH:List Val->List Val->Int
 | [],[]=>0
 | [],_::_=> -1
 | _::_,[]=>1
 | a::l,b::m=>if bM a b=0 then cH l m else bM a b
theorem Fs (l m:List Val)(k:Nat)(h1:k < l.length)(h2:k < m.length):cH (l.drop k) (m.drop k)=if bM l[k] m[k]=0 then cH (l.drop (k+1)) (m.drop (k+1))else bM l[k] m[k]:=by rw[drop_eq_getElem_cons h1,drop_eq_getElem_cons h2];rfl
theorem Fu (l m:List Val)(k:Nat)(h1:k < l.length)(h2:m.length<=k):cH (l.drop k) (m.drop k)=1:=by exact Zhm
theorem Fv (l m:List Val)(k:Nat)(h2:l.length<=k)(h1:k < m.length):cH (l.drop k) (m.drop k)= -1:=by exact Zhm
theorem KJ (l m:List Val)(k:Nat)(h1:l.length<=k)(h2:m.length<=k):cH (l.drop k) (m.drop k)=0:=by rw[drop_eq_nil_of_le h1,drop_eq_nil_of_le h2];rfl
theorem zC (A:Option Addr)(c:Nat)(l:List Val)(A':Option Addr)(c':Nat)(l':List Val)(w:World)(h:RV w w.heap.size A l)(h':RV w w.heap.size A' l')(hm:l.length<=1000)(hm':l'.length<=1000):
  ar 40 #[.slice A l.length c,.slice A' l'.length c',.func (.func 18) #[] #[]] w λ e w'=>e=.returned (af (cH l l'))/\aj w w':=by
 have HR:=aa h;have HR':=aa h';clear h h';go_enter Tryz.func40,Tryz.ntmps40;go_wp2_with fail;go_loopw [13] (λ i wr=>∃k:Nat,k<=l.length/\k<=l'.length/\i=af k/\cH (l.drop k) (l'.drop k)=cH l l'/\aj w wr) (λ i _=>l.length - (intOf i).toNat);case atStart=>exact Zhg
 case round=>
  obtain⟨k,hk,Rv,rfl,hd,hB⟩:=hrel;have HD:=aa hd;clear hd;by_cases hlt:k < l.length
  ·obtain⟨b,off,rfl,hb,c0,c1,c2⟩:=(HR.ae.below hB).at_ hlt;by_cases Bq:k < l'.length
   ·have HS:=aa (Fs l l' k hlt Bq);have b1:=ah wr (.cells #[ag l[k].k,af l[k].n,.string l[k].s] 44);have hV:=aB.new wr 44 #[ag l[k].k,af l[k].n,.string l[k].s];generalize l[k]=v at*;go_upto_region 6 with fail;clear c0 c1 c2;replace hB:=ai.then hB b1;generalize wr.alloc (.cells (aD v) 44)=W1 at*;obtain⟨b',off',rfl,hb',c0',c1',c2'⟩:=(HR'.ae.below hB).at_ Bq;have b2:=ah W1 (.cells #[ag l'[k].k,af l'[k].n,.string l'[k].s] 44);have hV':=aB.new W1 44 #[ag l'[k].k,af l'[k].n,.string l'[k].s];generalize l'[k]=v' at*;go_upto_region 7 with fail;clear c0' c1' c2';replace hB:=ai.then hB b2;replace hV:=hV.later b2;generalize W1.alloc (.cells (aD v') 44)=W2 at*;obtain⟨x0,x1,x2⟩:=aG hV;obtain⟨y0,y1,y2⟩:=aG hV';go_wp2_with fail;refine(ee v v' _).mono ?_;rintro e w3 ⟨rfl,b3⟩;replace hB:=ai.then hB b3;clear x0 x1 x2 y0 y1 y2 hV hV' b1 b2 b3;exact ZbL
   ·have HS:=aa (Fu l l' k hlt WC);have b1:=ah wr (.cells #[ag l[k].k,af l[k].n,.string l[k].s] 44);generalize l[k]=v at*;go_wp2_with fail;go_ret;exact⟨by rw[<- HD.ae,HS.ae];rfl,ai.then hB b1⟩
  ·by_cases Bq:k < l'.length
   ·have HS:=aa (Fv l l' k WC Bq);exact ZcY
   ·have HS:=aa (KJ l l' k WC WC);exact ZcY
theorem KL (A:Option Addr)(c:Nat)(l:List Val)(A':Option Addr)(c':Nat)(l':List Val)(w:World)(h:RV w w.heap.size A l)(h':RV w w.heap.size A' l')(hm:l.length<=1000)(hm':l'.length<=1000):
  ar 14 #[.slice A l.length c,.slice A' l'.length c'] w λ e w'=>e=.returned (af (cH l l'))/\aj w w':=by have HL:=zC A c l A' c' l' w h h' hm hm';clear h h';go_enter Tryz.func14,Tryz.ntmps14;go_wp2_with fail;refine HL.mono ?_;exact ZcT
structure aX where
 A:Option Addr
 l:List Val
 c:Nat
def aX.v (r:aX):Value:=.slice r.A r.l.length r.c
def RR (w:World)(B:Nat)(A:Option Addr)(rs:List aX):Prop:=
 rs=[]\/∃b off,A=some ⟨b,off,none⟩/\b < B/\∀i r,rs[i]?=some r->w.cell? ⟨b,off+i,none⟩=some (.slice r.A r.l.length r.c)/\RV w B r.A r.l
variable{w':World}{B:Nat}{rs:List aX}
theorem RR.below{w:World}  {A:Option Addr} (h:RR w B A rs)(hb:Below B w w'):RR w' B A rs:=by
 rcases h with h |⟨b,off,h1,h2,h3⟩
 ·exact .inl h
 ·exact .inr ⟨b,off,h1,h2,λ i x hx=>⟨(hb.cell (p:=⟨b,off+i,none⟩) h2).trans (h3 i x hx).1,(h3 i x hx).2.below hb⟩⟩
variable{k:Nat}
theorem RR.at_{w:World}  {A:Option Addr} (h:RR w B A rs) (hk:k < rs.length):∃b off,A=some ⟨b,off,none⟩/\b < B/\w.cell? ⟨b,off+k,none⟩=some (.slice rs[k].A rs[k].l.length rs[k].c)/\RV w B rs[k].A rs[k].l:=by
 rcases h with h |⟨b,off,h1,h2,h3⟩
 ·subst h;simp at hk
 ·obtain⟨h4,h5⟩:=h3 k _ (getElem?_eq_getElem hk);exact⟨b,off,h1,h2,h4,h5⟩
theorem xm:∀x y:List Val,cH x y= -(cH y x)
 | [],[]=>rfl
 | [],_::_=>rfl
 | _::_,[]=>rfl
 | a::x,b::y=>by have h:=jD.jn a b;have ih:=xm x y;unfold cH;split <;> split <;> omega
theorem Br:∀x y z:List Val,cH x y<=0->cH y z<=0->cH x z<=0
 | [],_,[],_,_=>by decide
 | [],_,_::_,_,_=>by simp[cH]
 | _::_,[],_,h,_=>by simp[cH] at h
 | _::_,_::_,[],_,h=>by simp[cH] at h
 | a::x,b::y,c::z,h1,h2=>by
   unfold cH at h1 h2 ⊢;have a1:bM a b<=0:=by split at h1 <;> omega
   have a2:bM b c<=0:=by split at h2 <;> omega
   have a3:=jD.trans a b c a1 a2;split
   ·rename_i h0;have e:=Fp h0;subst e;have e2:=jD.jn b a;have z1:bM a b=0:=by omega
    have z2:bM b a=0:=by omega
    rw[if_pos z1] at h1;rw[if_pos z2] at h2;exact Br x y z h1 h2
   ·exact a3
theorem jE:Good cH:=⟨xm,Br⟩
theorem xo (x:List Val):cH x x=0:=by have:=xm x x;omega
theorem iP:∀x y:List Val,cH x y=0->x=y
 | [],[],_=>rfl
 | [],_::_,h=>by simp[cH] at h
 | _::_,[],h=>by simp[cH] at h
 | a::x,b::y,h=>by
   unfold cH at h;split at h
   ·rename_i h0;rw[Fp h0,iP x y h]
   ·rename_i h0;exact absurd h h0
theorem KM (l:List Val):(l.flatMap aV).length=l.length*3:=by
 induction l with
 | nil=>rfl
 | cons v l ih=>simp only[flatMap_cons,length_append,ih,length_cons];simp[aV];omega
theorem KN:∀(l:List Val) (j:Nat),(l.flatMap aV)[j]?=(l[j / 3]?).bind λ v=>(aV v)[j % 3]?
 | [],j=>by simp
 | v::l,j=>by
   rw[flatMap_cons];by_cases h:j < 3
   ·rw[getElem?_append_left (by simpa [aV] using h),Nat.div_eq_of_lt h,Nat.mod_eq_of_lt h];simp
   ·have h3:(aV v).length=3:=rfl;rw[getElem?_append_right WC,h3,KN l (j - 3)];have e1:j / 3=(j - 3)/ 3+1:=by omega
    have e2:j % 3=(j - 3)% 3:=by omega
    rw[e1,e2,getElem?_cons_succ]
theorem RV.reads{w:World}  {A:Option Addr} {l:List Val}(h:RV w B A l):Reads w B 3 A l.length (l.flatMap aV):=by
 refine⟨KM l,λ hn=>?_⟩;rcases h with h |⟨b,off,rfl,h2,h3⟩
 ·subst h;simp at hn
 ·refine⟨⟨b,off,none⟩,rfl,h2,λ j u hu=>?_⟩;rw[KN] at hu
  cases hv:l[j / 3]? with
  | none=>rw[hv] at hu;cases hu
  | some v=>
    rw[hv] at hu;have hu:(aV v)[j % 3]?=some u:=hu;obtain⟨c0,c1,c2⟩:=h3 (j / 3) v hv;rw[dQ];have hj:j=j / 3*3+j % 3:=by omega
    have hlt:j % 3 < 3:=Nat.mod_lt _ WC;generalize j % 3=r at*;rw[hj]
    match r,hlt with
    | 0,_=>simp[aV] at hu;subst hu;simpa using c0
    | 1,_=>simp[aV] at hu;subst hu;rw[<- Nat.add_assoc];exact c1
    | 2,_=>simp[aV] at hu;subst hu;rw[<- Nat.add_assoc];exact c2
def RN (w:World)(g:Nat)(r:aX):Prop:=
 r.l=[]\/∃b off,r.A=some ⟨b,off,none⟩/\b < w.heap.size/\b≠g/\∀i x,r.l[i]?=some x->ei w b (off+i*3) x
def At (w:World)(g n:Nat)(D:Nat->aX):Prop:=∃cs,aB w g 38 cs/\n<=cs.size/\∀i,i < n->cs[i]?=some (D i).v
def swp (D:Nat->aX)(i j:Nat):Nat->aX:=λ k=>if k=j then D i else if k=i then D j else D k
structure SS (w0:World) (g n:Nat) (w:World) (D:Nat->aX):Prop where
 at_:At w g n D
 grown:w0.grownBy w (some g)
 rows:∀k,k < n->RN w0 g (D k)/\(D k).l.length<=1000
def jt (D:Nat->aX)(a b c:Nat):Nat->aX:=λ k=>if a<=k/\k < a+c then D (k - a+b)else if b<=k/\k < b+c then D (k - b+a)else D k
def Bt (w0:World)(g n:Nat)(D:Nat->aX)(e:Ending)(w':World):Prop:=e=.returned (.tuple #[])/\SS w0 g n w' D
def bc (D:Nat->aX)(s m e:Nat):Nat->aX:=λ k=>if s<=k/\k < e then(if k < s+(e - m)then D (k+(m - s))else D (k - (e - m)))else D k
def lt (x y:aX):Prop:=cH x.l y.l < 0
def le (x y:aX):Prop:=cH x.l y.l<=0
def cD (D:Nat->aX)(a b:Nat):Prop:=∀i j,a<=i->i < j->j < b->le (D i) (D j)
inductive Sw (a b:Nat) (D:Nat->aX):(Nat->aX)->Prop
 | refl:Sw a b D D
 | step {E:Nat->aX} {i j:Nat}:Sw a b D E->a<=i->i < b->a<=j->j < b->Sw a b D (swp E i j)
def Ins (E:Nat->aX)(a i j:Nat):Prop:=(∀p q,a<=p->p < q->q<=i->p≠j->q≠j->le (E p) (E q))/\∀q,j < q->q<=i->le (E j) (E q)
def zD (D:Nat->aX)(a k:Nat):Nat->aX:=λ x=>if a<=x/\x < k then D (x+1)else if x=k then D a else D x
def Bu (D:Nat->aX)(k m:Nat):Nat->aX:=λ x=>if x=k then D m else if k < x/\x<=m then D (x - 1)else D x
structure yF (a m b mid s0 r0:Nat):Prop where
 ab:a < m/\m < b
 asM:mid=(a+b)/ 2
 ends:(m > mid/\s0=mid+m - b/\r0=mid)\/(m<=mid/\s0=a/\r0=m)
theorem at_root{w:World} :∀ {t:Tr} {y:Ex},t.at_ w S y->y.op=t.op/\y.v=t.v/\y.name=t.name
 | .mk op v name width args,y,h=>by unfold Tr.at_ at h;exact⟨h.1,h.2.1,h.2.2.1⟩
def mn (y:Ex):Value:=.agg (ay y)
mutual
theorem Tr.tell {α:Type}(f:Tr->α)(P:Tr->Prop)(C:World->Ex->α->Prop)(hP:∀op v name width ts,P (.mk op v name width ts)->∀t∈ts,P t)
  (step:∀(op:Int) (v:Val) (name:ByteArray) (width:Int) (ts:List Tr) (A:Option Addr) (c:Nat) (args:List (Ex×α)) (w:World),(Tr.mk op v name width ts).ok->P (.mk op v name width ts)->args.length=ts.length->args.map (·.2)=ts.map f->RE w w.heap.size A (args.map (·.1))->Tr.aO w (Old w) ts (args.map (·.1))->(∀a∈args,∀W,aj w W->C W a.1 a.2)->C w ⟨op,v,name,width,A,args.length,c⟩ (f (.mk op v name width ts))):
  ∀(t:Tr) (y:Ex) (w:World),t.ok->P t->t.at_ w (Old w) y->∀W,aj w W->C W y (f t)
 | .mk op v name width ts,y,w,aZ,hp,hat,W,hW=>by
   have nN:=hat.later hW;unfold Tr.at_ at nN;obtain⟨h1,h2,h3,h4,h5,ys,h6,h7⟩:=nN;have YI:=aZ;unfold Tr.ok at YI;obtain⟨l,ft,hl2,tT⟩:=Tr.tells f P C hP step ts ys W YI.2.2.2.2.2 (hP op v name width ts hp) h7;obtain⟨JL,yv,kS,gO,yA,yn,yc⟩:=y;dsimp only at h1 h2 h3 h4 h5 h6;subst h1 h2 h3 h4 h5;have hlen:l.length=ts.length:=by
    have:(l.map (·.1)).length=ys.length:=by rw[ft]
    rw[length_map,h7.length] at this;exact this
   have k:=step JL yv kS gO ts yA yc l W aZ hp hlen hl2 Tbc (by rw[ft];exact h7) tT;rw[hlen] at k;exact k
theorem Tr.tells {α:Type}(f:Tr->α)(P:Tr->Prop)(C:World->Ex->α->Prop)(hP:∀op v name width ts,P (.mk op v name width ts)->∀t∈ts,P t)
  (step:∀(op:Int) (v:Val) (name:ByteArray) (width:Int) (ts:List Tr) (A:Option Addr) (c:Nat) (args:List (Ex×α)) (w:World),(Tr.mk op v name width ts).ok->P (.mk op v name width ts)->args.length=ts.length->args.map (·.2)=ts.map f->RE w w.heap.size A (args.map (·.1))->Tr.aO w (Old w) ts (args.map (·.1))->(∀a∈args,∀W,aj w W->C W a.1 a.2)->C w ⟨op,v,name,width,A,args.length,c⟩ (f (.mk op v name width ts))):
  ∀(ts:List Tr) (ys:List Ex) (w:World),Tr.cL ts->(∀t∈ts,P t)->Tr.aO w (Old w) ts ys->∃l:List (Ex×α),l.map (·.1)=ys/\l.map (·.2)=ts.map f/\∀a∈l,∀W,aj w W->C W a.1 a.2
 | [],ys,w,_,_,hat=>by unfold Tr.aO at hat;subst hat;exact⟨[],rfl,rfl,by simp⟩
 | t::ts,ys,w,aZ,hp,hat=>by
   unfold Tr.aO at hat;unfold Tr.cL at aZ;obtain⟨y,ys',rfl,h2,h3⟩:=hat;obtain⟨l,ft,hl2,tT⟩:=Tr.tells f P C hP step ts ys' w aZ.2 (λ x hx=>hp x Tbf) h3;refine⟨(y,f t)::l,by simp[ft],by simp[hl2],λ a ha W hW=>?_⟩;rcases List.mem_cons.1 ha with rfl | ha
   ·exact Tr.tell f P C hP step t y w aZ.1 (hp t Tac) h2 W hW
   ·exact tT a ha W hW
end
structure gJ (w:World) (ts:List Tr) (A:Option Addr) (n:Nat):Prop where
 n:n=ts.length
 lies:∃ys,Yj w (Old w) A ys/\Tr.aO w (Old w) ts ys
variable{ts:List Tr}
theorem gJ.later{w:World}  {A:Option Addr} {n:Nat}(h:gJ w ts A n)(hb:aj w w'):gJ w' ts A n:=by obtain⟨h1,ys,h2,h3⟩:=h;exact⟨h1,ys,h2.keep λ b hS=>⟨λ o=>hb.cell (p:=⟨b,o,none⟩) hS,Nat.lt_of_lt_of_le hS hb.size⟩,h3.later hb⟩
def RI (w:World)(B:Nat)(A:Option Addr)(l:List (Ex×Value)):Prop:=
 l=[]\/∃b off,A=some ⟨b,off,none⟩/\b < B/\∀i x,l[i]?=some x->cw w b (off+i*8) x.1/\w.cell? ⟨b,off+i*8+7,none⟩=some x.2
theorem RI.below{w:World}  {A:Option Addr} {l:List (Ex×Value)}(h:RI w B A l)(hb:Below B w w'):RI w' B A l:=by
 rcases h with h |⟨b,off,h1,h2,h3⟩
 ·exact .inl h
 ·exact .inr ⟨b,off,h1,h2,λ i x hx=>⟨(h3 i x hx).1.keep λ o=>hb.cell (p:=⟨b,o,none⟩) h2,(hb.cell (p:=⟨b,off+i*8+7,none⟩) h2).trans (h3 i x hx).2⟩⟩
variable{B':Nat}
theorem RI.more{w:World}  {A:Option Addr} {l:List (Ex×Value)}(h:RI w B A l)(hB:B<=B'):RI w B' A l:=by
 rcases h with h |⟨b,off,h1,h2,h3⟩
 ·exact .inl h
 ·exact .inr ⟨b,off,h1,Nat.lt_of_lt_of_le h2 hB,h3⟩
theorem RI.later{w:World} {A:Option Addr} {l:List (Ex×Value)}(h:RI w w.heap.size A l)(hb:aj w w'):RI w' w'.heap.size A l:=(h.below hb).more hb.size
theorem RI.at_{w:World}  {A:Option Addr} {l:List (Ex×Value)}(h:RI w B A l) (hk:k < l.length):∃b off,A=some ⟨b,off,none⟩/\b < B/\cw w b (off+k*8) l[k].1/\w.cell? ⟨b,off+k*8+7,none⟩=some l[k].2:=by
 rcases h with h |⟨b,off,h1,h2,h3⟩
 ·subst h;simp at hk
 ·exact⟨b,off,h1,h2,h3 k l[k] (getElem?_eq_getElem hk)⟩
structure eP (w:World) (l:List (Tr×Value)) (A:Option Addr) (n:Nat):Prop where
 n:n=l.length
 lies:∃ys:List (Ex×Value),RI w w.heap.size A ys/\ys.map (·.2)=l.map (·.2)/\Tr.aO w (Old w) (l.map (·.1)) (ys.map (·.1))
theorem eP.later{w:World} {l:List (Tr×Value)} {A:Option Addr} {n:Nat}(h:eP w l A n)(hb:aj w w'):eP w' l A n:=by obtain⟨h1,ys,h2,h3,h4⟩:=h;exact⟨h1,ys,h2.later hb,h3,h4.later hb⟩
theorem jX{p:Nat} {a b:World}(h:a.grownBy b (some p))(o:Obj):a.grownBy (b.alloc o) (some p):=by
 refine⟨h.os,h.tape,h.output,?_,λ k hk hne=>?_⟩
 ·have:=h.size;simp;omega
 ·rw[Below.heap_alloc b o k (Nat.lt_of_lt_of_le hk h.size)];exact h.block k hk hne
theorem RT (x y c:Int)(hx:0<=x)(hy:0<=y)(hc0:0<=c)(hc:c<=1)(w:World):(callFunc 205 #[.int .u64 x,.int .u64 y,.int .u64 c]).run Tryz.prog w=.ok (.value (.tuple #[.int .u64 (lo (x+y+c)),.int .u64 (hi (x+y+c))])) w:=by rw[run_callFunc_extern Tryz.func205 Va Va Va (e:=add64Entry) Va,run_add64 x y c hx hy hc0 hc];rfl
theorem YJ (a b:Int):0<=lT a b/\lT a b < M*M:=by unfold lT M;omega
theorem YK (a b:Int)(ha0:0<=a)(ha:a < M*M)(hb0:0<=b)(hb:b < M*M):
  Value.agg #[.int .u64 (lo (hi a+hi b+hi (lo a+lo b+0))),.int .u64 (lo (lo a+lo b+0))]=wv (lT a b):=by
 have e1:lo (hi a+hi b+hi (lo a+lo b+0))=hi (lT a b):=by unfold lT hi lo M at*;omega
 have e2:lo (lo a+lo b+0)=lo (lT a b):=by unfold lT lo M;omega
 unfold wv;rw[e1,e2]
theorem YL (a b:Int)(ha0:0<=a)(ha:a < M*M)(hb0:0<=b)(hb:b < M*M)(w:World):
  ar 190 #[.agg #[.int .u64 (hi a),.int .u64 (lo a)],.agg #[.int .u64 (hi b),.int .u64 (lo b)]] w λ e w'=>e=.returned (wv (lT a b))/\aj w w':=by
 rw[<- YK a b ha0 ha hb0 hb];have q1:=sj a;have q2:=sj b;have q3:=sk ha0;have q4:=sk hb0;have q5:0<=hi (lo a+lo b+0)/\hi (lo a+lo b+0)<=1:=by have:=RO a;have:=RO b;unfold hi M at*;omega
 have l1:=λ w=>RT (lo a) (lo b) 0 q1 q2 WC WC w
 have l2:=λ w=>RT (hi a) (hi b) (hi (lo a+lo b+0)) q3 q4 q5.1 q5.2 w
 clear q1 q2 q3 q4 q5 ha0 ha hb0 hb;generalize lo (lo a+lo b+0)=x1 at*;generalize hi (lo a+lo b+0)=x2 at*;generalize lo (hi a+hi b+x2)=x3 at*;generalize hi (hi a+hi b+x2)=x4 at*;generalize lo a=la at*;generalize lo b=lb at*;generalize hi a=ha at*;generalize hi b=hb at*;go_enter Tryz.func190,Tryz.ntmps190;go_wp2;exact bodyPost_ret (v:=.agg #[.int .u64 x3,.int .u64 x1]) (by simp[results,Tryz.results190,go_sem]) rfl ⟨rfl,by go_grown⟩
theorem agP (x y:Int)(w:World):ar 47 #[aI w.heap.size 2 2] (w.alloc (.cells #[af x,af y] 3)) λ e w'=>
  e=.returned (af (ou x y))/\w'=w.alloc (.cells #[af x,af y] 3):=by
 unfold ou;have q1:∀u:Int,u≠0->((u != 0)=true):=λ u h=>by simp[h]
 by_cases h1:x=0
 ·subst h1;by_cases h2:y=0
  ·subst h2;go_enter Tryz.func47,Tryz.ntmps47;go_wp2;refine wp_loop_rounds 3 ?_;iterate 3 (rw[rounds_succ];go_wp2)
   exact Zbt
  ·have:=q1 y h2;go_enter Tryz.func47,Tryz.ntmps47;go_wp2;refine wp_loop_rounds 3 ?_;iterate 2 (rw[rounds_succ];go_wp2)
   exact Zbt
 ·have:=q1 x h1;go_enter Tryz.func47,Tryz.ntmps47;go_wp2;refine wp_loop_rounds 3 ?_;rw[rounds_succ];exact Zfs
theorem cC.free{w:World} {p:Nat} (h:cC w p s)(i:Nat):w.frozen? ⟨p,i,none⟩=false:=aB.frozen h i
variable{W:World}
theorem sw{p:Nat}  {a b:Val}(h:cC W p s):cC ((((((((W.setCell ⟨p,5,none⟩ (ag a.k)).setCell ⟨p,6,none⟩ (af a.n)).setCell ⟨p,7,none⟩ (.string a.s)).setCell ⟨p,8,none⟩ (ag b.k)).setCell ⟨p,9,none⟩ (af b.n)).setCell ⟨p,10,none⟩ (.string b.s)).setCell ⟨p,11,none⟩ (.bool true)).drew) p { s with a:=a,b:=b,found:=true }:=by
 have h1:=(((((((aB.aU h 5 (ag a.k)).aU 6 (af a.n)).aU 7 (.string a.s)).aU 8 (ag b.k)).aU 9 (af b.n)).aU 10 (.string b.s)).aU 11 (.bool true)).drew;have e:(((((((s.cells.setIfInBounds 5 (ag a.k)).setIfInBounds 6 (af a.n)).setIfInBounds 7 (.string a.s)).setIfInBounds 8 (ag b.k)).setIfInBounds 9 (af b.n)).setIfInBounds 10 (.string b.s)).setIfInBounds 11 (.bool true))=St.cells { s with a:=a,b:=b,found:=true }:=by simp[St.cells]
 rw[e] at h1;exact h1
variable{v5 v6 v7 v8 v9 v10 v11:Value}
theorem oP{w:World} {p:Nat} (h:w.grownBy W (some p)):w.grownBy (((((((W.setCell ⟨p,5,none⟩ v5).setCell ⟨p,6,none⟩ v6).setCell ⟨p,7,none⟩ v7).setCell ⟨p,8,none⟩ v8).setCell ⟨p,9,none⟩ v9).setCell ⟨p,10,none⟩ v10).setCell ⟨p,11,none⟩ v11) (some p):=
 aC (aC (aC (aC (aC (aC (aC h 5 _) 6 _) 7 _) 8 _) 9 _) 10 _) 11 _
theorem KO (p:Nat)(s:St)(a b:Val)(w:World)(h:cC w p s):
  ar 194 #[aw p,.agg (aD a),.agg (aD b)] w λ e w'=>
   e=.returned (.tuple #[])/\cC w' p (s.take a b)/\w.grownBy w' (some p):=by
 have HT:eZ (s.take a b=if s.better a b then { s with a:=a,b:=b,found:=true } else s):=rfl;have hr:=Ib b s.b;have hr2:=Ib a s.a;have hcv: -1<=s.rank a b/\s.rank a b<=1:=by unfold St.rank ou;split <;> assumption
 obtain⟨op,all,count,sum,sa,sb,found⟩:=s;go_enter Tryz.func194,Tryz.ntmps194;go_wp2_with fail;have hS:cC ((w.alloc (.cells (aD a) 44)).alloc (.cells (aD b) 44)) p _:=(aB.alloc h _).alloc _;have hA:=(aB.new w 44 (aD a)).alloc (.cells (aD b) 44);have hB:=aB.new (w.alloc (.cells (aD a) 44)) 44 (aD b);have hg:w.grownBy ((w.alloc (.cells (aD a) 44)).alloc (.cells (aD b) 44)) (some p):=jX (jX (aR (Below.refl _ _)) _) _;rw[World.size_alloc] at hB;have hp1:p≠w.heap.size:=by have:=aB.lt h;omega
 have DO:p≠w.heap.size+1:=by have:=aB.lt h;omega
 clear h;generalize (w.alloc (.cells (aD a) 44)).alloc (.cells (aD b) 44)=W at*;have cS:=λ y2:Ext W.heap.size W=>cC.gQ (aB.later hS y2.h)
 have cA:=λ y2:Ext W.heap.size W=>aG (hA.later y2.h)
 have cB:=λ y2:Ext W.heap.size W=>aG (hB.later y2.h)
 refine aM 12 W.heap.size W (Below.refl _ _) Va Va Va Va ?_;simp only[Uab];repeat (go_big_quiet_step (first
  |(go_at_call_of 18 b.k;exact aH (Nat.le_refl _) (ee b sb _))
  |(go_at_call_of 18 a.k;exact aH (Nat.le_refl _) (ee a sa _))))
 refine wpQuiet_nil ?_;rintro w3 ⟨y2,fP⟩;have hL:=y2.h;rw[<- fP] at hL;clear cS cA cB fP y2;have RU:=aB.later hS hL;have Al:=hA.later hL;have eD:=hB.later hL;have hg2:=aY hg (aR (p:=p) hL);clear hS hA hB hg hL;go_wp2_with fail;refine(agP _ _ _).mono ?_;rintro e w' ⟨rfl,rfl⟩;have hS:=aB.alloc RU (.cells #[af (bM b sb),af (bM a sa)] 3);have hA:=aB.alloc Al (.cells #[af (bM b sb),af (bM a sa)] 3);have hB:=aB.alloc eD (.cells #[af (bM b sb),af (bM a sa)] 3);have hg:=jX hg2 (.cells #[af (bM b sb),af (bM a sa)] 3);clear RU Al eD hg2;have HR:=aa (show St.rank ⟨op,all,count,sum,sa,sb,found⟩ a b=ou (bM b sb) (bM a sa)from rfl);rw[HR.ae] at hcv;generalize w3.alloc (.cells #[af (bM b sb),af (bM a sa)] 3)=W3 at*;generalize ou (bM b sb) (bM a sa)=rk at*;have cS:=cC.gQ hS;have cA:=aG hA;have cB:=aG hB;have fr:=cC.free hS;have HB:=aa (show St.better ⟨op,all,count,sum,sa,sb,found⟩ a b=(!found || decide ((if op=25\/op=28 then -(St.rank ⟨op,all,count,sum,sa,sb,found⟩ a b)else St.rank ⟨op,all,count,sum,sa,sb,found⟩ a b)< 0))from rfl);by_cases hop:op=25\/op=28
 ·have hor:((op==25)=true)\/((op==25)=false/\(op==28)=true):=by
   by_cases h25:op=25
   ·exact .inl (by rw[h25];rfl)
   ·exact .inr ⟨by rw[beq_eq_false_iff_ne];exact h25,by rw[beq_iff_eq];omega⟩
  cases found
  ·rcases hor with o1 |⟨o1,o2⟩;all_goals
    go_wp2_with fail;go_region;go_wp2_with fail;go_end0;rw[HT.ae,if_pos (by rw[HB.ae];rfl)];exact⟨rfl,sw hS,lL (oP hg)⟩
  ·by_cases hlt: -rk < 0
   ·have q1:decide (-rk < 0)=true:=by simpa using hlt
    rcases hor with o1 |⟨o1,o2⟩;all_goals
     go_wp2_with fail;go_region;go_wp2_with fail;go_end0;rw[HT.ae,if_pos (by rw[HB.ae,HR.ae,if_pos hop,q1];rfl)];exact⟨rfl,sw hS,lL (oP hg)⟩
   ·have q1:decide (-rk < 0)=false:=by simpa using hlt
    rcases hor with o1 |⟨o1,o2⟩;all_goals
     go_wp2_with fail;go_end0;rw[HT.ae,if_neg (by rw[HB.ae,HR.ae,if_pos hop,q1];decide)];exact⟨rfl,hS,hg⟩
 ·have o1:(op==25)=false:=by rw[beq_eq_false_iff_ne];omega
  have o2:(op==28)=false:=by rw[beq_eq_false_iff_ne];omega
  cases found
  ·go_wp2_with fail;go_region;go_wp2_with fail;go_end0;rw[HT.ae,if_pos (by rw[HB.ae];rfl)];exact⟨rfl,sw hS,lL (oP hg)⟩
  ·by_cases hlt:rk < 0
   ·have q1:decide (rk < 0)=true:=by simpa using hlt
    go_wp2_with fail;go_region;go_wp2_with fail;go_end0;rw[HT.ae,if_pos (by rw[HB.ae,HR.ae,if_neg hop,q1];rfl)];exact⟨rfl,sw hS,lL (oP hg)⟩
   ·have q1:decide (rk < 0)=false:=by simpa using hlt
    go_wp2_with fail;go_end0;rw[HT.ae,if_neg (by rw[HB.ae,HR.ae,if_neg hop,q1];decide)];exact⟨rfl,hS,hg⟩
theorem abI{p:Nat} (h:cC W p s)(n:Int):cC (W.setCell ⟨p,1,none⟩ (af n)) p { s with all:=n }:=by
 have h1:=aB.aU h 1 (af n);have e:s.cells.setIfInBounds 1 (af n)=St.cells { s with all:=n }:=by simp[St.cells]
 rw[e] at h1;exact h1
theorem Fw{p:Nat} (h:cC W p s)(n:Int):cC (W.setCell ⟨p,2,none⟩ (af n)) p { s with count:=n }:=by
 have h1:=aB.aU h 2 (af n);have e:s.cells.setIfInBounds 2 (af n)=St.cells { s with count:=n }:=by simp[St.cells]
 rw[e] at h1;exact h1
theorem abJ{p:Nat} (h:cC W p s)(n:Int):cC ((W.setCell ⟨p,3,none⟩ (.int .u64 (hi n))).setCell ⟨p,4,none⟩ (.int .u64 (lo n))) p { s with sum:=n }:=by
 have h1:=(aB.aU h 3 (.int .u64 (hi n))).aU 4 (.int .u64 (lo n));have e:(s.cells.setIfInBounds 3 (.int .u64 (hi n))).setIfInBounds 4 (.int .u64 (lo n))=St.cells { s with sum:=n }:=by simp[St.cells]
 rw[e] at h1;exact h1
def boxed (w:World)(a b:Val):World:=(w.alloc (.cells (aD a) 44)).alloc (.cells (aD b) 44)
theorem nO{w:World} {p:Nat} (h:cC w p s)(a b:Val):cC (boxed w a b) p s:=(aB.alloc h _).alloc _
theorem vB (w:World)(a b:Val):aB (boxed w a b) w.heap.size 44 (aD a):=(aB.new w _ _).alloc _
theorem RX (w:World)(a b:Val):aB (boxed w a b) (w.heap.size+1) 44 (aD b):=by have:=aB.new (w.alloc (.cells (aD a) 44)) 44 (aD b);rw[World.size_alloc] at this;exact this
theorem iQ (w:World)(a b:Val)(p:Nat):w.grownBy (boxed w a b) (some p):=jX (jX (aR (Below.refl _ _)) _) _
theorem KP (p:Nat)(s:St)(a b:Val)(w:World)(h:cC w p s):
  ar 156 #[aw p,.agg (aD a),.agg (aD b)] w λ e w'=>
   e=.returned (.tuple #[])/\cC w' p s/\w.grownBy w' (some p):=by go_enter Tryz.func156,Tryz.ntmps156;go_wp2;go_end0;exact⟨rfl,nO h a b,iQ w a b p⟩
theorem YM (p:Nat)(s:St)(a b:Val)(w:World)(h:cC w p s)(h0:0<=s.count)(h1:s.count < 4611686018427387904):
  ar 158 #[aw p,.agg (aD a),.agg (aD b)] w λ e w'=>
   e=.returned (.tuple #[])/\cC w' p (s.some_ a)/\w.grownBy w' (some p):=by
 have hS:=nO h a b;have hA:=vB w a b;have cS:=(cC.gQ hS).2.2.1;have cA:=(aG hA).1;have fr:=cC.free hS 2;have hg:=iQ w a b p;by_cases hk:a.k=0
 ·have HT:=aa (show s.some_ a=s from if_pos hk);have t1:(a.k != 0)=false:=by simp[hk]
  unfold boxed at*;have HS:=aa hS;have HG:=aa hg;clear hS hA hg hk h;go_enter Tryz.func158,Tryz.ntmps158;go_wp2;exact Zfd
 ·have HT:=aa (show s.some_ a= { s with count:=s.count+1 } from if_neg hk);have t1:(a.k != 0)=true:=by simp[hk]
  unfold boxed at*;have HS:=aa hS;have HG:=aa hg;clear hS hA hg hk h;go_enter Tryz.func158,Tryz.ntmps158;go_wp2;go_end0;rw[HT.ae];exact⟨rfl,Fw HS.ae _,aC HG.ae 2 _⟩
theorem abK (p:Nat)(s:St)(a b:Val)(w:World)(h:cC w p s)(h0:0<=s.count)(h1:s.count < 4611686018427387904)(hs0:0<=s.sum)(hs1:s.sum < M*M)(JO: -9223372036854775808<=a.n)(vz:a.n<=9223372036854775807):
  ar 160 #[aw p,.agg (aD a),.agg (aD b)] w λ e w'=>
   e=.returned (.tuple #[])/\cC w' p (s.put a)/\w.grownBy w' (some p):=by
 have hS:=nO h a b;have hA:=vB w a b;have cS:=(cC.gQ hS).2.2.1;have cA:=(aG hA).1;have fr:=cC.free hS 2;have hg:=iQ w a b p;by_cases hk:a.k=2
 ·have HT:=aa (show s.put a= { s with count:=s.count+1,sum:=lT s.sum (fT a.n)} from if_pos hk);have t1:(a.k==2)=true:=by simp[hk]
  have RU:=Fw hS (s.count+1);have Al:=aB.far hA (p:=⟨p,2,none⟩) (λ e=>by have:=aB.lt h;simp at e;omega) (af (s.count+1));have hg2:=aC hg 2 (af (s.count+1));unfold boxed at*;have HS:=aa RU;have HA:=aa Al;have HG:=aa hg2;clear hS hA hg hk h RU Al hg2;go_enter Tryz.func160,Tryz.ntmps160;go_wp2_with fail;have hS:=HS.ae;have hA:=HA.ae;have hg:=HG.ae;clear HS HA HG cS cA fr;generalize (World.setCell _ ⟨p,2,none⟩ (af (s.count+1)))=W at*;have cS:=λ y2:Ext W.heap.size W=>cC.gQ (aB.later hS y2.h)
  have cA:=λ y2:Ext W.heap.size W=>aG (hA.later y2.h)
  have wb:=YJ 0 a.n;have hw0:0<=fT a.n:=by unfold fT M;omega
  have hw1:fT a.n < M*M:=by unfold fT M;omega
  refine aM 9 W.heap.size W (Below.refl _ _) Va Va Va Va ?_;simp only[Uab];repeat (go_big_quiet_step (first
   |(go_at_call 191;exact aH (Nat.le_refl _) (Fk a.n JO vz _))
   |(go_at_call 190;exact aH (Nat.le_refl _) (YL s.sum (fT a.n) hs0 hs1 hw0 hw1 _))))
  refine wpQuiet_nil ?_;rintro w3 ⟨y2,fP⟩;have hL:=y2.h;rw[<- fP] at hL;clear cS cA fP y2;have RU:=aB.later hS hL;have hg2:=aY hg (aR (p:=p) hL);have fr:=cC.free RU;have cS:=cC.gQ RU;unfold wv;go_wp2_with fail;go_end0;rw[HT.ae];exact⟨rfl,abJ RU _,aC (aC hg2 3 _) 4 _⟩
 ·have HT:=aa (show s.put a=s from if_neg hk);have t1:(a.k==2)=false:=by simp[hk]
  unfold boxed at*;have HS:=aa hS;have HG:=aa hg;clear hS hA hg hk h;go_enter Tryz.func160,Tryz.ntmps160;go_wp2_with fail;exact Zfd
theorem Um (p:Nat)(s:St)(a b:Val)(w:World)(h:cC w p s):
  ar 163 #[aw p,.agg (aD a),.agg (aD b)] w λ e w'=>
   e=.returned (.tuple #[])/\cC w' p (s.alone a)/\w.grownBy w' (some p):=by
 have hS:=nO h a b;have hA:=vB w a b;have cA:=aG hA;have hg:=iQ w a b p;by_cases hk:a.k=0
 ·have HT:=aa (show s.alone a=s from if_pos hk);have t1:(a.k != 0)=false:=by simp[hk]
  unfold boxed at*;have HS:=aa hS;have HG:=aa hg;clear hS hA hg hk h;go_enter Tryz.func163,Tryz.ntmps163;go_wp2_with fail;exact Zfd
 ·have HT:=aa (show s.alone a=s.take a aN from if_neg hk);have t1:(a.k != 0)=true:=by simp[hk]
  unfold boxed at*;have HS:=aa hS;have HG:=aa hg;clear hS hA hg hk h;go_enter Tryz.func163,Tryz.ntmps163;go_wp2_with fail;refine(KO p s a aN _ HS.ae).mono ?_;exact ZfU
theorem Un (p:Nat)(s:St)(a b:Val)(w:World)(h:cC w p s):
  ar 165 #[aw p,.agg (aD a),.agg (aD b)] w λ e w'=>
   e=.returned (.tuple #[])/\cC w' p (s.Bn a b)/\w.grownBy w' (some p):=by
 have hS:=nO h a b;have hA:=vB w a b;have hB:=RX w a b;have cA:=aG hA;have cB:=aG hB;have hg:=iQ w a b p;by_cases hk:b.k=2
 ·have HT:=aa (show s.Bn a b=s.take a b from if_pos hk);have t1:(b.k==2)=true:=by simp[hk]
  unfold boxed at*;have HS:=aa hS;have HG:=aa hg;clear hS hA hB hg hk h;go_enter Tryz.func165,Tryz.ntmps165;go_wp2_with fail;refine(KO p s a b _ HS.ae).mono ?_;exact ZfU
 ·have HT:=aa (show s.Bn a b=s from if_neg hk);have t1:(b.k==2)=false:=by simp[hk]
  unfold boxed at*;have HS:=aa hS;have HG:=aa hg;clear hS hA hB hg hk h;go_enter Tryz.func165,Tryz.ntmps165;go_wp2_with fail;exact Zfd
theorem Ow (w:World):(zeroValue 192).run Tryz.prog w=.ok (.agg #[.nilFunc,.nilFunc,af 0]) w:=by exact Zgn
theorem Fx (w:World)(g:Nat)(es:Array MapEntry)(c:Nat)(hg:w.heap[g]?=some (.map es c))(k:Int)(ok:Bool)(hf:Instr.findNow (.int .u8) (ag k) es.toList 0=some none):
  (Instr.lookup 193 (.map (some g)) (ag k) ok).run Tryz.prog w=.ok (if ok then .tuple #[.agg #[.nilFunc,.nilFunc,af 0],.bool false] else .agg #[.nilFunc,.nilFunc,af 0]) w:=by unfold Instr.lookup;simp only[Sem.run_bind,run_underlying Tryz.underlying193,Result.andThen_ok,MapKept.run_getObj_map hg,xe,Instr.findKey,run_underlying Tryz.underlying5,hf,Sem.run_pure,Ow]
theorem KQ (op:Int)(h:op < 21\/28 < op):Instr.findNow (.int .u8) (ag op) zB.toList 0=some none:=by
 simp only[zB,Instr.findNow,Instr.sameNow];have q:∀k:Int,21<=k->k<=28->(op==k)=false:=λ k h1 h2=>by rw[beq_eq_false_iff_ne];omega
 simp[q 21,q 22,q 23,q 24,q 25,q 26,q 27,q 28]
theorem xp (op:Int)(w:World):ar 146 #[ag op] w λ e w'=>e=.returned (.bool (isAgg op))/\aj w w':=by
 have hg:(w.alloc (.map zB 8)).heap[w.heap.size]?=some (.map zB 8):=heap_alloc_new w _;by_cases h:21<=op/\op<=28
 ·obtain⟨i,hi⟩:=Aj op h.1 h.2;have hl:=Ai _ _ _ _ hg op true i _ hi;have HT:=aa (show isAgg op=true by simp[isAgg,h.1,h.2]);unfold bU fn at hl;simp only[if_true] at hl;generalize pQ op=f1 at*;generalize vA op=f2 at*;generalize Ic op=f3 at*;clear hg hi h;go_enter Tryz.func146,Tryz.ntmps146;exact Zb7
 ·have hl:=Fx _ _ _ _ hg op true (KQ op WC);have HT:=aa (show isAgg op=false by simp[isAgg];omega);simp only[if_true] at hl;clear hg h;go_enter Tryz.func146,Tryz.ntmps146;exact Zb7
theorem agQ (x y z:Value)(w:World):(Instr.field 192 (.agg #[x,y,z]) 0).run Tryz.prog w=.ok x w:=by exact Zgn
theorem YN (x y z:Value)(w:World):(Instr.field 192 (.agg #[x,y,z]) 2).run Tryz.prog w=.ok z w:=by exact Zgn
def iA (op:Int):Int:=if isAgg op then Ic op else 0
theorem YO (op:Int)(w:World):ar 187 #[ag op] w λ e w'=>e=.returned (af (iA op))/\aj w w':=by
 have hg:(w.alloc (.map zB 8)).heap[w.heap.size]?=some (.map zB 8):=heap_alloc_new w _;by_cases h:21<=op/\op<=28
 ·obtain⟨i,hi⟩:=Aj op h.1 h.2;have hl:=Ai _ _ _ _ hg op false i _ hi;have HT:=aa (show iA op=Ic op by unfold iA;rw[if_pos (by simp[isAgg,h.1,h.2])]);unfold bU fn at hl;simp only[Bool.false_eq_true,if_false] at hl;generalize pQ op=f1 at*;generalize vA op=f2 at*;generalize Ic op=f3 at*;clear hg hi h;have f2':=YN;go_enter Tryz.func187,Tryz.ntmps187;exact Zb7
 ·have hl:=Fx _ _ _ _ hg op false (KQ op WC);have HT:=aa (show iA op=0 by unfold iA;rw[if_neg (by simp[isAgg];omega)]);simp only[Bool.false_eq_true,if_false] at hl;clear hg h;have f2':=YN;go_enter Tryz.func187,Tryz.ntmps187;exact Zb7
theorem Uo (op:Int):(fh op).cells= #[ag op,af 0,af 0,.int .u64 0,.int .u64 0,ag 0,af 0,.string ByteArray.empty,ag 0,af 0,.string ByteArray.empty,.bool false]:=by simp[fh,St.cells,aN,hi,lo]
def abL (op:Int)(w:World)(e:Ending)(w':World):Prop:=∃p,w.heap.size<=p/\e=.returned (.tuple #[aw p,af 0])/\cC w' p (fh op)/\aj w w'
theorem abM (op:Int)(w:World)(h:isAgg op=true):ar 100 #[ag op] w (abL op w):=by have H:=aa h;clear h;go_enter Tryz.func100,Tryz.ntmps100;go_wp2_with (go_at_call 146;refine(xp _ _).mono ?_;rintro e w1 ⟨rfl,b1⟩;rw[H.ae]);go_ret2;exact⟨w1.heap.size,b1.size,rfl,by unfold cC;rw[Uo];exact aB.new w1 _ _,b1.alloc b1.size _⟩
theorem YP (p:Nat)(s:St)(a b:Val)(w:World)(h:cC w p s)(ok:s.Ok)(ha:a.Ok):
  ar (pQ s.op) #[aw p,.agg (aD a),.agg (aD b)] w λ e w'=>
   e=.returned (.tuple #[])/\cC w' p (s.does a b)/\w.grownBy w' (some p):=by
 unfold pQ St.does;by_cases h1:s.op=21
 ·rw[if_pos h1,if_pos h1];exact KP p s a b w h
 ·rw[if_neg h1,if_neg h1];by_cases h2:s.op=22
  ·rw[if_pos h2,if_pos h2];exact YM p s a b w h ok.xj ok.Ie
  ·rw[if_neg h2,if_neg h2];by_cases h3:s.op=23\/s.op=26
   ·rw[if_pos h3,if_pos h3];exact abK p s a b w h ok.xj ok.Ie ok.abB ok.abC ha.1 ha.2
   ·rw[if_neg h3,if_neg h3];by_cases h4:s.op=24\/s.op=25
    ·rw[if_pos h4,if_pos h4];exact Um p s a b w h
    ·rw[if_neg h4,if_neg h4];exact Un p s a b w h
theorem Ef (args:Array Value)(w:World):(callFunc 156 args).run Tryz.prog w=.ok (.enter 156 args) w:=by exact Zgn
theorem Ox (args:Array Value)(w:World):(callFunc 158 args).run Tryz.prog w=.ok (.enter 158 args) w:=by exact Zgn
theorem Up (args:Array Value)(w:World):(callFunc 160 args).run Tryz.prog w=.ok (.enter 160 args) w:=by exact Zgn
theorem KR (args:Array Value)(w:World):(callFunc 163 args).run Tryz.prog w=.ok (.enter 163 args) w:=by exact Zgn
theorem KS (args:Array Value)(w:World):(callFunc 165 args).run Tryz.prog w=.ok (.enter 165 args) w:=by exact Zgn
theorem Oy (op:Int)(args:Array Value)(w:World):(callFunc (pQ op) args).run Tryz.prog w=.ok (.enter (pQ op) args) w:=by
 unfold pQ;split
 ·exact Ef args w
 ·split
  ·exact Ox args w
  ·split
   ·exact Up args w
   ·split
    ·exact KR args w
    ·exact KS args w
def RY (p:Nat)(op:Int)(a b:Val):Nat->World->Value->Prop
 | 0=>λ w v=>∃g,v=.map (some g)/\w.heap[g]?=some (.map zB 8)
 | 1=>λ _ v=>v=aw p
 | 2=>λ _ v=>v=aw p
 | 3=>λ _ v=>v=aw p
 | 4=>λ _ v=>v=ag op
 | 5=>λ _ v=>v=bU op
 | 6=>λ _ v=>v=fn (pQ op)
 | 7=>λ _ v=>v=aw p
 | 8=>λ _ v=>v=.agg (aD a)
 | 9=>λ _ v=>v=.agg (aD b)
 | _=>λ _ _=>True
theorem KT (p:Nat)(op:Int)(a b:Val)(i:Nat)(w w':World)(v:Value)(h:RY p op a b i w v)(hl:ai w w'):RY p op a b i w' v:=by unfold RY at*;exact Zdd
theorem YQ (p:Nat)(s:St)(a b:Val)(w:World)(h:cC w p s)(ok:s.Ok)(hall:s.all < 4611686018427387904)(ha:a.Ok):
  ar 103 #[aw p,.agg (aD a),.agg (aD b)] w λ e w'=>
   e=.returned (.tuple #[])/\cC w' p (s.feed a b)/\w.grownBy w' (some p):=by
 have hS:=nO h a b;have hA:=vB w a b;have hB:=RX w a b;have hg:=iQ w a b p;have cS:=(cC.gQ hS).2.1;have fr:=cC.free hS 1;have q0:=ok.alD;have q1:=hall;have hp:=aB.lt h;have RU:=abI hS (s.all+1);have Al:=aB.far hA (p:=⟨p,1,none⟩) (λ e=>by simp at e;omega) (af (s.all+1));have eD:=aB.far hB (p:=⟨p,1,none⟩) (λ e=>by simp at e;omega) (af (s.all+1));have hg2:=aC hg 1 (af (s.all+1));unfold boxed at*;have HS:=aa RU;have HA:=aa Al;have HB:=aa eD;have HG:=aa hg2;clear hS hA hB hg h RU Al eD hg2 hp;go_enter Tryz.func103,Tryz.ntmps103;go_wp2_with fail;have hS:=HS.ae;have hA:=HA.ae;have hB:=HB.ae;have hg:=HG.ae;clear HS HA HB HG cS fr;generalize (World.setCell _ ⟨p,1,none⟩ (af (s.all+1)))=W at*;refine bA 10 (RY p s.op a b) (KT p s.op a b) Va Va Va ?_ ?_
 ·simp only[take_succ_cons,take_zero];refine⟨ZcS,?_,?_,?_,?_,?_,?_,?_,?_,?_,trivial⟩
  ·intro ρ w3 hc hL hr;have h1:_=_:=hr.1;exact Zfp
  ·intro ρ w3 hc hL hr;have h1:_=_:=hr.1;exact ZcK
  ·intro ρ w3 hc hL hr;have h1:_=_:=hr.1;exact ZcK
  ·intro ρ w3 hc hL hr;have h1:_=_:=hr.1;have c0:=(cC.gQ (aB.later hS hL)).1;exact ZdM
  ·intro ρ w3 hc hL hr;obtain⟨g,h1,hgm⟩:∃g,ρ (.tmp 15)=.map (some g)/\w3.heap[g]?=some (.map zB 8):=hr.1;have h2:_=_:=hr.2.1;obtain⟨i,hi⟩:=Aj s.op ok.op0 ok.op1;exact Zfx
  ·intro ρ w3 hc hL hr;have h1:_=_:=hr.1;have hf:=agQ (fn (pQ s.op)) (fn (vA s.op)) (af (Ic s.op)) w3;exact Zhc
  ·intro ρ w3 hc hL hr;have h1:_=_:=hr.1;exact Zfp
  ·intro ρ w3 hc hL hr;have h1:_=_:=hr.1;have c0:=aG (hA.later hL);exact ZdM
  ·intro ρ w3 hc hL hr;have h1:_=_:=hr.1;have c0:=aG (hB.later hL);exact ZdM
 ·intro w3 hL;simp only[Uab];rintro _ ⟨g,rfl,hgm⟩ _ rfl _ rfl _ rfl _ rfl _ rfl _ rfl _ rfl _ rfl _ rfl;have RU:cC w3 p { s with all:=s.all+1 }:=aB.later hS hL;have hg2:=aY hg (aR (p:=p) hL);have ok2:St.Ok { s with all:=s.all+1 }:=⟨ok.op0,ok.op1,by show 0<=s.all+1;omega,by show s.all+1 < 4611686018427387905;omega,ok.xj,ok.Ie,ok.abB,ok.abC⟩;have hen:=Oy s.op;simp only[bD,Act.put,Uac,fn];go_wp2_with fail;refine(YP p { s with all:=s.all+1 } a b _ RU ok2 ha).mono ?_;rintro e w2 ⟨rfl,hs3,hg3⟩;go_wp2_with fail;go_end0;exact⟨rfl,hs3,aY hg2 hg3⟩
def fU:List Bool->Int
 | []=> -1
 | b::l=>if b=true then 0 else if fU l < 0 then -1 else fU l+1
theorem vC:∀l:List Bool, -1<=fU l
 | []=>by simp[fU]
 | b::l=>by
   have:=vC l;unfold fU;split
   ·omega
   ·split <;> omega
theorem xq:∀(l:List Bool) (k:Nat),(∀j,j < k->l.getD j false=false)->(fU l < 0↔fU (l.drop k)< 0)/\(0<=fU (l.drop k)->fU l=k+fU (l.drop k))
 | l,0,_=>by simp
 | [],k+1,_=>by simp[fU]
 | b::l,k+1,h=>by
   have h0:b=false:=h 0 WC;obtain⟨h1,h2⟩:=xq l k λ j hj=>h (j+1) WC
   have h3:=vC l;rw[drop_succ_cons];subst h0;have e:fU (false::l)=if fU l < 0 then -1 else fU l+1:=rfl
   rw[e];constructor
   ·rw[<- h1];split <;> omega
   ·intro h4;have h5:=h2 h4;rw[if_neg WC];omega
theorem vD{l:List Bool} (h:∀j,j < k->l.getD j false=false)(hk:l[k]?=some true):fU l=k:=by
 obtain⟨h1,h2⟩:=xq l k h;obtain⟨hlt,he⟩:=List.getElem?_eq_some_iff.1 hk;have e:fU (l.drop k)=0:=by rw[drop_eq_getElem_cons hlt,he];rfl
 have:=h2 WC;omega
theorem nP{l:List Bool}(h:∀j,j < l.length->l.getD j false=false):fU l= -1:=by obtain⟨h1,h2⟩:=xq l l.length h;rw[drop_length] at h1;have:=vC l;have:fU l < 0:=h1.2 (by simp[fU]);omega
theorem vE (l:List Bool):l.any id=decide (0<=fU l):=by
 induction l with
 | nil=>rfl
 | cons b l ih=>
   rw[any_cons,ih];have h:=vC l;cases b
   ·show decide (0<=fU l)=decide (0<=if fU l < 0 then -1 else fU l+1);split
    ·rw[decide_eq_false WC,decide_eq_false WC]
    ·rw[decide_eq_true WC,decide_eq_true WC]
   ·rfl
theorem RE.later{w:World} {A:Option Addr} {l:List Ex}(h:RE w w.heap.size A l)(hb:aj w w'):RE w' w'.heap.size A l:=(h.below hb).more hb.size
variable{α:Type}
theorem Bv{l:List (α×Bool)} (h:k < l.length):(l.map (·.2)).getD k false=l[k].2:=by rw[getD_eq_getElem?_getD,getElem?_map,getElem?_eq_getElem h];rfl
theorem Ii (A:Option Addr)(c:Nat)(args:List (Ex×Bool))(w:World)(hl:args.length<=1599289640356)(hA:RE w w.heap.size A (args.map (·.1)))(hE:∀a∈args,∀W,aj w W->ar 93 #[.agg (ay a.1)] W λ e w'=>e=.returned (.bool a.2)/\aj W w'):
  ar 150 #[.slice A args.length c,.func (.func 93) #[] #[]] w λ e w'=>e=.returned (af (fU (args.map (·.2))))/\aj w w':=by exact ZaM
theorem zE (A:Option Addr)(c:Nat)(args:List (Ex×Bool))(w:World)(hl:args.length<=1599289640356)(hA:RE w w.heap.size A (args.map (·.1)))(hE:∀a∈args,∀W,aj w W->ar 93 #[.agg (ay a.1)] W λ e w'=>e=.returned (.bool a.2)/\aj W w'):
  ar 147 #[.slice A args.length c,.func (.func 93) #[] #[]] w λ e w'=>e=.returned (.bool ((args.map (·.2)).any id))/\aj w w':=by have hi:=Ii A c args w hl hA hE;rw[vE];clear hA hE;go_enter Tryz.func147,Tryz.ntmps147;exact ZaZ
theorem zeP.Ka3(h:p:=by
 rw[<- hg] at HX ⊢;clear hg;have gZ:=HX.cell 0;simp only[Uaa] at gZ;cases Z7:isAgg op
 ·have HI:=aa (xp op);have HG:=aa Z7;clear Z7;go_wp2_with fail;refine(HI.ae _).mono ?_;rintro e w1 ⟨rfl,Kx⟩;rw[HG.ae];have c10:=(HX.later Kx).cell 6;simp only[Uaa] at c10;clear gZ;go_wp2_with fail;refine(zE A c args w1 hl (HA.ae.later Kx) (λ a ha W hW=>HE.ae a ha W (ai.then Kx hW))).mono ?_;rintro e w2 ⟨rfl,b2⟩;go_wp2_with fail;go_ret;exact⟨by rw[HG.ae,Bool.false_or,any_map];rfl,ai.then (ai.then HB.ae Kx) b2⟩
 ·have HI:=aa (xp op);have HG:=aa Z7;clear Z7;go_wp2_with fail;refine(HI.ae _).mono ?_;rintro e w1 ⟨rfl,Kx⟩;rw[HG.ae];go_wp2_with fail;go_ret;exact⟨by rw[HG.ae,Bool.true_or];rfl,ai.then HB.ae Kx⟩):p:=h
theorem YR (op:Int)(v:Val)(name:ByteArray)(width:Int)(A:Option Addr)(c:Nat)(args:List (Ex×Bool))(w:World)(hl:args.length<=1599289640356)(hA:RE w w.heap.size A (args.map (·.1)))(hE:∀a∈args,∀W,aj w W->ar 93 #[.agg (ay a.1)] W λ e w'=>e=.returned (.bool a.2)/\aj W w'):
  ar 93 #[.agg #[ag op,ag v.k,af v.n,.string v.s,.string name,af width,.slice A args.length c]] w λ e w'=>e=.returned (.bool (isAgg op ||(args.map (·.2)).any id))/\aj w w':=by
 have bb:=ah w (.cells #[.int .u8 op,.int .u8 v.k,.int .i64 v.n,.string v.s,.string name,.int .i64 width,.slice A args.length c] 46);have HX:=aB.new w 46 #[.int .u8 op,.int .u8 v.k,.int .i64 v.n,.string v.s,.string name,.int .i64 width,.slice A args.length c];have Uq:=hA.later bb;have hE1:=λ a (ha:a∈args) W (hW:Below (w.alloc (.cells #[.int .u8 op,.int .u8 v.k,.int .i64 v.n,.string v.s,.string name,.int .i64 width,.slice A args.length c] 46)).heap.size (w.alloc (.cells #[.int .u8 op,.int .u8 v.k,.int .i64 v.n,.string v.s,.string name,.int .i64 width,.slice A args.length c] 46)) W)=>hE a ha W (ai.then bb hW)
 have HA:=aa Uq;have HE:=aa hE1;clear hA hE Uq hE1;go_enter Tryz.func93,Tryz.ntmps93;have HB:=aa bb;clear bb;open zeP in exact ZcH
mutual
def Tr.has:Tr->Bool
 | .mk op v name width args=>isAgg op || Tr.Eg args
def Tr.Eg:List Tr->Bool
 | []=>false
 | t::ts=>t.has || Tr.Eg ts
end
theorem vF:∀ts:List Tr,(ts.map Tr.has).any id=Tr.Eg ts
 | []=>by simp[Tr.Eg]
 | t::ts=>by unfold Tr.Eg;rw[map_cons,any_cons,vF ts];rfl
def yG (w:World)(y:Ex)(b:Bool):Prop:=ar 93 #[mn y] w λ e w'=>e=.returned (.bool b)/\aj w w'
theorem Tr.agR (t:Tr)(y:Ex)(w:World)(aZ:t.ok)(hat:t.at_ w (Old w) y):∀W,aj w W->yG W y t.has:=
 Tr.tell Tr.has (λ _=>True) yG (λ _ _ _ _ _ _ _ _=>trivial) (λ op v name width ts A c args w aZ _ hlen hm hA hall hE=>by
  have YI:=aZ
  unfold Tr.ok at YI
  have h:=YR op v name width A c args w (by rw[hlen];exact YI.2.1) hA (λ a ha W hW=>hE a ha W hW)
  rw[hm,vF] at h
  unfold yG mn Tr.has
  exact h) t y w aZ trivial hat
theorem Ij (A:Option Addr)(c:Nat)(args:List ((Ex×Value)×Bool))(w:World)(hl:args.length<=1599289640356)(hA:RI w w.heap.size A (args.map (·.1)))(hE:∀a∈args,∀W,aj w W->ar 92 #[.agg #[ag a.1.1.op,ag a.1.1.v.k,af a.1.1.v.n,.string a.1.1.v.s,.string a.1.1.name,af a.1.1.width,.slice a.1.1.A a.1.1.n a.1.1.c,a.1.2]] W λ e w'=>e=.returned (.bool a.2)/\aj W w'):
  ar 145 #[.slice A args.length c,.func (.func 92) #[] #[]] w λ e w'=>e=.returned (af (fU (args.map (·.2))))/\aj w w':=by have HA:=aa hA;have HE:=aa hE;clear hA hE;go_enter Tryz.func145,Tryz.ntmps145;exact ZaQ
theorem zF (A:Option Addr)(c:Nat)(args:List ((Ex×Value)×Bool))(w:World)(hl:args.length<=1599289640356)(hA:RI w w.heap.size A (args.map (·.1)))(hE:∀a∈args,∀W,aj w W->ar 92 #[.agg #[ag a.1.1.op,ag a.1.1.v.k,af a.1.1.v.n,.string a.1.1.v.s,.string a.1.1.name,af a.1.1.width,.slice a.1.1.A a.1.1.n a.1.1.c,a.1.2]] W λ e w'=>e=.returned (.bool a.2)/\aj W w'):
  ar 91 #[.slice A args.length c,.func (.func 92) #[] #[]] w λ e w'=>e=.returned (.bool ((args.map (·.2)).any id))/\aj w w':=by have hi:=Ij A c args w hl hA hE;rw[vE];clear hA hE;go_enter Tryz.func91,Tryz.ntmps91;exact ZaZ
theorem zbj.Kaf(h:p:=by go_wp2_with fail;refine HH.ae.mono ?_;exact ZdU):p:=h
theorem Oz (y:Ex)(z:Value)(b:Bool)(w:World)(h:∀W,aj w W->yG W y b):
  ar 92 #[.agg #[ag y.op,ag y.v.k,af y.v.n,.string y.v.s,.string y.name,af y.width,.slice y.A y.n y.c,z]] w λ e w'=>e=.returned (.bool b)/\aj w w':=by have bb:=ah w (.cells #[ag y.op,ag y.v.k,af y.v.n,.string y.v.s,.string y.name,af y.width,.slice y.A y.n y.c,z] 48);have k1:=aB.new w 48 #[ag y.op,ag y.v.k,af y.v.n,.string y.v.s,.string y.name,af y.width,.slice y.A y.n y.c,z];have hh:=h _ bb;have HB:=aa bb;clear bb;unfold yG mn at hh;have HH:=aa hh;clear h hh;go_enter Tryz.func92,Tryz.ntmps92;go_upto_region 1 with fail;generalize Mp:w.alloc _=W1 at*;obtain⟨g,HP⟩:∃g,g=w.heap.size:=⟨_,rfl⟩;rw[<- HP] at k1 ⊢;clear HP Mp;open zbj in exact Zav
theorem Ik (A:Option Addr)(c:Nat)(args:List ((Ex×Value)×Bool))(w:World)(hl:args.length<=1599289640356)(hA:RI w w.heap.size A (args.map (·.1)))(hE:∀a∈args,∀W,aj w W->ar 95 #[.agg #[ag a.1.1.op,ag a.1.1.v.k,af a.1.1.v.n,.string a.1.1.v.s,.string a.1.1.name,af a.1.1.width,.slice a.1.1.A a.1.1.n a.1.1.c,a.1.2]] W λ e w'=>e=.returned (.bool a.2)/\aj W w'):
  ar 148 #[.slice A args.length c,.func (.func 95) #[] #[]] w λ e w'=>e=.returned (af (fU (args.map (·.2))))/\aj w w':=by have HA:=aa hA;have HE:=aa hE;clear hA hE;go_enter Tryz.func148,Tryz.ntmps148;exact ZaQ
theorem zG (A:Option Addr)(c:Nat)(args:List ((Ex×Value)×Bool))(w:World)(hl:args.length<=1599289640356)(hA:RI w w.heap.size A (args.map (·.1)))(hE:∀a∈args,∀W,aj w W->ar 95 #[.agg #[ag a.1.1.op,ag a.1.1.v.k,af a.1.1.v.n,.string a.1.1.v.s,.string a.1.1.name,af a.1.1.width,.slice a.1.1.A a.1.1.n a.1.1.c,a.1.2]] W λ e w'=>e=.returned (.bool a.2)/\aj W w'):
  ar 94 #[.slice A args.length c,.func (.func 95) #[] #[]] w λ e w'=>e=.returned (.bool ((args.map (·.2)).any id))/\aj w w':=by have hi:=Ik A c args w hl hA hE;rw[vE];clear hA hE;go_enter Tryz.func94,Tryz.ntmps94;exact ZaZ
theorem zbk.Kaf(h:p:=by go_wp2_with fail;refine HH.ae.mono ?_;exact ZdU):p:=h
theorem OC (y:Ex)(z:Value)(b:Bool)(w:World)(h:∀W,aj w W->yG W y b):
  ar 95 #[.agg #[ag y.op,ag y.v.k,af y.v.n,.string y.v.s,.string y.name,af y.width,.slice y.A y.n y.c,z]] w λ e w'=>e=.returned (.bool b)/\aj w w':=by have bb:=ah w (.cells #[ag y.op,ag y.v.k,af y.v.n,.string y.v.s,.string y.name,af y.width,.slice y.A y.n y.c,z] 117);have k1:=aB.new w 117 #[ag y.op,ag y.v.k,af y.v.n,.string y.v.s,.string y.name,af y.width,.slice y.A y.n y.c,z];have hh:=h _ bb;have HB:=aa bb;clear bb;unfold yG mn at hh;have HH:=aa hh;clear h hh;go_enter Tryz.func95,Tryz.ntmps95;go_upto_region 1 with fail;generalize Mp:w.alloc _=W1 at*;obtain⟨g,HP⟩:∃g,g=w.heap.size:=⟨_,rfl⟩;rw[<- HP] at k1 ⊢;clear HP Mp;open zbk in exact Zav
structure Qy where
 items:List (Tr×ByteArray)
 bS:ByteArray
 only:Bool
 bT:List Tr
 aL:List Tr
 fq:List Tr
 ord:List (Tr×Bool)
 lim:List Int
structure Sl where
 A:Option Addr
 n:Nat
 c:Nat
structure QL where
 i:Sl
 w:Sl
 g:Sl
 h:Sl
 o:Sl
 l:Sl
def mM (q:Qy)(L:QL):Value:=.agg #[.slice L.i.A L.i.n L.i.c,.string q.bS,.bool q.only,.slice L.w.A L.w.n L.w.c,.slice L.g.A L.g.n L.g.c,.slice L.h.A L.h.n L.h.c,.slice L.o.A L.o.n L.o.c,.slice L.l.A L.l.n L.l.c]
def eI (q:Qy)(L:QL):Array Value:= #[.slice L.i.A L.i.n L.i.c,.string q.bS,.bool q.only,.slice L.w.A L.w.n L.w.c,.slice L.g.A L.g.n L.g.c,.slice L.h.A L.h.n L.h.c,.slice L.o.A L.o.n L.o.c,.slice L.l.A L.l.n L.l.c]
def Ur (w:World)(B:Nat)(A:Option Addr)(l:List Int):Prop:=l=[]\/∃b off,A=some ⟨b,off,none⟩/\b < B/\∀i x,l[i]?=some x->w.cell? ⟨b,off+i,none⟩=some (af x)
theorem Ur.later{w:World} {A:Option Addr} {l:List Int}(h:Ur w w.heap.size A l)(hb:aj w w'):Ur w' w'.heap.size A l:=by
 rcases h with h |⟨b,off,h1,h2,h3⟩
 ·exact .inl h
 ·exact .inr ⟨b,off,h1,Nat.lt_of_lt_of_le h2 hb.size,λ i x hx=>(hb.cell (p:=⟨b,off+i,none⟩) h2).trans (h3 i x hx)⟩
structure nQ (W:World) (q:Qy) (L:QL):Prop where
 i:eP W (q.items.map λ x=>(x.1,.string x.2)) L.i.A L.i.n
 w:gJ W q.bT L.w.A L.w.n
 g:gJ W q.aL L.g.A L.g.n
 h:gJ W q.fq L.h.A L.h.n
 o:eP W (q.ord.map λ x=>(x.1,.bool x.2)) L.o.A L.o.n
 l:L.l.n=q.lim.length/\Ur W W.heap.size L.l.A q.lim
variable{q:Qy}{L:QL}
theorem nQ.later{w:World}  (h:nQ w q L)(hb:aj w w'):nQ w' q L:=
 ⟨h.i.later hb,h.w.later hb,h.g.later hb,h.h.later hb,h.o.later hb,h.l.1,h.l.2.later hb⟩
structure Qy.Ok (q:Qy):Prop where
 i:Tr.cL (q.items.map (·.1))
 w:Tr.cL q.bT
 g:Tr.cL q.aL
 h:Tr.cL q.fq
 o:Tr.cL (q.ord.map (·.1))
 ni:q.items.length<=1599289640356
 nw:q.bT.length<=1599289640356
 ng:q.aL.length<=1599289640356
 nh:q.fq.length<=1599289640356
 no:q.ord.length<=1599289640356
def Qy.aK (q:Qy):Bool:=decide (0 < q.aL.length+q.fq.length)|| Tr.Eg (q.items.map (·.1))|| Tr.Eg (q.ord.map (·.1))
theorem Il:∀(ts:List Tr) (ys:List (Ex×Value)) (w:World),Tr.cL ts->Tr.aO w (Old w) ts (ys.map (·.1))->∃args:List ((Ex×Value)×Bool),args.map (·.1)=ys/\args.map (·.2)=ts.map Tr.has/\∀a∈args,∀W,aj w W->yG W a.1.1 a.2
 | [],ys,w,_,hat=>by
   unfold Tr.aO at hat;have:ys=[]:=by simpa using hat
   subst this;exact⟨[],rfl,rfl,by simp⟩
 | t::ts,ys,w,aZ,hat=>by
   unfold Tr.aO at hat;unfold Tr.cL at aZ;obtain⟨y,ys',h1,h2,h3⟩:=hat;cases ys with
   | nil=>cases h1
   | cons z ys=>
     rw[map_cons] at h1;injection h1 with e1 e2;subst e1 e2;obtain⟨l,ft,hl2,tT⟩:=Il ts ys w aZ.2 h3;refine⟨(z,t.has)::l,by simp[ft],by simp[hl2],λ a ha W hW=>?_⟩;rcases List.mem_cons.1 ha with rfl | ha
     ·exact Tr.agR t z.1 w aZ.1 h2 W hW
     ·exact tT a ha W hW
theorem YS{l:List (Tr×Value)} {A:Option Addr} {n:Nat}(c:Nat) {w:World}(h:eP w l A n)(aZ:Tr.cL (l.map (·.1)))(hl:l.length<=1599289640356):
  ar 91 #[.slice A n c,.func (.func 92) #[] #[]] w λ e w'=>e=.returned (.bool (Tr.Eg (l.map (·.1))))/\aj w w':=by
 obtain⟨rfl,ys,h2,h3,h4⟩:=h;obtain⟨args,a1,a2,a3⟩:=Il _ ys w aZ h4;have hlen:args.length=l.length:=by have:=congrArg List.length a2;simpa using this
 have h:=zF A c args w WC (by rw[a1];exact h2) (λ a ha W hW=>Oz a.1.1 a.1.2 a.2 W (λ W2 hW2=>a3 a ha W2 (ai.then hW hW2)));rw[hlen,a2,vF] at h;exact h
theorem YT{l:List (Tr×Value)} {A:Option Addr} {n:Nat}(c:Nat) {w:World}(h:eP w l A n)(aZ:Tr.cL (l.map (·.1)))(hl:l.length<=1599289640356):
  ar 94 #[.slice A n c,.func (.func 95) #[] #[]] w λ e w'=>e=.returned (.bool (Tr.Eg (l.map (·.1))))/\aj w w':=by
 obtain⟨rfl,ys,h2,h3,h4⟩:=h;obtain⟨args,a1,a2,a3⟩:=Il _ ys w aZ h4;have hlen:args.length=l.length:=by have:=congrArg List.length a2;simpa using this
 have h:=zG A c args w WC (by rw[a1];exact h2) (λ a ha W hW=>OC a.1.1 a.1.2 a.2 W (λ W2 hW2=>a3 a ha W2 (ai.then hW hW2)));rw[hlen,a2,vF] at h;exact h
theorem zeQ.Ka3(h:p:=by
 rw[<- hg] at HX ⊢;clear hg;have gZ:=HX.cell 0;have x4:=HX.cell 4;have x5:=HX.cell 5;have c10:=HX.cell 6;simp only[Uaa] at gZ x4 x5 c10;rw[NG.ae] at x4;rw[NH.ae] at x5;by_cases h1:0 < q.aL.length+q.fq.length
 ·have t1:=decide_eq_true (show(0:Int)<(q.aL.length:Int)+(q.fq.length:Int) by omega);have t2:=decide_eq_true h1;have HT:=aa (show(decide (0 < q.aL.length+q.fq.length))=true from t2);clear h1 t2;go_wp2_with fail;go_ret;exact⟨by unfold Qy.aK;rw[HT.ae,Bool.true_or,Bool.true_or];rfl,HB.ae⟩
 ·have t1:=decide_eq_false (show¬(0:Int)<(q.aL.length:Int)+(q.fq.length:Int) by omega);have HT:=aa (decide_eq_false h1);clear h1;have hi:=YS L.i.c HQ.ae.i (by rw[map_map];exact ia.ae.i) (by rw[length_map];exact ia.ae.ni);have e1:((q.items.map λ x=>(x.1,Value.string x.2)).map (·.1))=q.items.map (·.1):=by rw[map_map];rfl
  have e2:((q.ord.map λ x=>(x.1,Value.bool x.2)).map (·.1))=q.ord.map (·.1):=by rw[map_map];rfl
  rw[e1] at hi;obtain⟨bi,hbi⟩:∃b,b=Tr.Eg (q.items.map (·.1)):=⟨_,rfl⟩;rw[<- hbi] at hi;have HI:=aa hi;have HBI:=aa hbi;have E2:=aa e2;clear hi hbi e1 e2;go_wp2_with fail;refine HI.ae.mono ?_;rintro e KK ⟨rfl,Kx⟩;cases bi
  ·have ho:=YT L.o.c (HQ.ae.o.later Kx) (by rw[E2.ae];exact ia.ae.o) (by rw[length_map];exact ia.ae.no);rw[E2.ae] at ho;have HH:=aa ho;clear ho;have c10:=(HX.later Kx).cell 6;simp only[Uaa] at c10;clear gZ x4 x5;go_wp2_with fail;refine HH.ae.mono ?_;rintro e w1 ⟨rfl,b1⟩;go_wp2_with fail;go_ret;exact⟨by unfold Qy.aK;rw[HT.ae,<- HBI.ae,Bool.false_or,Bool.false_or];rfl,ai.then (ai.then HB.ae Kx) b1⟩
  ·go_wp2_with fail;go_ret;exact⟨by unfold Qy.aK;rw[HT.ae,<- HBI.ae,Bool.false_or,Bool.true_or];rfl,ai.then HB.ae Kx⟩):p:=h
theorem KU (q:Qy)(L:QL)(w:World)(hq:nQ w q L)(aZ:q.Ok):ar 54 #[mM q L] w λ e w'=>e=.returned (.bool q.aK)/\aj w w':=by have bb:=ah w (.cells (eI q L) 27);have HX:=aB.new w 27 (eI q L);have JN:=hq.later bb;have NG:=aa hq.g.n;have NH:=aa hq.h.n;have kg:=aZ.ng;have kh:=aZ.nh;have HQ:=aa JN;have ia:=aa aZ;clear hq JN aZ;unfold mM;unfold eI at HX bb HQ;go_enter Tryz.func54,Tryz.ntmps54;have HB:=aa bb;clear bb;open zeQ in exact ZcH
def YU (u:Nat->Value)(ch:List Nat)(vs:List Value)(i:Nat)(_:World)(v:Value):Prop:=
 match ch.idxOf? i with
 | some k=>vs[k]?=some v
 | none=>v=u i
def lg (l:List Oper):List Nat->Bool
 | a::b::r=>(match l[b]? with | some o=>ir o a | none=>false)&& lg l (b::r)
 | _=>true
def RZ (P:Program)(l:List Oper)(u:Nat->Value)(ch:List Nat)(G:List Value->World->Prop)(a0:Act)(i:Nat)(o:Oper):Prop:=
 ∀ρ w vs,oz ρ->G vs w->lJ l (YU u ch vs) a0.eval ρ w o (tmpsOf o)->o.guard=none/\
  match ch.idxOf? i with
  | none=>(execOp ρ o).run P w=.ok (.value (u i)) w
  | some k=>vs.length=k->xa P o ρ w λ v w'=>G (vs++ [v]) w'
def OD (P:Program)(l:List Oper)(u:Nat->Value)(ch:List Nat)(G:List Value->World->Prop)(a0:Act):List Oper->Nat->Prop
 | [],_=>True
 | o::rest,i=>RZ P l u ch G a0 i o/\OD P l u ch G a0 rest (i+1)
variable{P:Program}{u:Nat->Value}{ch:List Nat}{G:List Value->World->Prop}{a0:Act}
theorem Fy{L:List Oper}    :∀ {l:List Oper} {k:Nat},OD P L u ch G a0 l k->∀i o,l[i]?=some o->RZ P L u ch G a0 (k+i) o
 | [],_,_,i,o,h=>by simp at h
 | x::l,k,hs,0,o,h=>by simp at h;subst h;exact hs.1
 | x::l,k,hs,i+1,o,h=>by have:=Fy hs.2 i o Tak;rwa [show k+1+i=k+(i+1) by omega] at this
theorem KV{i:Nat}(h:ch.idxOf? i=some k):ch[k]?=some i:=by rw[List.idxOf?,findIdx?_eq_some_iff_getElem] at h;obtain⟨hk,h1,_⟩:=h;rw[getElem?_eq_getElem hk];simpa using h1
theorem KX{i:Nat}(h:ch.idxOf? i=none):i∉ch:=by intro hm;rw[List.idxOf?,findIdx?_eq_none_iff] at h;have:=h i hm;simp at this
theorem agS(hn:ch.Nodup) {i:Nat}(h:ch[k]?=some i):ch.idxOf? i=some k:=by
 obtain⟨hk,he⟩:=List.getElem?_eq_some_iff.1 h
 cases hc:ch.idxOf? i with
 | none=>exact absurd (mem_of_getElem? h) (KX hc)
 | some k'=>have h2:=KV hc;obtain⟨Rv,he'⟩:=List.getElem?_eq_some_iff.1 h2;congr 1;exact(getElem_inj hn).1 (he'.trans he.symm)
theorem Fz{l:List Oper}:∀ {ch:List Nat} {k a b:Nat},lg l ch=true->ch[k]?=some a->ch[k+1]?=some b->∃o,l[b]?=some o/\ir o a=true
 | [],_,_,_,_,h,_=>by simp at h
 | [x],0,_,_,_,_,h=>by simp at h
 | [x],_+1,_,_,_,h,_=>by simp at h
 | x::y::r,0,a,b,hc,h1,h2=>by
   simp at h1 h2;subst h1 h2;simp only[lg,Bool.and_eq_true] at hc;have:=hc.1;split at this
   ·rename_i o ho;exact⟨o,ho,this⟩
   ·cases this
 | x::y::r,k+1,a,b,hc,h1,h2=>by simp only[lg,Bool.and_eq_true] at hc;exact Fz hc.2 Ta5 (by simpa using h2)
variable{V V':Nat->World->Value->Prop}{R:World->World->Prop}{w0:World}{listed:Array Bool}
theorem Inv.imp{l:List Oper}     {m:Nat}  {a:Act} {w:World}(I:Inv l V R a0 w0 m listed a w)(h:∀i w v,V i w v->V' i w v):Inv l V' R a0 w0 m listed a w:=
 ⟨I.r,I.defers,I.size,I.old,λ i o d h1 h2 h3=>h _ _ _ (I.new i o d h1 h2 h3),I.closed,I.len,I.tail⟩
variable{vs:List Value}
theorem YV(v:Value)(i:Nat)(w:World)(x:Value)(h:YU u ch vs i w x):YU u ch (vs++ [v]) i w x:=by
 unfold YU at*
 cases hk:ch.idxOf? i with
 | some k=>rw[hk] at h;simp only at h ⊢;obtain⟨hlt,_⟩:=List.getElem?_eq_some_iff.1 h;rw[getElem?_append_left hlt];exact h
 | none=>rw[hk] at h;exact h
section
variable {P:Program} {l zs:List Oper} {Q:Exit->Act->World->Prop} {u:Nat->Value} {ch:List Nat} {G:List Value->World->Prop} {a0:Act} {w0:World}
theorem zb1.Kam(h:p:=by
 have hK:=xd (V:=YU u ch vs) (λ d=>a.eval (.tmp d)) l 0 a0 (λ i o d hi hd=>by
  rw[Nat.zero_add]
  have rW:i < l.length:=by
   rcases Nat.lt_or_ge i l.length with h' | h'
   ·exact h'
   ·rw[getElem?_eq_none h'] at hi;cases hi
  exact I.new i o d hi (hall i rW) hd) hf
 rw[<- ha] at hK;exact Zbk):p:=h
theorem FA {N:Nat}(vs:List Value)(aZ:dN l N l 0=true)(hz:eL (l++zs) zs l.length=true) {listed:Array Bool} {a:Act} {w:World}(hf:bD (YU u ch vs) (λ a w=>wpList P (l++zs).toArray Q zs a w) l 0 a0 w)(I:Inv l (YU u ch vs) (λ _ _=>True) a0 w0 (l++zs).length listed a w)
  (h0:bw l.length listed=0):wpAny P .any (l++zs).toArray Q zs.length listed a w:=by
 open zb1 in exact ZaE
theorem zfj.Kbd(h:p:=by
 cases Z9:ch.idxOf? i with
 | none=>
   simp only[Z9] at hstep;refine jx (T:=λ v w'=>v=u i/\w'=w) (aq hstep ⟨rfl,rfl⟩) ?_;rintro v w' ⟨rfl,rfl⟩;refine ih _ _ _ vs (I.step aZ (λ _ _ _ _ h _=>h) (λ _ _ _ _ _=>trivial) uX zt AL eY trivial ?_) hg ?_ hvl YX
   ·unfold YU;simp only[Z9]
   ·intro k i' hk;have hne:i'≠i:=λ e=>KX Z9 (e▸mem_of_getElem? hk)
    rw[eH _ _ _ YW,if_neg hne];exact cf k i' hk
 | some k=>
   simp only[Z9] at hstep;have YY:=KV Z9
   have hvk:vs.length=k:=by
    have h1:¬k < vs.length:=λ h=>by have:=(cf k i YY).2 h;rw[AL] at this;cases this
    match k,YY,h1 with
    | 0,_,h1=>omega
    | k+1,YY,h1=>obtain⟨zu,_⟩:=List.getElem?_eq_some_iff.1 YY;have hp:ch[k]?=some ch[k]:=getElem?_eq_getElem WC;obtain⟨o',AP,he⟩:=Fz hch hp YY;rw[uX] at AP;injection AP with AP;subst AP;have:=(cf k _ hp).1 (eY _ (cK.1 he));omega
   refine jx (hstep hvk) ?_;intro v w' Rs;have I':=(I.imp (λ Kx w x h=>YV (ch:=ch) (u:=u) v Kx w x h));refine ih _ _ _ (vs++ [v]) (I'.step aZ (λ _ _ _ _ h _=>h) (λ _ _ _ _ _=>trivial) uX zt AL eY trivial ?_) Rs ?_ ?_ YX
   ·unfold YU;simp only[Z9];rw[<- hvk];simp
   ·intro k' i' Rv;rw[eH _ _ _ YW,length_append,length_singleton];by_cases nL:i'=i
    ·subst nL;have:=agS Z8 Rv;rw[Z9] at this;injection this with this;simp only[if_true,true_iff];omega
    ·rw[if_neg nL,cf k' i' Rv];have hne:k'≠k:=λ e=>nL (by rw[e,YY] at Rv;injection Rv with Rv;exact Rv.symm)
     omega
   ·obtain⟨zu,_⟩:=List.getElem?_eq_some_iff.1 YY;simp;omega):p:=h
theorem zan.Kc(h:p:=by have hst:=Fy hs i oj uX;rw[Nat.zero_add] at hst;have mq:=Inv.reads aZ I uX AL eY (tmpsOf oj) (λ _ h=>h);obtain⟨hgd,hstep⟩:=hst a.eval w vs (mB a) hg mq;open zfj in exact Zc6):p:=h
theorem oQ {id:Nat} {ops:List Oper}(zs:List Oper)(l:List Oper)(kE:ops=l++zs)(u:Nat->Value)(ch:List Nat)(G:List Value->World->Prop)(nK:∀vs w,G vs w->G vs w.drew)(hG:G [] w0)
  (hm:P.follows .mixedOrders=true) (aZ:dN l a0.tmps.size l 0=true) (hz:eL (l++zs) zs l.length=true) (hch:lg l ch=true) (Z8:ch.Nodup) (JY:ch.all (λ Kx=>decide (Kx < l.length))=true)
  (hs:OD P l u ch G a0 l 0) (hf:∀vs w,vs.length=ch.length->G vs w->bD (YU u ch vs) (λ a w=>wpList P ops.toArray Q zs a w) l 0 a0 w):(Code.region id ops.toArray true).wp P Q a0 w0:=by
 subst kE
 have main:∀(fuel:Nat) (listed:Array Bool) (a:Act) (w:World) (vs:List Value),Inv l (YU u ch vs) (λ _ _=>True) a0 w0 (l++zs).length listed a w->G vs w->(∀k Kx,ch[k]?=some Kx->(listed.getD Kx false=true↔k < vs.length))->vs.length<=ch.length->fuel=bw l.length listed+zs.length->wpAny P .any (l++zs).toArray Q fuel listed a w:=by
  intro fuel
  induction fuel with
  | zero=>
    intro listed a w vs I hg cf hvl hfu;have h0:bw l.length listed=0:=by omega
    have hz0:zs.length=0:=by omega
    have hall:=ed h0;have hvs:vs.length=ch.length:=by exact Zc4
    have:=FA vs aZ hz (hf vs w hvs hg) I h0;rwa [hz0] at this
  | succ fuel ih=>
    intro listed a w vs I hg cf hvl hfu;by_cases h0:bw l.length listed=0
    ·have hall:=ed h0;have hvs:vs.length=ch.length:=by exact Zc4
     have:=FA vs aZ hz (hf vs w hvs hg) I h0;exact Zfc
    ·open zan in exact Zab
 refine wp_region_any hm ?_;have:=main (l++zs).toArray.size (Array.replicate (l++zs).toArray.size false) a0 w0.drew [] ⟨trivial,rfl,rfl,λ _ _=>rfl,(λ Kx o d _ h=>by rw[bh] at h;cases h),(λ Kx o _ h=>by rw[bh] at h;cases h),by simp,λ Kx _=>bh _ _⟩ (nK _ _ hG) (λ k Kx _=>by rw[bh];simp) Tac (by
  have:bw l.length (Array.replicate (l++zs).toArray.size false)=l.length:=by
   unfold bw
   rw[List.filter_eq_self.2 (λ Kx _=>by rw[bh];rfl),length_range]
  rw[this];simp)
 exact this
end
section
variable {α:Type} {c:α->α->Int}
theorem Good.aeO (h:Good c) {x y z:α}(h1:c x y < 0)(h2:c y z<=0):c x z < 0:=by
 rcases Int.lt_or_le (c x z) 0 with h3 | h3
 ·exact h3
 ·have:=h.jn x z;have:=h.trans y z x h2 WC;have:=h.jn x y;omega
def iB (c:α->α->Int)(k:α):List α->List α
 | []=> [k]
 | x::xs=>if c x k < 0 then x::iB c k xs else if c x k=0 then x::xs else k::x::xs
def yH (c:α->α->Int)(l:List α):List α:=l.foldl (λ ks k=>iB c k ks) []
theorem KY (hz:∀x y,c x y=0->x=y)(k y:α):∀l,y∈iB c k l↔y=k\/y∈l
 | []=>by simp[iB]
 | x::xs=>by
   unfold iB;split
   ·rw[mem_cons,KY hz k y xs,mem_cons];constructor
    ·rintro(h | h | h)
     ·exact .inr (.inl h)
     ·exact .inl h
     ·exact .inr (.inr h)
    ·rintro(h | h | h)
     ·exact .inr (.inl h)
     ·exact .inl h
     ·exact .inr (.inr h)
   ·split
    ·rename_i h;have:=hz _ _ h;subst this;simp
    ·simp
theorem Sa (hg:Good c)(k z:α):∀l:List α,c z k < 0->(∀y∈l,c z y < 0)->∀y∈iB c k l,c z y < 0
 | [],h,_,y,hy=>by simp[iB] at hy;rw[hy];exact h
 | x::xs,h,ha,y,hy=>by
   unfold iB at hy;split at hy
   ·rcases List.mem_cons.1 hy with rfl | hy
    ·exact ha _ (mem_cons_self ..)
    ·exact Sa hg k z xs h (λ y hy=>ha y (mem_cons_of_mem _ hy)) y hy
   ·split at hy
    ·exact ha y hy
    ·rcases List.mem_cons.1 hy with rfl | hy
     ·exact h
     ·exact ha y hy
theorem yI (hg:Good c)(k:α):∀l:List α,l.Pairwise (λ a b=>c a b < 0)->(iB c k l).Pairwise (λ a b=>c a b < 0)
 | [],_=>by simp[iB]
 | x::xs,h=>by
   rw[pairwise_cons] at h;unfold iB;split
   ·rename_i h1;rw[pairwise_cons];exact⟨Sa hg k x xs h1 h.1,yI hg k xs h.2⟩
   ·split
    ·rw[pairwise_cons];exact h
    ·rename_i h1 h2;have h3:c k x < 0:=by have:=hg.jn x k;omega
     rw[pairwise_cons,pairwise_cons];refine⟨λ y hy=>?_,h⟩;rcases List.mem_cons.1 hy with rfl | hy
     ·exact h3
     ·exact hg.aeO h3 (by have:=h.1 y hy;omega)
theorem Bz (hg:Good c)(hz:∀x y,c x y=0->x=y):∀(l s:List α),s.Pairwise (λ a b=>c a b < 0)->(l.foldl (λ ks k=>iB c k ks) s).Pairwise (λ a b=>c a b < 0)/\∀y,y∈l.foldl (λ ks k=>iB c k ks) s↔y∈l\/y∈s
 | [],s,h=>⟨h,λ y=>by simp⟩
 | x::l,s,h=>by
   obtain⟨h1,h2⟩:=Bz hg hz l (iB c x s) (yI hg x s h);refine⟨h1,λ y=>?_⟩;rw[foldl_cons,h2 y,KY hz,mem_cons];constructor
   ·rintro(h | h | h)
    ·exact .inl (.inr h)
    ·exact .inl (.inl h)
    ·exact .inr h
   ·rintro((h | h)| h)
    ·exact .inr (.inl h)
    ·exact .inl h
    ·exact .inr (.inr h)
theorem vG (hg:Good c)(hz:∀x y,c x y=0->x=y)(l:List α):(yH c l).Pairwise (λ a b=>c a b < 0)/\∀y,y∈yH c l↔y∈l:=by have:=Bz hg hz l [] .nil;exact⟨this.1,λ y=>by rw[yH,this.2 y];simp⟩
def OE (c:α->α->Int)(x:α):List α->List α
 | []=> [x]
 | y::ys=>if c x y<=0 then x::y::ys else y::OE c x ys
def YZ (c:α->α->Int)(l:List α):List α:=l.foldr (OE c) []
theorem xr (c:α->α->Int)(x:α):∀l:List α,(OE c x l).Perm (x::l)
 | []=> .refl _
 | y::ys=>by
   unfold OE;split
   ·exact .refl _
   ·exact((xr c x ys).cons y).trans (.swap x y ys)
theorem oT (c:α->α->Int):∀l:List α,(YZ c l).Perm l
 | []=> .refl _
 | x::l=>(xr c x _).trans ((oT c l).cons x)
theorem yJ (hg:Good c)(x:α):∀l:List α,l.Pairwise (λ a b=>c a b<=0)->(OE c x l).Pairwise (λ a b=>c a b<=0)
 | [],_=>by simp[OE]
 | y::ys,h=>by
   have h':=h;rw[pairwise_cons] at h;unfold OE;split
   ·rename_i h1;rw[pairwise_cons];refine⟨λ z hz=>?_,h'⟩;rcases List.mem_cons.1 hz with rfl | hz
    ·exact h1
    ·exact hg.trans _ _ _ h1 (h.1 z hz)
   ·rename_i h1;rw[pairwise_cons];refine⟨λ z hz=>?_,yJ hg x ys h.2⟩;rcases List.mem_cons.1 ((xr c x ys).mem_iff.1 hz)with rfl | hz
    ·have:=hg.jn z y;omega
    ·exact h.1 z hz
theorem vH (hg:Good c):∀l:List α,(YZ c l).Pairwise (λ a b=>c a b<=0)
 | []=> .nil
 | x::l=>yJ hg x _ (vH hg l)
theorem OG {β:Type}(hg:Good c)(f:α->β)(hf:∀x y,c x y=0->f x=f y):∀(l m:List α),l.Perm m->l.Pairwise (λ a b=>c a b<=0)->m.Pairwise (λ a b=>c a b<=0)->l.map f=m.map f:=by
 have hr:∀a:α,c a a=0:=λ a=>by have:=hg.jn a a;omega
 intro l
 induction l with
 | nil=>intro m h _ _;rw[h.nil_eq]
 | cons x l ih=>
   intro m h h1 h2;rw[pairwise_cons] at h1
   cases m with
   | nil=>exact absurd h.symm.nil_eq Tac
   | cons y m=>
     have Ed:=h2;rw[pairwise_cons] at h2
     have hxy:c x y=0:=by
      have a:c x y<=0:=by
       rcases List.mem_cons.1 (h.mem_iff.2 (mem_cons_self ..):y∈x::l)with e | e
       ·rw[e,hr];omega
       ·exact h1.1 y e
      have b:c y x<=0:=by
       rcases List.mem_cons.1 (h.mem_iff.1 (mem_cons_self ..):x∈y::m)with e | e
       ·rw[e,hr];omega
       ·exact h2.1 x e
      have:=hg.jn x y;omega
     rcases List.mem_cons.1 (h.mem_iff.1 (mem_cons_self ..):x∈y::m)with e | e
     ·subst e;rw[map_cons,map_cons,ih m (List.Perm.cons_inv h) h1.2 h2.2]
     · -- x stands within m:put y in its place
       obtain⟨m1,m2,rfl⟩:=append_of_mem e;have hp:l.Perm (y::(m1++m2)):=by refine List.Perm.cons_inv (h.trans ?_) (a:=x);exact(List.perm_middle.cons y).trans (.swap x y _)
       have Hy:∀z∈m1,c z x=0:=λ z hz=>by
        have a:=h2.1 z (List.mem_append.2 (.inl hz));have b:c z x<=0:=by have:=h2.2;rw[pairwise_append] at this;exact this.2.2 z hz x (mem_cons_self ..)
        have d:=hg.trans x y z WC a;have:=hg.jn z x;omega
       have hs:(y::(m1++m2)).Pairwise (λ a b=>c a b<=0):=by refine Ed.sublist ?_;exact List.Sublist.cons_cons y ((List.Sublist.refl m1).append (sublist_cons_self x m2))
       rw[map_cons,ih _ hp h1.2 hs];have key:∀(m1:List α) (y:α),c y x=0->(∀z∈m1,c z x=0)->f x::(y::(m1++m2)).map f=(y::(m1++x::m2)).map f:=by
        intro m1;induction m1 with
        | nil=>intro y hy _;simp[hf y x hy]
        | cons z m1 ih2=>intro y hy hz;have:=ih2 z (hz z (mem_cons_self ..)) (λ w hw=>hz w (mem_cons_of_mem _ hw));rw[map_cons,hf y x hy];show f x::f x::((z::(m1++m2)).map f)=_;rw[this];simp[hf y x hy]
       exact key m1 y (by have:=hg.jn x y;omega) Hy
end
def jo (b e:Int):Int:=if e≠0/\(b=0\/e < b)then e else b
def cO (l:List Int):Int:=l.foldl jo 0
end Go.Proofs.YtndgjggokjickaaGreatDoor
