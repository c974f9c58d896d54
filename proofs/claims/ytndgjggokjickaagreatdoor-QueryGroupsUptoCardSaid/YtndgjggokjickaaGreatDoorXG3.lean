/- Parts of the proof. -/
import Derived.Shelf.Small.Bits
import Derived.Shelf.Strconv.Itoa3
import Derived.Shelf.SlicesE.Clone
import Derived.Shelf.Spec.BitsCarry
import Derived.Deep.DeepCutAuto
import Derived.Test.YtndgjggokjickaaGreatDoorXG2
namespace Go.Proofs.YtndgjggokjickaaGreatDoor
variable{p:Prop}
set_option maxHeartbeats 90000000
set_option maxRecDepth 100000
open Go.ChangeShapes Go.WideShapes Go.ChangeAt Go.RowKit List
set_option linter.unusedVariables false
set_option linter.unusedSimpArgs false
theorem ue:Tryz.prog.cellsOf 46=7:=by exact ZgH
theorem Fi:Tryz.prog.cellsOf 113=2:=by exact ZgH
theorem KT:Tryz.prog.cellsOf 23=1:=by exact ZgH
theorem OU:Tryz.prog.bytesOf 46=88:=by exact ZgH
theorem UO:Tryz.prog.bytesOf 113=24:=by exact ZgH
theorem UQ:Tryz.prog.bytesOf 44=32:=by exact ZgH
def vE (y:Ex):wL:=[ag y.op,ag y.v.k,af y.v.n,.string y.v.s,.string y.name,af y.width,.slice y.A y.n y.c]
def aR (x:aV):wL:=[.string x.name,ag x.t]
variable{base:Nat}{cs:wL}
theorem Za{w:rQ} {K:Nat} {a:Addr} (h:w.cells? base a K=some cs):cs.length=K/\∀i,i < K->w.cell? (a.add i)=cs[i]?:=by
 unfold World.cells? at h;split at h
 ·exact⟨by simpa using mapM_some_length h,λ i hi=>mapM_some_get h i i (by simp[hi])⟩
 ·cases h
variable{H:Type}
def Light(t:TypeId)(d:DataW H):Prop:=∀n∈d.weights Tryz.prog t,n<=reachBytes
section
variable {H:Type} {enc:TypeId×Value->H} {w:rQ} {base:Nat} {spare:Nat->Bool} {held:Bool}
theorem Fj {e:TypeId}:∀ {l:List (DataW H)},(∀n∈DataW.weightsAll Tryz.prog e l,n<=reachBytes)->∀d∈l,Light e d
 | [],_,d,h=>by cases h
 | x::l,hw,d,h=>by
   unfold DataW.weightsAll at hw;rcases List.mem_cons.1 h with rfl | h
   ·exact λ n hn=>hw n (mem_append_left _ hn)
   ·exact Fj (λ n hn=>hw n (mem_append_right _ hn)) d h
theorem yN {T e:TypeId} {es rs:List (DataW H)}(hT:Tryz.prog.underlying T=some (.slice e))(h:Light T (.slice es rs)):(es.length+rs.length)*Tryz.prog.bytesOf e<=reachBytes/\∀d∈es,Light e d:=by unfold Light at h;unfold DataW.weights at h;rw[hT] at h;dsimp only at h;exact⟨h _ (mem_cons_self ..),Fj λ n hn=>h n (mem_cons_of_mem _ (mem_append_left _ hn))⟩
theorem OV {t:TypeId} {fs:Array Field} {ps:List (DataW H)}(ht:Tryz.prog.underlying t=some (.struct fs))(h:Light t (.agg ps)) {j:Nat} {f:Field} {d:DataW H}(hf:fs[j]?=some f)(hd:ps[j]?=some d):Light f.type d:=by unfold Light at h ⊢;unfold DataW.weights at h;rw[ht] at h;dsimp only at h;intro n hn;refine h n (DataW.weights_mem_each (j:=j) ?_ hd n hn);rw[getElem?_map,Array.getElem?_toList,hf];rfl
theorem zeK.Ka5(h:p:=by
 obtain⟨l,Ii,hp⟩:=pick len (P:=λ i a=>P a/\∀j,j < K->w.cell? ⟨b,off+i*K+j,none⟩=(f a)[j]?) λ i hi=>by obtain⟨a,ha,hca⟩:=nC i hi;refine⟨a,ha,λ j hj=>?_⟩;have:=hca j hj;simp only[eB] at this;exact this
 subst Ii;refine⟨some ⟨b,off,none⟩,l,cap,rfl,λ a ha=>?_,hb2,.inr ⟨b,off,rfl,hbl,λ i x j u hx hu=>?_⟩⟩
 ·obtain⟨i,hi,rfl⟩:=getElem_of_mem ha;exact(hp i _ (getElem?_eq_getElem hi)).1
 ·exact Zec):p:=h
theorem zhc.Kb3(h:p:=by
 rcases Nat.eq_zero_or_pos len with h0 | h0
 ·subst h0;exact⟨some ad,[],cap,rfl,by simp,by simp,.inl rfl⟩
 have nC:∀i,i < len->∃a:α,P a/\∀j,j < K->w.cell? ((ad.add (i*K)).add j)=(f a)[j]?:=by intro i hi;have h1:=he i hi;rw[getElem?_eq_getElem TD,hc] at h1;obtain⟨cs,h2,h3⟩:=Option.bind_eq_some_iff.1 h1;obtain⟨a,rfl,ha⟩:=hel n TD cs _ h3 (OW _ (List.mem_map.2 ⟨_,getElem_mem _,rfl⟩));exact⟨a,ha,(Za h2).2⟩
 open zeK in exact ZcD):p:=h
theorem uf {α:Type}(f:α->wL)(P:α->Prop)(K:Nat) {T e:TypeId}(hT:Tryz.prog.underlying T=some (.slice e))(hc:Tryz.prog.cellsOf e=K)(hK:0 < K)(hf:∀x,(f x).length=K) {fuel:Nat} {cs:wL} {x:DataW H×List MemPlace}
  (hel:∀m,m < fuel->∀cs x,DataW.trod enc Tryz.prog w base spare held m e cs=some x->Light e x.1->∃a,cs=f a/\P a) (h:DataW.trod enc Tryz.prog w base spare held fuel T cs=some x) (hw:Light T x.1):
  ∃(A:z_) (l:List α) (c:Nat),cs=[.slice A l.length c]/\(∀a∈l,P a)/\l.length*Tryz.prog.bytesOf e<=reachBytes/\(l=[]\/∃b off,A=some ⟨b,off,none⟩/\b < w.heap.size/\∀i x j u,l[i]?=some x->(f x)[j]?=some u->w.cell? ⟨b,off+i*K+j,none⟩=some u):=by
 rcases DataW.trod_slice hT h with ⟨hcs,_⟩|⟨ad,len,cap,elems,rest,n,hn,hcs,hx,_,hl,hm,hlen,he,_,_⟩
 ·exact⟨none,[],0,hcs,by simp,by simp,.inl rfl⟩
 ·open zhc in exact ZfE
theorem Zb {fuel:Nat} {cs:wL} {x:DataW H×List MemPlace}(h:DataW.trod enc Tryz.prog w base spare held fuel 113 cs=some x):∃a:aV,cs=aR a/\0<=a.t/\a.t<=255:=by
 obtain⟨y0,y1,n,_,hl,t0,t1⟩:=trod_struct2 Tryz.underlying113 h;rw[Fi] at hl
 match cs,hl with
 | [c0,c1],_=>simp only[ly,vD,drop_succ_cons,drop_zero,take_succ_cons,take_zero] at t0 t1;obtain⟨s,q0,_,f0⟩:=DataW.trod_string Tryz.underlying9 t0;obtain⟨n1,q1,_,f1⟩:=DataW.trod_int Tryz.underlying5 t1;simp at q0 q1;subst q0 q1;exact⟨⟨s,n1⟩,rfl,Sx f1⟩
theorem UR {fuel:Nat} {cs:wL} {x:DataW H×List MemPlace}(h:DataW.trod enc Tryz.prog w base spare held fuel 28 cs=some x)(hw:Light 28 x.1):
  ∃A l c,cs=[.slice A l.length c]/\RC w w.heap.size A l/\l.length<=140737488355328/\∀a∈l,0<=a.t/\a.t<=255:=by
 obtain⟨A,l,c,q,hP,hby,cL⟩:=uf aR (λ a=>0<=a.t/\a.t<=255) 2 Tryz.underlying28 Fi TD (λ _=>rfl) (λ m hm cs x h1 _=>Zb h1) h hw;rw[UO] at hby;refine⟨A,l,c,q,?_,by unfold reachBytes at hby;omega,hP⟩;rcases cL with cL |⟨b,off,rfl,hb,cL⟩
 ·exact .inl cL
 ·exact .inr ⟨b,off,rfl,hb,λ i y hy=>⟨cL i y 0 _ hy rfl,cL i y 1 _ hy rfl⟩⟩
theorem UT {fuel:Nat} {cs:wL} {x:DataW H×List MemPlace}(h:DataW.trod enc Tryz.prog w base spare held fuel 38 cs=some x)(hw:Light 38 x.1):
  ∃A l c,cs=[.slice A l.length c]/\RV w w.heap.size A l/\l.length<=140737488355328/\∀a∈l,a.Ok/\0<=a.k/\a.k<=255:=by
 obtain⟨A,l,c,q,hP,hby,cL⟩:=uf aU (λ a=>a.Ok/\0<=a.k/\a.k<=255) 3 Tryz.underlying38 mP TD (λ _=>rfl) (λ m hm cs x h1 _=>YZ h1) h hw;rw[UQ] at hby;refine⟨A,l,c,q,?_,by unfold reachBytes at hby;omega,hP⟩;rcases cL with cL |⟨b,off,rfl,hb,cL⟩
 ·exact .inl cL
 ·exact .inr ⟨b,off,rfl,hb,λ i y hy=>⟨cL i y 0 _ hy rfl,cL i y 1 _ hy rfl,cL i y 2 _ hy rfl⟩⟩
end
section
variable {H:Type} {enc:TypeId×Value->H} {W:rQ} {base:Nat} {v:Value} {d:DataW H} {p:List MemPlace}
theorem UU (ok:Value.okWide Tryz.prog W .any base 28 v)(k:DataW.Trod enc Tryz.prog W 0 (λ _=>true) true 28 v d p)(hw:Light 28 d):
  ∃A l c,v=.slice A l.length c/\RC W W.heap.size A l/\l.length<=140737488355328/\∀a∈l,0<=a.t/\a.t<=255:=by obtain⟨a,len,cap,rfl⟩:=okWide_slice Tryz.underlying28 ok;obtain⟨fuel,hf⟩:=k;obtain⟨A,l,c,q,h⟩:=UR hf hw;exact Zgw
end
def Tr.op:Tr->Int | .mk op _ _ _ _=>op
def Tr.v:Tr->Val | .mk _ v _ _ _=>v
def Tr.name:Tr->t_ | .mk _ _ name _ _=>name
def Tr.args:Tr->uF | .mk _ _ _ _ args=>args
def BA (n a b m:Int):Int:=wrap64 (wrap64 (wrap64 (wrap64 (n+1)+wrap64 (wrap64 (a / 5000)*2000))+wrap64 (wrap64 (b / 5000)*2000))+m)
mutual
def Tr.size:Tr->Int
 | .mk op v name width args=>Tr.dF 0 args
def Tr.dF:Int->uF->Int
 | n,[]=>n
 | n,.mk op v name width args::ts=>if n < 2000 then Tr.dF (BA n name.size v.s.size (Tr.dF 0 args)) ts else n
end
variable{S:Nat->Prop}
theorem Tr.aM.get{w:rQ} :∀ {ts:uF} {ys:u_} {i:Nat} {t:Tr},Tr.aM w S ts ys->ts[i]?=some t->∃y,ys[i]?=some y/\t.at_ w S y
 | [],ys,i,t,h,ht=>by simp at ht
 | x::ts,ys,0,t,h,ht=>by unfold Tr.aM at h;obtain⟨y,ys',rfl,h2,h3⟩:=h;simp at ht;subst ht;exact⟨y,rfl,h2⟩
 | x::ts,ys,i+1,t,h,ht=>by unfold Tr.aM at h;obtain⟨y,ys',rfl,h2,h3⟩:=h;have:=Tr.aM.get h3 (i:=i) (t:=t) (by simpa using ht);simpa using this
def OX (w:rQ)(y:Ex)(n:Int):Prop:=∀W,aj w W->ar 22 #[.slice y.A y.n y.c] W λ e w'=>e=.returned (af n)/\aj W w'
theorem zds.KaI(h:p:=by
 clear fI y2 cV cQ;go_wp2_with fail;go_roundw;case rel=>refine⟨k+1,BA n y.name.size y.v.s.size m,hlt,by go_num,by unfold BA;rfl,?_,ai.then hb hL⟩;rw[HF.ae,HD.ae];exact HG.ae
 case measure=>exact ZaU):p:=h
theorem Sy (A:z_)(c:Nat)(ts:uF)(ys:u_)(w:rQ)(hl:ts.length<=1599289640356)(hm:Tr.aM w (Old w) ts ys)(hA:RE w w.heap.size A ys)(hE:∀(i:Nat) (t:Tr) (y:Ex),ts[i]?=some t->ys[i]?=some y->OX w y t.size):
  ar 22 #[.slice A ts.length c] w λ e w'=>e=.returned (af (Tr.dF 0 ts))/\aj w w':=by
 have HA:=aa hA;have HE:=aa hE;have HL:=aa hm;clear hA hE hm;go_enter Tryz.func22,Tryz.ntmps22;go_wp2_with fail;go_loopw [3,4] (λ nv i wr=>∃(k:Nat) (n:Int),k<=ts.length/\i=af k/\nv=af n/\Tr.dF 0 ts=Tr.dF n (ts.drop k)/\aj w wr) (λ _ i _=>ts.length - (intOf i).toNat);case atStart=>exact⟨0,0,Nat.zero_le _,rfl,rfl,rfl,Below.refl _ _⟩
 case round=>
  obtain⟨k,n,hk,rfl,rfl,hF,hb⟩:=hrel;have HF:=aa hF;clear hF;by_cases hlt:k < ts.length
  ·have HD:=aa (show ts.drop k=ts[k]::ts.drop (k+1)from drop_eq_getElem_cons hlt);obtain⟨y,hy,hat⟩:=HL.ae.get (getElem?_eq_getElem hlt);have hsz:=HE.ae k _ y (getElem?_eq_getElem hlt) hy;by_cases h2:n < 2000
   ·have hyk:k < ys.length:=by
     rcases Nat.lt_or_ge k ys.length with h | h
     ·exact h
     ·rw[getElem?_eq_none h] at hy;cases hy
    obtain⟨b,off,rfl,kM,cQ⟩:=(HA.ae.below hb).at_ hyk;have jC:ys[k]=y:=by rw[getElem?_eq_getElem hyk] at hy;simpa using hy
    rw[jC] at cQ;clear jC hy hyk;generalize ts[k]=t at*;obtain⟨top,tv,KU,BB,targs⟩:=t;unfold Tr.at_ at hat;have h4:=hat.2.1;have h5:=hat.2.2.1;clear hat;have HG:=aa (show Tr.dF n (.mk top tv KU BB targs::ts.drop (k+1))=Tr.dF (BA n y.name.size y.v.s.size (Tr.size (.mk top tv KU BB targs))) (ts.drop (k+1)) by
     rw[h4,h5]
     conv=>lhs;unfold Tr.dF
     rw[if_pos h2]
     rfl)
    clear h4 h5;generalize Tr.size (.mk top tv KU BB targs)=m at*;have t1:=decide_eq_true h2;have cV:=λ x:Ext wr.heap.size wr=>(cQ.keep (w':=x.w) λ o=>x.h.cell (p:=⟨b,o,none⟩) (Nat.lt_of_lt_of_le kM hb.size))
    unfold cg at cV;have abV:=λ x:Ext wr.heap.size wr=>hsz x.w (ai.then hb x.h)
    go_wp2_with fail;refine aW 28 wr.heap.size wr (Below.refl _ _) WC WC WC WC ?_;simp only[Uab];repeat (go_big_quiet_step (fail))
    go_big_quiet_step ((go_at_call 22;exact aP (Nat.le_refl _) (abV _)));open zds in exact ZbD
   ·have t1:=decide_eq_false h2;generalize ts[k]=t at*;obtain⟨top,tv,KU,BB,targs⟩:=t;have HG:=aa (show Tr.dF n (.mk top tv KU BB targs::ts.drop (k+1))=n by
     unfold Tr.dF
     rw[if_neg h2])
    clear hsz hat hy;go_wp2_with fail;go_ret;refine⟨?_,hb⟩;rw[HF.ae,HD.ae,HG.ae];rfl
  ·go_wp2_with fail;go_ret;refine⟨?_,hb⟩;rw[HF.ae,drop_eq_nil_of_le TD];unfold Tr.dF;rfl
mutual
theorem Tr.abW:∀(t:Tr) (y:Ex) (w:rQ),t.ok->t.at_ w (Old w) y->OX w y t.size
 | .mk op v name width args,y,w,aZ,hat=>by intro W hb;have nX:=hat.later hb;unfold Tr.at_ at nX;obtain⟨h1,h2,h3,h4,h5,ys,h6,h7⟩:=nX;unfold Tr.ok at aZ;have k:=Sy y.A y.c args ys W aZ.2.1 h7 h6.old (Tr.BC args ys W aZ.2.2.2.2.2 h7);rw[h5];unfold Tr.size;exact k
theorem Tr.BC:∀(ts:uF) (ys:u_) (w:rQ),Tr.cH ts->Tr.aM w (Old w) ts ys->∀(i:Nat) (t:Tr) (y:Ex),ts[i]?=some t->ys[i]?=some y->OX w y t.size
 | [],ys,w,_,_,i,t,y,ht,_=>by simp at ht
 | x::ts,ys,w,aZ,hat,i,t,y,ht,hy=>by
   unfold Tr.aM at hat;unfold Tr.cH at aZ;obtain⟨y',ys',rfl,h2,h3⟩:=hat
   match i,ht,hy with
   | 0,ht,hy=>simp at ht hy;subst ht hy;exact Tr.abW x y' w aZ.1 h2
   | i+1,ht,hy=>exact Tr.BC ts ys' w aZ.2 h3 i t y (by simpa using ht) (by simpa using hy)
end
def qP (w:rQ)(e:Ending)(w':rQ):Prop:=∃b:Bool,e=.returned (.bool b)/\aj w w'
open Go.Shelf
def Tryz.lays134_ren:Go.Shelf.Ren:=⟨λ | 134=>214 | 129=>210 | n=>n,λ | 53=>195 | 3=>3 | 4=>4 | 46=>184 | 5=>5 | 9=>9 | n=>n,λ | n=>n⟩
theorem Tryz.lays134:Go.Proofs.Lays.n134 Tryz.prog Tryz.lays134_ren:= {
 mixed:=by kernel_rfl
 f129:=Tryz.func210.trans (congrArg some WC)
 f134:=Tryz.func214.trans (congrArg some WC)
 t3:=Tryz.underlying3
 a3:=Tryz.isAgg3
 z3:=Tryz.sizeOf3
 v3:=Tryz.zeroValue3
 t4:=Tryz.underlying4
 a4:=Tryz.isAgg4
 z4:=Tryz.sizeOf4
 v4:=Tryz.zeroValue4
 t5:=Tryz.underlying5
 a5:=Tryz.isAgg5
 z5:=Tryz.sizeOf5
 v5:=Tryz.zeroValue5
 t9:=Tryz.underlying9
 a9:=Tryz.isAgg9
 z9:=Tryz.sizeOf9
 v9:=Tryz.zeroValue9
 t46:=Tryz.underlying184
 a46:=Tryz.isAgg184
 z46:=Tryz.sizeOf184
 v46:=Tryz.zeroValue184
 t53:=Tryz.underlying195
 a53:=Tryz.isAgg195
 z53:=Tryz.sizeOf195
 v53:=Tryz.zeroValue195 }
theorem Tryz.bits_LeadingZeros64 (x:Int)(w:rQ)(h0:0<=x)(h1:x<=18446744073709551615):
 ar 214 #[.int .u64 x] w λ e w'=>e=.returned (af (64 - (Lib.bitLen x.toNat:Int)))/\w'=w:=Any.bits_LeadingZeros64 Tryz.lays134 x w h0 h1
def Tryz.laysM171_ren:Go.Shelf.Ren:=⟨λ | 171=>98 | 243=>149 | 246=>185 | 283=>201 | 284=>202 | 285=>203 | 286=>204 | 129=>210 | 317=>209 | 318=>211 | 319=>212 | 320=>213 | 337=>215 | 338=>216 | n=>n,λ | 3=>3 | 9=>9 | 2=>2 | 4=>4 | 171=>251 | 0=>0 | 53=>195 | 37=>97 | 5=>5 | 173=>254 | 212=>261 | 51=>262 | 20=>20 | 213=>263 | 46=>184 | 232=>268 | 233=>269 | n=>n,λ | 17=>0 | 18=>3 | 19=>4 | n=>n⟩
theorem Tryz.laysM171:Go.Proofs.LaysM.n171 Tryz.prog Tryz.laysM171_ren:= {
 mixed:=by kernel_rfl
 f129:=Tryz.func210.trans (congrArg some WC)
 f171:=Tryz.func98.trans (congrArg some WC)
 f243:=Tryz.func149.trans (congrArg some WC)
 f246:=Tryz.func185.trans (congrArg some WC)
 f283:=Tryz.func201.trans (congrArg some WC)
 f284:=Tryz.func202.trans (congrArg some WC)
 f285:=Tryz.func203.trans (congrArg some WC)
 f286:=Tryz.func204.trans (congrArg some WC)
 f317:=Tryz.func209.trans (congrArg some WC)
 f318:=Tryz.func211.trans (congrArg some WC)
 f319:=Tryz.func212.trans (congrArg some WC)
 f320:=Tryz.func213.trans (congrArg some WC)
 f337:=Tryz.func215.trans (congrArg some WC)
 f338:=Tryz.func216.trans (congrArg some WC)
 t0:=Tryz.underlying0
 a0:=Tryz.isAgg0
 z0:=Tryz.sizeOf0
 v0:=Tryz.zeroValue0
 t2:=Tryz.underlying2
 a2:=Tryz.isAgg2
 z2:=Tryz.sizeOf2
 v2:=Tryz.zeroValue2
 t3:=Tryz.underlying3
 a3:=Tryz.isAgg3
 z3:=Tryz.sizeOf3
 v3:=Tryz.zeroValue3
 t4:=Tryz.underlying4
 a4:=Tryz.isAgg4
 z4:=Tryz.sizeOf4
 v4:=Tryz.zeroValue4
 t5:=Tryz.underlying5
 a5:=Tryz.isAgg5
 z5:=Tryz.sizeOf5
 v5:=Tryz.zeroValue5
 t9:=Tryz.underlying9
 a9:=Tryz.isAgg9
 z9:=Tryz.sizeOf9
 v9:=Tryz.zeroValue9
 t20:=Tryz.underlying20
 a20:=Tryz.isAgg20
 z20:=Tryz.sizeOf20
 v20:=Tryz.zeroValue20
 t37:=Tryz.underlying97
 a37:=Tryz.isAgg97
 z37:=Tryz.sizeOf97
 v37:=Tryz.zeroValue97
 t46:=Tryz.underlying184
 a46:=Tryz.isAgg184
 z46:=Tryz.sizeOf184
 v46:=Tryz.zeroValue184
 t51:=Tryz.underlying262
 a51:=Tryz.isAgg262
 z51:=Tryz.sizeOf262
 v51:=Tryz.zeroValue262
 t53:=Tryz.underlying195
 a53:=Tryz.isAgg195
 z53:=Tryz.sizeOf195
 v53:=Tryz.zeroValue195
 t171:=Tryz.underlying251
 a171:=Tryz.isAgg251
 z171:=Tryz.sizeOf251
 v171:=Tryz.zeroValue251
 t173:=Tryz.underlying254
 a173:=Tryz.isAgg254
 z173:=Tryz.sizeOf254
 v173:=Tryz.zeroValue254
 t212:=Tryz.underlying261
 a212:=Tryz.isAgg261
 z212:=Tryz.sizeOf261
 v212:=Tryz.zeroValue261
 t213:=Tryz.underlying263
 a213:=Tryz.isAgg263
 z213:=Tryz.sizeOf263
 t232:=Tryz.underlying268
 a232:=Tryz.isAgg268
 z232:=Tryz.sizeOf268
 v232:=Tryz.zeroValue268
 t233:=Tryz.underlying269
 a233:=Tryz.isAgg269
 z233:=Tryz.sizeOf269
 v233:=Tryz.zeroValue269
 g17:=by kernel_rfl
 g18:=by kernel_rfl
 g19:=by kernel_rfl
 i0:=by kernel_rfl
 i2:=by kernel_rfl
 i3:=by kernel_rfl
 i4:=by kernel_rfl
 i5:=by kernel_rfl
 i9:=by kernel_rfl
 i20:=by kernel_rfl
 i37:=by kernel_rfl
 i46:=by kernel_rfl
 i51:=by kernel_rfl
 i53:=by kernel_rfl
 i171:=by kernel_rfl
 i173:=by kernel_rfl
 i212:=by kernel_rfl
 i232:=by kernel_rfl
 i233:=by kernel_rfl
 m17:=by kernel_rfl
 m18:=by kernel_rfl
 m19:=by kernel_rfl }
open Go.RowKit Go.Sort Go.Lib in
theorem Tryz.strconv_Itoa (n:Int)(h0: -9223372036854775808<=n)(h1:n<=9223372036854775807)(w:rQ)(atU:Lib.TabIs Tryz.prog w "internal/strconv.uint64pow10" .u64 Lib.pow10Tab):
 ar 98 #[af n] w λ e w'=>e=.returned (.string ⟨(Lib.itoa n).toArray⟩)/\∃k os,w'=grow (w.drewN k) os:=Any.strconv_Itoa Tryz.laysM171 n h0 h1 w atU
def vF (y z:Ex):Bool:=y.op==z.op &&((y.v.k==z.v.k &&(y.v.n==z.v.n && y.v.s.toList==z.v.s.toList))&&(y.name.toList==z.name.toList && y.width==z.width))
mutual
def Tr.same:Tr->Tr->Bool
 | .mk o1 v1 n1 w1 a1,.mk o2 v2 n2 w2 a2=>(o1==o2 &&((v1.k==v2.k &&(v1.n==v2.n && v1.s.toList==v2.s.toList))&&(n1.toList==n2.toList && w1==w2)))&&(a1.length==a2.length && Tr.qQ a1 a2)
def Tr.qQ:uF->uF->Bool
 | t::ts,u::us=>t.same u && Tr.qQ ts us
 | _,_=>true
end
def mQ (w:rQ)(y z:Ex)(b:Bool):Prop:=∀W,aj w W->ar 152 #[.agg (az y),.agg (az z)] W λ e w'=>e=.returned (.bool b)/\aj W w'
def abX (w:rQ)(y z:Ex)(b:Bool):Prop:=∀W,aj w W->ar 186 #[.slice y.A y.n y.c,.slice z.A z.n z.c,.func (.func 152) #[] #[]] W λ e w'=>e=.returned (.bool b)/\aj W w'
theorem za7.Kag(h:p:=by
 have x0:=hR.cell 0;have x1:=hR.cell 1;have z2:=hR.cell 2;have z3:=hR.cell 3;have z4:=hR.cell 4;have z5:=hR.cell 5;have z6:=hR.cell 6;simp only[Uaa] at x0 x1 z2 z3 z4 z5 z6;cases e1:(y.op==z.op)
 ·go_wp2_with fail;go_ret;exact⟨by simp[vF,e1],hb⟩
 ·cases e2:(y.v.k==z.v.k)
  ·go_wp2_with fail;go_ret;exact⟨by simp[vF,e1,e2],hb⟩
  ·cases e3:(y.v.n==z.v.n)
   ·go_wp2_with fail;go_ret;exact⟨by simp[vF,e1,e2,e3],hb⟩
   ·cases e4:(y.v.s.toList==z.v.s.toList)
    ·go_wp2_with fail;go_ret;exact⟨by simp[vF,e1,e2,e3,e4],hb⟩
    ·cases e5:(y.name.toList==z.name.toList)
     ·go_wp2_with fail;go_ret;exact⟨by simp[vF,e1,e2,e3,e4,e5],hb⟩
     ·cases e6:(y.width==z.width)
      ·exact ZgW
      ·go_wp2_with fail;refine(oM.ae _ hb).mono ?_;rintro e w1 ⟨rfl,b1⟩;replace hb:=ai.then hb b1;clear b1 z0 z1 x2 x3 x4 x5 x6 x0 x1 z2 z3 z4 z5 z6;exact ZgW):p:=h
theorem OY (y z:Ex)(bl:Bool)(w:rQ)(hL:abX w y z bl):ar 152 #[.agg (az y),.agg (az z)] w λ e w'=>e=.returned (.bool (vF y z && bl))/\aj w w':=by have oM:=aa hL;clear hL;go_enter Tryz.func152,Tryz.ntmps152;have k1:=(aB.new w 46 (az y)).alloc (.cells (az z) 46);have hR:=aB.new (w.alloc (.cells (az y) 46)) 46 (az z);rw[World.size_alloc] at hR;have hb:=ai.then (ah w (.cells (az y) 46)) (ah _ (.cells (az z) 46));open za7 in exact Zau
theorem Fk (A A':z_)(c c':Nat)(ys zs:u_)(bs:List Bool)(w:rQ)(hl:ys.length<=1599289640356)(hl':zs.length<=1599289640356)(Kd:bs.length=ys.length)(hA:RE w w.heap.size A ys)(hA':RE w w.heap.size A' zs)(hE:ys.length=zs.length->∀(i:Nat) y z b2,ys[i]?=some y->zs[i]?=some z->bs[i]?=some b2->mQ w y z b2):
  ar 186 #[.slice A ys.length c,.slice A' zs.length c',.func (.func 152) #[] #[]] w λ e w'=>e=.returned (.bool (ys.length==zs.length && bs.all id))/\aj w w':=by
 have Gk:=aa hA;have HI:=aa hA';have HE:=aa hE;have HBS:=aa Kd;clear hA hA' hE Kd;by_cases hne:ys.length=zs.length
 ·have t0:(ys.length != zs.length)=false:=by simpa using hne
  have t0':((ys.length:Int) !=(zs.length:Int))=false:=by simp[hne]
  have nO:=aa hne;have hle:ys.length<=zs.length:=by omega
  rw[show(ys.length==zs.length)=true by simpa using hne];clear hne;rw[Bool.true_and];go_enter Tryz.func186,Tryz.ntmps186;go_wp2_with fail;clear t0 t0';go_loopw [17] (λ i wr=>∃k:Nat,k<=ys.length/\i=af k/\bs.all id=(bs.drop k).all id/\aj w wr) (λ i _=>ys.length - (intOf i).toNat);case atStart=>exact Zf0
  case round=>
   obtain⟨k,hk,rfl,hp,hb⟩:=hrel;have HP:=aa hp;clear hp;by_cases hlt:k < ys.length
   ·have sZ:k < zs.length:=by omega
    have UW:k < bs.length:=by have:=HBS.ae;omega
    obtain⟨b2,aDE,rfl,hb1,hx⟩:=(Gk.ae.below hb).at_ hlt;obtain⟨Kx,aBG,rfl,hb2,NV⟩:=(HI.ae.below hb).at_ sZ;have gS:=HE.ae nO.ae k _ _ _ (getElem?_eq_getElem hlt) (getElem?_eq_getElem sZ) (getElem?_eq_getElem UW);have HD:=aa (show bs.drop k=bs[k]::bs.drop (k+1)from drop_eq_getElem_cons UW);generalize ys[k]=y at*;generalize zs[k]=z at*;generalize bs[k]=sb at*;have S9:b2 < wr.heap.size:=Nat.lt_of_lt_of_le hb1 hb.size;have T4:Kx < wr.heap.size:=Nat.lt_of_lt_of_le hb2 hb.size;have bb:=ai.then (ah wr (.cells (az y) 46)) (ah _ (.cells (az z) 46));have amH:=NV.keep (w':=wr.alloc (.cells (az y) 46)) λ o=>(ah wr (.cells (az y) 46)).cell (p:=⟨Kx,o,none⟩) T4
    unfold cg at hx amH;go_wp2_with fail;refine(gS _ (ai.then hb bb)).mono ?_;rintro e w1 ⟨rfl,b1⟩;have KK:=ai.then hb (ai.then bb b1);clear hx NV amH gS bb b1 hb;cases sb
    ·go_wp2_with fail;go_ret;refine⟨?_,KK⟩;rw[HP.ae,HD.ae];rfl
    ·go_wp2_with fail;go_roundw;case rel=>refine⟨k+1,hlt,by go_num,?_,KK⟩;rw[HP.ae,HD.ae];rfl
     case measure=>exact ZaU
   ·go_wp2_with fail;go_ret;refine⟨?_,hb⟩;rw[HP.ae,drop_eq_nil_of_le (by have:=HBS.ae;omega)];rfl
 ·have t0:(ys.length != zs.length)=true:=by simpa using hne
  have t0':((ys.length:Int) !=(zs.length:Int))=true:=by simp;omega
  rw[show(ys.length==zs.length)=false by simpa using hne];clear hne;go_enter Tryz.func186,Tryz.ntmps186;go_wp2_with fail;go_ret;exact⟨rfl,Below.refl _ _⟩
mutual
theorem Tr.KV:∀(t u:Tr) (y z:Ex) (w:rQ),t.ok->u.ok->t.at_ w (Old w) y->u.at_ w (Old w) z->mQ w y z (t.same u)
 | .mk o1 v1 n1 w1 a1,.mk o2 v2 n2 w2 a2,y,z,w,aZ,sX,hat,hat'=>by
   intro W hb;have h1:=hat.later hb;have h2:=hat'.later hb;unfold Tr.at_ at h1 h2;unfold Tr.ok at aZ sX;obtain⟨p1,p2,p3,p4,p5,ys,p6,p7⟩:=h1;obtain⟨q1,q2,q3,q4,q5,zs,q6,q7⟩:=h2;have hlY:=p7.length;have hlZ:=q7.length;have k:=OY y z (a1.length==a2.length && Tr.qQ a1 a2) W (by
    intro W' hW'
    have hp7:=p7.later hW'
    have hq7:=q7.later hW'
    by_cases Ii:a1.length=a2.length
    ·obtain⟨bs,b1,b2,b3⟩:=Tr.Fl a1 a2 ys zs W' aZ.2.2.2.2.2 sX.2.2.2.2.2 hp7 hq7 Ii
     have kk:=Fk y.A z.A y.c z.c ys zs bs W' (by rw[hlY];exact aZ.2.1) (by rw[hlZ];exact sX.2.1) (by rw[b1,hlY]) ((p6.old.below hW').more hW'.size) ((q6.old.below hW').more hW'.size) (λ _=>b3)
     rw[hlY,hlZ,b2] at kk
     rw[p5,q5]
     exact kk
    ·have kk:=Fk y.A z.A y.c z.c ys zs (List.replicate ys.length true) W' (by rw[hlY];exact aZ.2.1) (by rw[hlZ];exact sX.2.1) Taa ((p6.old.below hW').more hW'.size) ((q6.old.below hW').more hW'.size) (λ h=>absurd (by rw[<- hlY,<- hlZ];exact h) Ii)
     have e0:(a1.length==a2.length)=false:=by simpa using Ii
     rw[hlY,hlZ,e0] at kk
     rw[p5,q5,e0]
     exact kk)
   unfold vF at k;rw[p1,p2,p3,p4,q1,q2,q3,q4] at k;unfold Tr.same;rw[<- p1,<- p2,<- p3,<- p4,<- q1,<- q2,<- q3,<- q4] at k ⊢;exact k
theorem Tr.Fl:∀(ts us:uF) (ys zs:u_) (w:rQ),Tr.cH ts->Tr.cH us->Tr.aM w (Old w) ts ys->Tr.aM w (Old w) us zs->ts.length=us.length->∃bs:List Bool,bs.length=ts.length/\bs.all id=Tr.qQ ts us/\∀(i:Nat) y z b,ys[i]?=some y->zs[i]?=some z->bs[i]?=some b->mQ w y z b
 | [],[],ys,zs,w,_,_,_,_,_=>⟨[],rfl,by simp[Tr.qQ],λ i y z b _ _ h=>by simp at h⟩
 | [],_::_,ys,zs,w,_,_,_,_,h=>by simp at h
 | _::_,[],ys,zs,w,_,_,_,_,h=>by simp at h
 | t::ts,u::us,ys,zs,w,aZ,sX,hat,hat',hl=>by
   unfold Tr.aM at hat hat';unfold Tr.cH at aZ sX;obtain⟨y,ys',rfl,h2,h3⟩:=hat;obtain⟨z,zs',rfl,Ep,h3'⟩:=hat';obtain⟨bs,b1,b2,b3⟩:=Tr.Fl ts us ys' zs' w aZ.2 sX.2 h3 h3' (by simpa using hl);refine⟨t.same u::bs,by simp[b1],by simp[Tr.qQ,b2],?_⟩;intro i y' z' b hy hz hb
   match i,hy,hz,hb with
   | 0,hy,hz,hb=>simp at hy hz hb;subst hy hz hb;exact Tr.KV t u y z w aZ.1 sX.1 h2 Ep
   | i+1,hy,hz,hb=>exact b3 i y' z' b (by simpa using hy) Ta2 (by simpa using hb)
end
def M:Int:=18446744073709551616
def lo (a:Int):Int:=a % M
def hi (a:Int):Int:=a / M
theorem si (a:Int):0<=lo a:=by unfold lo M;omega
theorem Sz (a:Int):lo a < M:=by unfold lo M;omega
theorem sj{a:Int}(h:0<=a):0<=hi a:=by unfold hi M;omega
def wv (a:Int):Value:=.agg #[.int .u64 (hi a),.int .u64 (lo a)]
def gK (n:Int):Int:=n %(M*M)
theorem Zc (n:Int)(h1: -9223372036854775808<=n)(h2:n<=9223372036854775807):hi (gK n)=if n < 0 then M - 1 else 0:=by unfold hi gK M;split <;> omega
theorem Zd (n:Int):lo (gK n)=n % M:=by unfold lo gK M;omega
theorem UY (n:Int)(h1: -9223372036854775808<=n)(h2:n<=9223372036854775807):Value.agg #[.int .u64 (IntKind.u64.wrap (n / 9223372036854775808)),.int .u64 (IntKind.u64.wrap n)]=wv (gK n):=by
 unfold wv;rw[Zc n h1 h2,Zd,IntKind.wrap_u64,IntKind.wrap_u64];have e1:n / 9223372036854775808 % 18446744073709551616=if n < 0 then M - 1 else 0:=by unfold M;split <;> omega
 rw[e1];rfl
theorem Fm (n:Int)(h1: -9223372036854775808<=n)(h2:n<=9223372036854775807)(w:rQ):ar 191 #[af n] w λ e w'=>e=.returned (wv (gK n))/\aj w w':=by rw[<- UY n h1 h2];go_enter Tryz.func191,Tryz.ntmps191;go_wp2;exact bodyPost_ret (v:=.agg #[.int .u64 (IntKind.u64.wrap (n / 9223372036854775808)),.int .u64 (IntKind.u64.wrap n)]) (by simp[results,Tryz.results191,go_sem]) rfl ⟨rfl,(Below.refl _ _).alloc (Nat.le_refl _) _⟩
def lY (a b:Int):Int:=(a+b)%(M*M)
theorem Ze:(Tryz.prog.info? 195).map (λ i=>(i.zero,i.size,i.bytes))=some (some (.int .u64 0),1,8):=by exact ZgH
theorem abY (a b c d:Int)(w:rQ):(Op.equalIn 10000 197 (.agg #[.int .u64 a,.int .u64 b]) (.agg #[.int .u64 c,.int .u64 d])).run Tryz.prog w=.ok (a==c && b==d) w:=by
 obtain⟨i0,kL,hz0,hz1,hz2⟩:=info_parts Ze;rw[show(10000:Nat)=9998+1+1 from rfl];unfold Op.equalIn;simp[run_underlying Tryz.underlying197,sizeOf,typeInfo,kL,hz1,Std.Legacy.Range.forIn_eq_forIn_range',List.range',part,isAgg,run_underlying Tryz.underlying195,run_equalIn_int w 9998 195 .u64 .u64 _ _ Tryz.underlying195];by_cases h1:a=c
 ·by_cases h2:b=d <;> simp[h1,h2]
 ·simp[h1]
def yO (x:Int):Int:=IntKind.i64.wrap x
def kr (a:Int):Bool:=(hi a==hi (gK (yO (lo a))))&&(lo a==lo (gK (yO (lo a))))
theorem OZ (a:Int)(w:rQ):ar 192 #[.agg #[.int .u64 (hi a),.int .u64 (lo a)]] w λ e w'=>e=.returned (.tuple #[af (yO (lo a)),.bool (kr a)])/\aj w w':=by
 have hb: -9223372036854775808<=yO (lo a)/\yO (lo a)<=9223372036854775807:=by unfold yO;rw[IntKind.wrap_i64];omega
 have hw:=λ w=>Fm (yO (lo a)) hb.1 hb.2 w
 unfold wv at hw;have HW:=aa hw;have HD:=aa (show kr a=((hi a==hi (gK (yO (lo a))))&&(lo a==lo (gK (yO (lo a)))))from rfl);clear hw hb;have hs:IntKind.i64.wrap (lo a)=yO (lo a):=rfl;have he:=abY;generalize yO (lo a)=n at*;generalize hi (gK n)=h2 at*;generalize lo (gK n)=l2 at*;generalize lo a=l1 at*;generalize hi a=h1 at*;generalize kr a=r at*;go_enter Tryz.func192,Tryz.ntmps192;go_wp2_with fail;have cS:∀(y2:Ext (w.heap.size+1) (w.alloc (.cells #[.int .u64 h1,.int .u64 l1] 197))),y2.w.cell? ⟨w.heap.size,0,none⟩=some (.int .u64 h1):=λ y2=>by rw[y2.cell Taa];simp
 have cA:∀(y2:Ext (w.heap.size+1) (w.alloc (.cells #[.int .u64 h1,.int .u64 l1] 197))),y2.w.cell? ⟨w.heap.size,1,none⟩=some (.int .u64 l1):=λ y2=>by rw[y2.cell Taa];simp
 refine aW 7 (w.heap.size+1) _ (Below.refl _ _) WC WC WC WC ?_;simp only[Uab];repeat (go_big_quiet_step (first
  |(go_at_call 191;exact aP Taa (HW.ae _))))
 refine wpQuiet_nil ?_;rintro w3 ⟨y2,fI⟩;have hL:=y2.h;rw[<- fI] at hL;clear cS cA fI y2;go_wp2_with fail;go_ret2;rw[HD.ae];exact ZcR
theorem Zf (hi lo y Y Y1 H Lq U LL u1 u0 q1 r1 V q0 r0:Int)(k:Nat)(hy0:0 < y)(XR:y<=65535)(hh0:0 < hi)(hh1:hi < y)(hk:k<=63)(Zg:1<=k)
  (hlz:(64 - (Lib.bitLen y.toNat:Int))=(k:Int)) (hY1:1<=Y1) (hU0:0<=U) (hV0:0<=V)
  (e1:IntKind.u64.wrap (y*2 ^ k)=Y) (e2:Y / 4294967296=Y1) (e3:bits .and .u64 Y 4294967295=0)
  (e4:IntKind.u64.wrap (hi*2 ^ k)=H) (e5:lo / 2 ^(64 - k)=Lq) (e6:bits .or .u64 H Lq=U) (e7:IntKind.u64.wrap (lo*2 ^ k)=LL) (e8:LL / 4294967296=u1) (e9:bits .and .u64 LL 4294967295=u0)
  (f1:IntKind.u64.wrap (U.tdiv Y1)=q1) (f2:IntKind.u64.wrap (U - IntKind.u64.wrap (q1*Y1))=r1) (Ke:q1 < 4294967296) (atX:0<=q1)
  (g1:IntKind.u64.wrap (IntKind.u64.wrap (IntKind.u64.wrap (U*4294967296)+u1) - IntKind.u64.wrap (q1*Y))=V)
  (g2:IntKind.u64.wrap (V.tdiv Y1)=q0) (g3:IntKind.u64.wrap (V - IntKind.u64.wrap (q0*Y1))=r0) (hq0:q0 < 4294967296) (atY:0<=q0) (q r:Int) (d1:IntKind.u64.wrap (IntKind.u64.wrap (q1*4294967296)+q0)=q) (d2:IntKind.u64.wrap (IntKind.u64.wrap (IntKind.u64.wrap (V*4294967296)+u0) - IntKind.u64.wrap (q0*Y))/ 2 ^ k=r) (w:rQ):
  ar 206 #[.int .u64 hi,.int .u64 lo,.int .u64 y] w λ e w'=>e=.returned (.tuple #[.int .u64 q,.int .u64 r])/\w=w':=by
 have b1:(y==0)=false:=by rw[beq_eq_false_iff_ne];omega
 have b2:decide (y<=hi)=false:=by simp;omega
 have b3:(hi==0)=false:=by rw[beq_eq_false_iff_ne];omega
 have b4:decide ((4294967296:Int)<=q1)=false:=by simp;omega
 have b5:decide ((4294967296:Int)<=q0)=false:=by simp;omega
 have b6:∀z:Int,decide (IntKind.u64.wrap z < 0)=false:=by intro z;rw[IntKind.wrap_u64];simp;omega
 have HL:=aa hlz;have E:=aa e1;clear hlz hh0 hh1 Ke hq0 atX atY;go_enter Tryz.func206,Tryz.ntmps206;go_wp2_with (go_at_call 214;refine(Tryz.bits_LeadingZeros64 y _ TD TD).mono ?_;rintro e w' ⟨rfl,rfl⟩;rw[HL.ae]);refine wp_loop_rounds 1 ?_;rw[rounds_succ];go_wp2_with fail;refine wp_loop_rounds 1 ?_;rw[rounds_succ];go_wp2_with fail;go_ret2;exact Ze7
theorem ahE:∀y:Fin 512,y.val=0\/(1<=Lib.bitLen y.val/\Lib.bitLen y.val<=9/\2 ^(Lib.bitLen y.val - 1)<=y.val/\y.val < 2 ^ Lib.bitLen y.val):=by decide+kernel
theorem Zh (x:Int)(h0:0<=x)(h1:x < M):bits .and .u64 x 4294967295=x % 4294967296:=by have:=bits_mask .u64 64 V0 (λ n h0 h1=>by rw[IntKind.wrap_u64];omega) 32 V0 x h0 (by unfold M at h1;omega);exact this
theorem abZ (k:Nat)(hk:k<=64)(x y:Int)(hx0:0<=x)(hx:x % 2 ^ k=0)(hx1:x < M)(hy0:0<=y)(hy:y < 2 ^ k)(XR:y < M):bits .or .u64 x y=x+y:=
 bits_join .u64 64 V0 (λ n h0 h1=>by rw[IntKind.wrap_u64];omega) k x y hx0 hx (by unfold M at hx1;omega) hy0 hy (by unfold M at XR;omega)
theorem atZ (U Y Y1 u1 q1:Int)(hY:Y=Y1*4294967296)(h1:1<=Y1)(h2:Y1 < 4294967296)(hU0:0<=U)(hU1:U < Y)(XO:0<=u1)(hu1:u1 < 4294967296)(hq:q1=U / Y1):
  IntKind.u64.wrap (IntKind.u64.wrap (IntKind.u64.wrap (U*4294967296)+u1) - IntKind.u64.wrap (q1*Y))=U % Y1*4294967296+u1:=by
 have NW:=Int.emod_nonneg U (show Y1≠0 by omega);have Ij:=Int.emod_lt_of_pos U (show 0 < Y1 by omega);have hd:=Int.mul_ediv_add_emod U Y1;have hp:q1*Y=(q1*Y1)*4294967296:=by rw[hY,Int.mul_assoc]
 have Ef:q1*Y1=U - U % Y1:=by rw[hq,Int.mul_comm];omega
 rw[hp,Ef];simp only[IntKind.wrap_u64];omega
theorem amK (hi lo y:Int)(L k:Nat)(hL:L=Lib.bitLen y.toNat)(hk:k=64 - L)(hh0:0 < hi)(hh1:hi < y)(hl0:0<=lo)(fJ:lo < M)(a1:1<=L)(a2:L<=9)(P Q:Int)(hP:(2:Int)^ k=P)(hQ:(2:Int)^(64 - k)=Q)(hPQ:P*Q=M)
  (aub:∃P':Int,P=P'*4294967296/\0 < P') (y1:M<=2*(y*P)) (y2:y*P < M) (hy:y<=65535):
  ∃q r:Int,∀w,ar 206 #[.int .u64 hi,.int .u64 lo,.int .u64 y] w λ e w'=>e=.returned (.tuple #[.int .u64 q,.int .u64 r])/\w=w':=by
 obtain⟨P',hP',auc⟩:=aub;have hP0:0 < P:=by omega
 have hQ0:0 < Q:=by rw[<- hQ];exact Int.pow_pos V0
 have hY:IntKind.u64.wrap (y*P)=y*P:=by rw[IntKind.wrap_u64];have:0<=y*P:=Int.mul_nonneg TD TD;unfold M at y2;omega
 have hYe:y*P=(y*P')*4294967296:=by rw[hP',Int.mul_assoc]
 have hY1:y*P / 4294967296=y*P':=by rw[hYe];omega
 have amM:1<=y*P':=Int.mul_pos TD auc;have aud:y*P' < 4294967296:=by rw[hYe] at y2;unfold M at y2;omega
 have aBM:(hi+1)*P<=y*P:=Int.mul_le_mul_of_nonneg_right TD TD;have hHx:(hi+1)*P=hi*P+P:=by rw[Int.add_mul,Int.one_mul]
 have hH0:0<=hi*P:=Int.mul_nonneg TD TD;have hH:IntKind.u64.wrap (hi*P)=hi*P:=by rw[IntKind.wrap_u64];unfold M at y2;omega
 have aue:0<=lo / Q:=Int.ediv_nonneg hl0 TD;have auf:lo / Q < P:=by apply Int.ediv_lt_of_lt_mul hQ0;rw[hPQ];exact fJ
 have hU:bits .or .u64 (hi*P) (lo / Q)=hi*P+lo / Q:=by refine abZ k TD _ _ hH0 (by rw[hP];exact Int.mul_emod_left _ _) TD aue (by rw[hP];exact auf) (by unfold M at*;omega)
 have aug:hi*P+lo / Q < y*P:=by omega
 have auh:0<=IntKind.u64.wrap (lo*P)/\IntKind.u64.wrap (lo*P)< M:=by rw[IntKind.wrap_u64];unfold M;omega
 have hu1:0<=IntKind.u64.wrap (lo*P)/ 4294967296/\IntKind.u64.wrap (lo*P)/ 4294967296 < 4294967296:=by unfold M at auh;omega
 have amN:(hi*P+lo / Q).tdiv (y*P')=(hi*P+lo / Q)/(y*P'):=Int.tdiv_eq_ediv_of_nonneg TD;have hUq:(hi*P+lo / Q)/(y*P')< 4294967296:=by apply Int.ediv_lt_of_lt_mul TD;omega
 have aui:0<=(hi*P+lo / Q)/(y*P'):=Int.ediv_nonneg TD TD;have Ke:IntKind.u64.wrap ((hi*P+lo / Q).tdiv (y*P'))=(hi*P+lo / Q)/(y*P'):=by rw[amN,IntKind.wrap_u64];omega
 have hV:=atZ (hi*P+lo / Q) (y*P) (y*P') (IntKind.u64.wrap (lo*P)/ 4294967296) _ hYe amM aud TD aug hu1.1 hu1.2 Ke;have NW:=Int.emod_nonneg (hi*P+lo / Q) (show y*P'≠0 by omega);have Ij:=Int.emod_lt_of_pos (hi*P+lo / Q) (show 0 < y*P' by omega);generalize hVV:(hi*P+lo / Q)%(y*P')*4294967296+IntKind.u64.wrap (lo*P)/ 4294967296=V at hV;have hV0:0<=V:=by omega
 have aBP:V < y*P:=by rw[hYe];omega
 have amO:V.tdiv (y*P')=V /(y*P'):=Int.tdiv_eq_ediv_of_nonneg hV0;have hVq:V /(y*P')< 4294967296:=by apply Int.ediv_lt_of_lt_mul TD;omega
 have auj:0<=V /(y*P'):=Int.ediv_nonneg hV0 TD;have hq0:IntKind.u64.wrap (V.tdiv (y*P'))=V /(y*P'):=by rw[amO,IntKind.wrap_u64];omega
 refine⟨_,_,λ w=>Zf hi lo y (y*P) (y*P') (hi*P) (lo / Q) (hi*P+lo / Q) (IntKind.u64.wrap (lo*P)) _ _ _ _ V _ _ k TD hy hh0 hh1 TD TD TD amM TD hV0
  (by rw[hP];exact hY) hY1 (by rw[Zh _ TD y2,hYe];omega) (by rw[hP];exact hH) (by rw[hQ]) hU (by rw[hP]) rfl rfl rfl rfl (by rw[Ke];exact hUq) (by rw[Ke];exact aui) hV rfl rfl (by rw[hq0];exact hVq) (by rw[hq0];exact auj) _ _ rfl rfl w⟩
theorem aca (hi lo y:Int)(hh0:0 < hi)(hh1:hi < y)(hy:y < 512)(hl0:0<=lo)(fJ:lo < M):
  ∃q r:Int,∀w,ar 206 #[.int .u64 hi,.int .u64 lo,.int .u64 y] w λ e w'=>e=.returned (.tuple #[.int .u64 q,.int .u64 r])/\w=w':=by
 obtain⟨n,rfl⟩:=Int.eq_ofNat_of_zero_le (show 0<=y by omega);have hb:=ahE ⟨n,by omega⟩;simp only at hb;rcases hb with h |⟨a1,a2,a3,a4⟩
 ·omega
 ·have key:=λ P Q h1 h2 h3 h4 h5 h6=>amK hi lo (n:Int) (Lib.bitLen n) (64 - Lib.bitLen n) Taa rfl hh0 hh1 hl0 fJ a1 a2 P Q h1 h2 h3 h4 h5 h6 TD
  generalize Lib.bitLen n=L at*;have hc:L=1\/L=2\/L=3\/L=4\/L=5\/L=6\/L=7\/L=8\/L=9:=by omega
  rcases hc with rfl | rfl | rfl | rfl | rfl | rfl | rfl | rfl | rfl
  ·exact key _ _ rfl rfl rfl ⟨2 ^ 31,by decide,by decide⟩ Tad Tad
  ·exact key _ _ rfl rfl rfl ⟨2 ^ 30,by decide,by decide⟩ Tad Tad
  ·exact key _ _ rfl rfl rfl ⟨2 ^ 29,by decide,by decide⟩ Tad Tad
  ·exact key _ _ rfl rfl rfl ⟨2 ^ 28,by decide,by decide⟩ Tad Tad
  ·exact key _ _ rfl rfl rfl ⟨2 ^ 27,by decide,by decide⟩ Tad Tad
  ·exact key _ _ rfl rfl rfl ⟨2 ^ 26,by decide,by decide⟩ Tad Tad
  ·exact key _ _ rfl rfl rfl ⟨2 ^ 25,by decide,by decide⟩ Tad Tad
  ·exact key _ _ rfl rfl rfl ⟨2 ^ 24,by decide,by decide⟩ Tad Tad
  ·exact key _ _ rfl rfl rfl ⟨2 ^ 23,by decide,by decide⟩ Tad Tad
theorem Zi (lo y:Int)(hy:0 < y)(hl0:0<=lo)(fJ:lo<=18446744073709551615)(w:rQ):
  ar 206 #[.int .u64 0,.int .u64 lo,.int .u64 y] w λ e w'=>e=.returned (.tuple #[.int .u64 (lo / y),.int .u64 (lo % y)])/\aj w w':=by
 have b1:(y==0)=false:=by rw[beq_eq_false_iff_ne];omega
 have b2:decide (y<=0)=false:=by simp;omega
 have b3:0<=lo / y/\lo / y<=18446744073709551615:=⟨Int.ediv_nonneg hl0 TD,Int.le_trans (Int.ediv_le_self y hl0) fJ⟩;have b4:IntKind.u64.wrap (lo.tdiv y)=lo / y:=by rw[Int.tdiv_eq_ediv_of_nonneg hl0,IntKind.wrap_u64];omega
 have b5:lo.tmod y=lo % y:=Int.tmod_eq_emod_of_nonneg hl0;clear fJ b3;go_enter Tryz.func206,Tryz.ntmps206;go_wp2_with fail;go_quiet (fail);go_wp2_with fail;go_ret2;exact⟨rfl,below_drewN (Below.refl _ _) _⟩
theorem acb (x y b:Nat)(hb:b<=1)(w:rQ):(callFunc 207 #[.int .u64 x,.int .u64 y,.int .u64 b]).run Tryz.prog w=
  .ok (.value (.tuple #[.int .u64 (((x+18446744073709551616 - y - b)% 18446744073709551616:Nat):Int),.int .u64 ((if x < y+b then 1 else 0:Nat):Int)])) w:=by rw[run_callFunc_extern Tryz.func207 WC WC WC (e:=sub64Entry) WC,run_sub64 x y b hb];rfl
def Zj (h l y q r:Int):Prop:=∀w,ar 206 #[.int .u64 h,.int .u64 l,.int .u64 y] w λ e w'=>e=.returned (.tuple #[.int .u64 q,.int .u64 r])/\aj w w'
theorem Ik (h l y:Int)(h0:0<=h)(h1:h < y)(hy:y < 512)(hl0:0<=l)(fJ:l < M):∃q r,Zj h l y q r:=by
 by_cases hz:h=0
 ·subst hz;exact⟨_,_,λ w=>Zi l y h1 hl0 (by unfold M at fJ;omega) w⟩
 ·obtain⟨q,r,hq⟩:=aca h l y TD h1 hy hl0 fJ;exact⟨q,r,λ w=>(hq w).mono λ e w' ⟨he,hw⟩=>⟨he,by rw[hw];exact Below.refl _ _⟩⟩
def Pa (a n v:Int):Prop:=∀w,ar 193 #[.agg #[.int .u64 (hi a),.int .u64 (lo a)],.int .u64 n] w λ e w'=>e=.returned (af v)/\aj w w'
theorem KX (h l n q r hm:Int)(hn:0 < n)(hh0:0<=h)(hb:(h / 9223372036854775808==0)=true)(hd:Zj hm l n q r)(NW:h.tmod n=hm)(w:rQ):
  ar 193 #[.agg #[.int .u64 h,.int .u64 l],.int .u64 n] w λ e w'=>e=.returned (af (wrap64 q))/\aj w w':=by
 have HD:=aa hd;clear hd;have Kf:¬n=0:=by omega
 have Ij:h % n=hm:=by rw[<- NW,Int.tmod_eq_emod_of_nonneg hh0]
 go_enter Tryz.func193,Tryz.ntmps193;go_wp2_with fail;have cS:∀(y2:Ext (w.heap.size+1) (w.alloc (.cells #[.int .u64 h,.int .u64 l] 197))),y2.w.cell? ⟨w.heap.size,0,none⟩=some (.int .u64 h):=λ y2=>by rw[y2.cell Taa];simp
 have cA:∀(y2:Ext (w.heap.size+1) (w.alloc (.cells #[.int .u64 h,.int .u64 l] 197))),y2.w.cell? ⟨w.heap.size,1,none⟩=some (.int .u64 l):=λ y2=>by rw[y2.cell Taa];simp
 refine aW 13 (w.heap.size+1) _ (Below.refl _ _) WC WC WC WC ?_;simp only[Uab];repeat (go_big_quiet_step (first
  |(go_at_call 206;exact aP Taa (HD.ae _))))
 refine wpQuiet_nil ?_;rintro w3 ⟨y2,fI⟩;have hL:=y2.h;rw[<- fI] at hL;clear cS cA fI y2;go_wp2_with fail;go_ret;exact ZcR
theorem KY (h l n q r hm nl c nh c2:Int)(hn:0 < n)(hnh:0<=nh)(hb:(h / 9223372036854775808==0)=false)(hd:Zj hm nl n q r)(NW:nh.tmod n=hm)
  (s1:∀w,(callFunc 207 #[.int .u64 0,.int .u64 l,.int .u64 0]).run Tryz.prog w=.ok (.value (.tuple #[.int .u64 nl,.int .u64 c])) w)
  (s2:∀w,(callFunc 207 #[.int .u64 0,.int .u64 h,.int .u64 c]).run Tryz.prog w=.ok (.value (.tuple #[.int .u64 nh,.int .u64 c2])) w) (w:rQ):
  ar 193 #[.agg #[.int .u64 h,.int .u64 l],.int .u64 n] w λ e w'=>e=.returned (af (wrap64 (IntKind.u64.wrap (-(if 0 < r then IntKind.u64.wrap (q+1)else q)))))/\aj w w':=by
 have HD:=aa hd;clear hd;have Kf:¬n=0:=by omega
 have Ij:nh % n=hm:=by rw[<- NW,Int.tmod_eq_emod_of_nonneg hnh]
 by_cases hr:0 < r
 ·have hr1:decide (0 < r)=true:=by simpa using hr
  rw[if_pos hr];exact ZeO
 ·have hr1:decide (0 < r)=false:=by simpa using hr
  rw[if_neg hr];exact ZeO
theorem afF{a:Int}(h:a < M*M):hi a < M:=by unfold hi M at*;omega
theorem Il (x b:Int)(h0:0<=x)(h1:x < M)(hb0:0<=b)(hb1:b<=1):∃d c:Int,0<=d/\d < M/\0<=c/\c<=1/\d=(M - x - b)% M/\(c=if 0 < x+b then 1 else 0)/\
  ∀w,(callFunc 207 #[.int .u64 0,.int .u64 x,.int .u64 b]).run Tryz.prog w=.ok (.value (.tuple #[.int .u64 d,.int .u64 c])) w:=by
 obtain⟨X,rfl⟩:=Int.eq_ofNat_of_zero_le h0;obtain⟨B,rfl⟩:=Int.eq_ofNat_of_zero_le hb0;have law:=λ w=>acb 0 X B TD w
 refine⟨_,_,?_,?_,?_,?_,?_,?_,law⟩
 ·omega
 ·unfold M;omega
 ·omega
 ·split <;> omega
 ·unfold M at*;omega
 ·by_cases hx:0 < X+B
  ·rw[if_pos TD,if_pos TD];rfl
  ·rw[if_neg TD,if_neg TD];rfl
theorem zfc.Kbg(h:p:=by exact⟨_,λ w=>KY (hi a) (lo a) n q r _ nl c nh c2 hn e0 hs hd (Int.tmod_eq_emod_of_nonneg e0) s1 s2 w⟩):p:=h
theorem Zk (a n:Int)(ha0:0<=a)(ha1:a < M*M)(hn:0 < n)(uT:n < 512):∃v,Pa a n v:=by
 have h0:=sj ha0;have h1:=afF ha1;have l0:=si a;have l1:=Sz a;by_cases hs:(hi a / 9223372036854775808==0)=true
 ·have NW:=Int.emod_nonneg (hi a) (show n≠0 by omega);have Ij:=Int.emod_lt_of_pos (hi a) hn;obtain⟨q,r,hd⟩:=Ik (hi a % n) (lo a) n NW Ij uT l0 l1;exact⟨_,λ w=>KX (hi a) (lo a) n q r _ hn h0 hs hd (Int.tmod_eq_emod_of_nonneg h0) w⟩
 ·open zfc in exact Zdd
structure St where
 op:Int
 all:Int
 count:Int
 sum:Int
 a:Val
 b:Val
 found:Bool
def St.cells (s:St):x_:= #[ag s.op,af s.all,af s.count,.int .u64 (hi s.sum),.int .u64 (lo s.sum),ag s.a.k,af s.a.n,.string s.a.s,ag s.b.k,af s.b.n,.string s.b.s,.bool s.found]
def cF (w:rQ)(p:Nat)(s:St):Prop:=aB w p 199 s.cells
theorem SB (a b:Int): -1<=lQ a b/\lQ a b<=1:=by unfold lQ;split <;>(try split)<;> omega
theorem acd (a b:t_): -1<=lu a b/\lu a b<=1:=by unfold lu;split <;>(try split)<;> omega
theorem Im (a b:Val): -1<=bM a b/\bM a b<=1:=by have h1:=SB a.k b.k;have h2:=SB a.n b.n;have h3:=acd a.s b.s;unfold bM or3;split <;>(try split)<;> assumption
def St.rank (s:St)(a b:Val):Int:=oB (bM b s.b) (bM a s.a)
def St.better (s:St)(a b:Val):Bool:= !s.found || decide ((if s.op=25\/s.op=28 then -(s.rank a b)else s.rank a b)< 0)
def St.take (s:St)(a b:Val):St:=if s.better a b then { s with a:=a,b:=b,found:=true } else s
variable{s:St}
theorem cF.iu{w:rQ} {p:Nat} (h:cF w p s):w.cell? ⟨p,0,none⟩=some (ag s.op)/\w.cell? ⟨p,1,none⟩=some (af s.all)/\w.cell? ⟨p,2,none⟩=some (af s.count)/\w.cell? ⟨p,3,none⟩=some (.int .u64 (hi s.sum))/\w.cell? ⟨p,4,none⟩=some (.int .u64 (lo s.sum))/\
  w.cell? ⟨p,5,none⟩=some (ag s.a.k)/\w.cell? ⟨p,6,none⟩=some (af s.a.n)/\w.cell? ⟨p,7,none⟩=some (.string s.a.s)/\w.cell? ⟨p,8,none⟩=some (ag s.b.k)/\w.cell? ⟨p,9,none⟩=some (af s.b.n)/\w.cell? ⟨p,10,none⟩=some (.string s.b.s)/\w.cell? ⟨p,11,none⟩=some (.bool s.found):=
 ⟨h.cell 0,h.cell 1,h.cell 2,h.cell 3,h.cell 4,h.cell 5,h.cell 6,h.cell 7,h.cell 8,h.cell 9,h.cell 10,h.cell 11⟩
def St.some_ (s:St)(a:Val):St:=if a.k=0 then s else { s with count:=s.count+1 }
def St.put (s:St)(a:Val):St:=if a.k=2 then { s with count:=s.count+1,sum:=lY s.sum (gK a.n)} else s
def St.alone (s:St)(a:Val):St:=if a.k=0 then s else s.take a aC
def St.BD (s:St)(a b:Val):St:=if b.k=2 then s.take a b else s
theorem mR (w:rQ)(es:Array MapEntry)(c:Nat)(k:Int)(v:Value)(hf:Instr.findNow (.int .u8) (ag k) es.toList 0=some none):
  (Instr.mapUpdate 193 (.map (some w.heap.size)) (ag k) v).run Tryz.prog (w.alloc (.map es c))=.ok () (w.alloc (.map (es.push ⟨ag k,v,c⟩) (c+1))):=by
 have hg:(w.alloc (.map es c)).heap[w.heap.size]?=some (.map es c):=heap_alloc_new w _
 have e1:({ w.alloc (.map es c)with heap:=(w.alloc (.map es c)).heap.setIfInBounds w.heap.size (.map (es.push ⟨ag k,v,c⟩) (c+1))}:rQ)=w.alloc (.map (es.push ⟨ag k,v,c⟩) (c+1)):=by
  have hh:∀A B:Obj,(w.heap.push A).setIfInBounds w.heap.size B=w.heap.push B:=by
   intro A B;apply Array.ext_getElem?;intro i;simp only[Array.getElem?_setIfInBounds,Array.getElem?_push,Array.size_push];by_cases h1:i=w.heap.size
   ·subst h1;simp
   ·simp[h1,Ne.symm h1]
  unfold World.alloc;simp only[hh]
 unfold Instr.mapUpdate;simp only[Sem.run_bind,run_underlying Tryz.underlying193,Result.andThen_ok,MapKept.run_getObj_map hg,xu,Instr.findKey,run_underlying Tryz.underlying5,hf,Sem.run_pure,MapKept.run_setObj_map _ hg,e1]
theorem Az (w:rQ)(g:Nat)(es:Array MapEntry)(c:Nat)(hg:w.heap[g]?=some (.map es c))(k:Int)(ok:Bool)(i:Nat)(v:Value)(hf:Instr.findNow (.int .u8) (ag k) es.toList 0=some (some (i,v))):
  (Instr.lookup 193 (.map (some g)) (ag k) ok).run Tryz.prog w=.ok (if ok then .tuple #[v,.bool true] else v) w:=by unfold Instr.lookup;simp only[Sem.run_bind,run_underlying Tryz.underlying193,Result.andThen_ok,MapKept.run_getObj_map hg,xu,Instr.findKey,run_underlying Tryz.underlying5,hf,Sem.run_pure]
def fn (f:Nat):Value:=.func (.func f) #[] #[]
def pT (op:Int):Nat:=if op=21 then 156 else if op=22 then 158 else if op=23\/op=26 then 160 else if op=24\/op=25 then 163 else 165
def vG (op:Int):Nat:=if op=21 then 157 else if op=22 then 159 else if op=23 then 161 else if op=26 then 162 else 164
def Io (op:Int):Int:=if op=21 then 0 else if op=27\/op=28 then 2 else 1
def bX (op:Int):Value:=.agg #[fn (pT op),fn (vG op),af (Io op)]
def zP:Array MapEntry:= #[⟨ag 21,bX 21,0⟩,⟨ag 22,bX 22,1⟩,⟨ag 23,bX 23,2⟩,⟨ag 26,bX 26,3⟩,⟨ag 24,bX 24,4⟩,⟨ag 25,bX 25,5⟩,⟨ag 27,bX 27,6⟩,⟨ag 28,bX 28,7⟩]
theorem AB (op:Int)(h0:21<=op)(h1:op<=28):∃i,Instr.findNow (.int .u8) (ag op) zP.toList 0=some (some (i,bX op)):=by
 have:op=21\/op=22\/op=23\/op=24\/op=25\/op=26\/op=27\/op=28:=by omega
 rcases this with rfl | rfl | rfl | rfl | rfl | rfl | rfl | rfl
 ·exact⟨0,rfl⟩
 ·exact⟨1,rfl⟩
 ·exact⟨2,rfl⟩
 ·exact⟨4,rfl⟩
 ·exact⟨5,rfl⟩
 ·exact⟨3,rfl⟩
 ·exact⟨6,rfl⟩
 ·exact⟨7,rfl⟩
theorem jN (w:rQ):ar 104 #[] w λ e w'=>e=.returned (.map (some w.heap.size))/\w'=w.alloc (.map zP 8):=by have hmm:= @run_makeMap Tryz.prog;have i1:=mR w #[] 0 21 (bX 21) rfl;have i2:=mR w #[⟨ag 21,bX 21,0⟩] 1 22 (bX 22) rfl;have i3:=mR w #[⟨ag 21,bX 21,0⟩,⟨ag 22,bX 22,1⟩] 2 23 (bX 23) rfl;have i4:=mR w #[⟨ag 21,bX 21,0⟩,⟨ag 22,bX 22,1⟩,⟨ag 23,bX 23,2⟩] 3 26 (bX 26) rfl;have i5:=mR w #[⟨ag 21,bX 21,0⟩,⟨ag 22,bX 22,1⟩,⟨ag 23,bX 23,2⟩,⟨ag 26,bX 26,3⟩] 4 24 (bX 24) rfl;have i6:=mR w #[⟨ag 21,bX 21,0⟩,⟨ag 22,bX 22,1⟩,⟨ag 23,bX 23,2⟩,⟨ag 26,bX 26,3⟩,⟨ag 24,bX 24,4⟩] 5 25 (bX 25) rfl;have i7:=mR w #[⟨ag 21,bX 21,0⟩,⟨ag 22,bX 22,1⟩,⟨ag 23,bX 23,2⟩,⟨ag 26,bX 26,3⟩,⟨ag 24,bX 24,4⟩,⟨ag 25,bX 25,5⟩] 6 27 (bX 27) rfl;have i8:=mR w #[⟨ag 21,bX 21,0⟩,⟨ag 22,bX 22,1⟩,⟨ag 23,bX 23,2⟩,⟨ag 26,bX 26,3⟩,⟨ag 24,bX 24,4⟩,⟨ag 25,bX 25,5⟩,⟨ag 27,bX 27,6⟩] 7 28 (bX 28) rfl;simp[bX,fn,pT,vG,Io] at i1 i2 i3 i4 i5 i6 i7 i8;go_enter Tryz.func104,Tryz.ntmps104;exact Zfo
def isAgg (op:Int):Bool:=decide (21<=op)&& decide (op<=28)
theorem ahF (x y z:Value)(w:rQ):(Instr.field 192 (.agg #[x,y,z]) 1).run Tryz.prog w=.ok y w:=by exact ZgH
def fA (op:Int):St:=⟨op,0,0,0,aC,aC,false⟩
def St.does (s:St)(a b:Val):St:=
 if s.op=21 then s else if s.op=22 then s.some_ a else if s.op=23\/s.op=26 then s.put a else if s.op=24\/s.op=25 then s.alone a else s.BD a b
def St.feed (s:St)(a b:Val):St:=St.does { s with all:=s.all+1 } a b
structure St.Ok (s:St):Prop where
 op0:21<=s.op
 op1:s.op<=28
 amP:0<=s.all
 aum:s.all < 4611686018427387905
 xC:0<=s.count
 Ip:s.count < 4611686018427387904
 ace:0<=s.sum
 acf:s.sum < M*M
theorem mS (n:Int)(w:rQ):ar 189 #[af n] w λ e w'=>e=.returned (.agg #[ag 2,af n,.string ByteArray.empty])/\aj w w':=by go_enter Tryz.func189,Tryz.ntmps189;go_wp2;exact bodyPost_ret (v:=.agg #[ag 2,af n,.string ByteArray.empty]) (by simp[results,Tryz.results189,go_sem];rfl) rfl ⟨rfl,by go_grown⟩
theorem Zl (p:Nat)(s:St)(w:rQ)(h:cF w p s):ar 164 #[aw p] w λ e w'=>e=.returned (bP s.a 0)/\aj w w':=by have cS:=cF.iu h;have hp:=aB.lt h;unfold bP;clear h;go_enter Tryz.func164,Tryz.ntmps164;go_wp2;exact bodyPost_ret (v:=.tuple #[.agg #[ag s.a.k,af s.a.n,.string s.a.s],af 0]) (by simp[results,Tryz.results164,go_sem]) rfl ⟨rfl,by go_grown⟩
theorem zfi.Kbj(h:p:=by exact bodyPost_ret (v:=.tuple #[.agg #[ag 2,af s.all,.string ByteArray.empty],af 0]) (by simp[results,Tryz.results157,go_sem,dz]) rfl ⟨rfl,((hB.setCell (Nat.le_refl _) _).setCell (Nat.le_refl _) _).setCell (Nat.le_refl _) _⟩):p:=h
theorem UZ (p:Nat)(s:St)(w:rQ)(h:cF w p s):ar 157 #[aw p] w λ e w'=>e=.returned (bP (num s.all) 0)/\aj w w':=by have cS:=cF.iu h;have hp:=aB.lt h;unfold bP num;clear h;go_enter Tryz.func157,Tryz.ntmps157;open zfi in exact Zds
theorem zfj.Kbj(h:p:=by exact bodyPost_ret (v:=.tuple #[.agg #[ag 2,af s.count,.string ByteArray.empty],af 0]) (by simp[results,Tryz.results159,go_sem,dz]) rfl ⟨rfl,((hB.setCell (Nat.le_refl _) _).setCell (Nat.le_refl _) _).setCell (Nat.le_refl _) _⟩):p:=h
theorem Zm (p:Nat)(s:St)(w:rQ)(h:cF w p s):ar 159 #[aw p] w λ e w'=>e=.returned (bP (num s.count) 0)/\aj w w':=by have cS:=cF.iu h;have hp:=aB.lt h;unfold bP num;clear h;go_enter Tryz.func159,Tryz.ntmps159;open zfj in exact Zds
def St.total (s:St):Val×Int:=if s.count=0 then(aC,0)else if kr s.sum then(num (yO (lo s.sum)),0)else(aC,43)
theorem Vc (p:Nat)(s:St)(w:rQ)(h:cF w p s):ar 161 #[aw p] w λ e w'=>e=.returned (bP s.total.1 s.total.2)/\aj w w':=by
 have cS:=cF.iu h;have hp:=aB.lt h;have hN:=λ w=>OZ s.sum w
 have HN:=aa hN;clear hN;have H0:=aa (show∀(hz:s.count=0),s.total=(aC,0)from λ hz=>if_pos hz);have H1:=aa (show∀(hz:¬s.count=0) (hn:kr s.sum=true),s.total=(num (yO (lo s.sum)),0)from λ hz hn=>by unfold St.total;rw[if_neg hz,if_pos hn]);have H2:=aa (show∀(hz:¬s.count=0) (hn:kr s.sum=false),s.total=(aC,43)from λ hz hn=>by unfold St.total;rw[if_neg hz,if_neg (by rw[hn];decide)]);generalize yO (lo s.sum)=n at*;go_enter Tryz.func161,Tryz.ntmps161;go_wp2_with fail;refine(HN.ae _).mono ?_;rintro e w1 ⟨rfl,b1⟩;have hR:=(aB.new w 44 #[ag 0,af 0,.string { data:= #[] }]).later b1;have dz:=aK hR;have cN:=aB.frozen hR;have hS1:=cF.iu (aB.later ((aB.alloc h (.cells #[ag 0,af 0,.string { data:= #[] }] 44))) b1);have hB:aj w w1:=((Below.refl _ _).alloc (Nat.le_refl _) _).trans (b1.mono Taa);have hlt:=hR.lt;have HR:=aa hR;clear b1 hR cS h;by_cases hz:s.count=0
 ·have t1:(s.count==0)=true:=by simp[hz]
  have HZ:=aa hz;clear hz;go_wp2_with fail;rw[H0.ae HZ.ae];exact bodyPost_ret (v:=.tuple #[.agg #[ag 0,af 0,.string ByteArray.empty],af 0]) Ta1 rfl ⟨rfl,((hB.setCell (Nat.le_refl _) _).setCell (Nat.le_refl _) _).setCell (Nat.le_refl _) _⟩
 ·have t1:(s.count==0)=false:=by simp[hz]
  cases hn:kr s.sum
  ·go_wp2_with fail;rw[H2.ae hz hn];exact bodyPost_ret (v:=.tuple #[.agg #[ag 0,af 0,.string ByteArray.empty],af 43]) Ta1 rfl ⟨rfl,((hB.setCell (Nat.le_refl _) _).setCell (Nat.le_refl _) _).setCell (Nat.le_refl _) _⟩
  ·go_wp2_with fail;refine(mS _ _).mono ?_;rintro e w3 ⟨rfl,hL⟩;have hR:=HR.ae.later hL;have Kx:=aK hR;have iB:=aB.frozen hR;have eI:aj w w3:=hB.trans (hL.mono hB.size);clear hL hR dz cN;go_wp2_with fail;rw[H1.ae hz hn];exact bodyPost_ret (v:=.tuple #[.agg #[ag 2,af n,.string ByteArray.empty],af 0]) (by simp[results,Tryz.results161,go_sem,Kx]) rfl ⟨rfl,((eI.setCell (Nat.le_refl _) _).setCell (Nat.le_refl _) _).setCell (Nat.le_refl _) _⟩
def Pb (s:St)(v:Val):Prop:=(s.count=0/\v=aC)\/(s.count≠0/\∃q,Pa s.sum s.count q/\v=num q)
theorem acg (s:St)(ok:s.Ok)(hc:s.count < 512):∃v,Pb s v:=by
 by_cases h:s.count=0
 ·exact⟨_,.inl ⟨h,rfl⟩⟩
 ·obtain⟨q,hq⟩:=Zk s.sum s.count ok.ace ok.acf (by have:=ok.xC;omega) hc;exact⟨_,.inr ⟨h,q,hq,rfl⟩⟩
theorem zf7.KbC(h:p:=by
 clear cS hp h;generalize w.alloc (.cells #[ag 0,af 0,.string { data:= #[] }] 44)=W at*;have cS:=λ y2:Ext W.heap.size W=>cF.iu (aB.later hS y2.h)
 refine aW 11 W.heap.size W (Below.refl _ _) WC WC WC WC ?_;simp only[Uab];repeat (go_big_quiet_step (first
  |(go_at_call 193;exact aP (Nat.le_refl _) (HQ.ae _))
  |(go_at_call 189;exact aP (Nat.le_refl _) (mS _ _))))
 refine wpQuiet_nil ?_;rintro w3 ⟨y2,fI⟩;have hL:=y2.h;rw[<- fI] at hL;clear cS fI y2;have hR:=KK.later hL;have Kx:=aK hR;have iB:=aB.frozen hR;have eI:aj w w3:=hB.trans (hL.mono hB.size);clear hR KK hL hS;go_wp2_with fail;exact bodyPost_ret (v:=.tuple #[.agg #[ag 2,af q,.string ByteArray.empty],af 0]) (by simp[results,Tryz.results162,go_sem,Kx]) rfl ⟨rfl,((eI.setCell (Nat.le_refl _) _).setCell (Nat.le_refl _) _).setCell (Nat.le_refl _) _⟩):p:=h
theorem Zn (p:Nat)(s:St)(v:Val)(w:rQ)(h:cF w p s)(ok:s.Ok)(hv:Pb s v):ar 162 #[aw p] w λ e w'=>e=.returned (bP v 0)/\aj w w':=by
 have cS:=cF.iu h;have hp:=aB.lt h;have q0:=ok.xC;have q1:=ok.Ip;rcases hv with ⟨hz,rfl⟩|⟨hz,q,hq,rfl⟩
 ·have t1:(s.count==0)=true:=by simp[hz]
  clear hz;unfold bP aC;go_enter Tryz.func162,Tryz.ntmps162;go_wp2_with fail;exact bodyPost_ret (v:=.tuple #[.agg #[ag 0,af 0,.string ByteArray.empty],af 0]) (by simp[results,Tryz.results162,go_sem];try rfl) rfl ⟨rfl,by go_grown⟩
 ·have t1:(s.count==0)=false:=by simp[hz]
  have HQ:=aa hq;clear hz hq;unfold bP num;have hu:IntKind.u64.wrap s.count=s.count:=by rw[IntKind.wrap_u64];omega
  go_enter Tryz.func162,Tryz.ntmps162;open zf7 in exact Zee
def fM (s:St)(v:Val)(err:Int):Prop:=
 if s.op=21 then v=num s.all/\err=0 else if s.op=22 then v=num s.count/\err=0 else if s.op=23 then v=s.total.1/\err=s.total.2 else if s.op=26 then Pb s v/\err=0 else v=s.a/\err=0
theorem ahG (s:St)(ok:s.Ok)(hc:s.count < 512):∃v err,fM s v err:=by
 unfold fM;split
 ·exact⟨_,_,rfl,rfl⟩
 ·split
  ·exact⟨_,_,rfl,rfl⟩
  ·split
   ·exact⟨_,_,rfl,rfl⟩
   ·split
    ·obtain⟨v,hv⟩:=acg s ok hc;exact⟨v,_,hv,rfl⟩
    ·exact⟨_,_,rfl,rfl⟩
theorem ahH (p:Nat)(s:St)(v:Val)(err:Int)(w:rQ)(h:cF w p s)(ok:s.Ok)(hv:fM s v err):ar (vG s.op) #[aw p] w λ e w'=>e=.returned (bP v err)/\aj w w':=by
 unfold fM at hv;unfold vG;by_cases h1:s.op=21
 ·rw[if_pos h1] at*;obtain⟨rfl,rfl⟩:=hv;exact UZ p s w h
 ·rw[if_neg h1] at*;by_cases h2:s.op=22
  ·rw[if_pos h2] at*;obtain⟨rfl,rfl⟩:=hv;exact Zm p s w h
  ·rw[if_neg h2] at*;by_cases h3:s.op=23
   ·rw[if_pos h3] at*;obtain⟨rfl,rfl⟩:=hv;exact Vc p s w h
   ·rw[if_neg h3] at*;by_cases h4:s.op=26
    ·rw[if_pos h4] at*;obtain⟨hm,rfl⟩:=hv;exact Zn p s v w h ok hm
    ·rw[if_neg h4] at*;obtain⟨rfl,rfl⟩:=hv;exact Zl p s w h
theorem KZ (args:x_)(w:rQ):(callFunc 157 args).run Tryz.prog w=.ok (.enter 157 args) w:=by exact ZgH
theorem Pc (args:x_)(w:rQ):(callFunc 159 args).run Tryz.prog w=.ok (.enter 159 args) w:=by exact ZgH
theorem La (args:x_)(w:rQ):(callFunc 161 args).run Tryz.prog w=.ok (.enter 161 args) w:=by exact ZgH
theorem Pf (args:x_)(w:rQ):(callFunc 162 args).run Tryz.prog w=.ok (.enter 162 args) w:=by exact ZgH
theorem Pg (args:x_)(w:rQ):(callFunc 164 args).run Tryz.prog w=.ok (.enter 164 args) w:=by exact ZgH
theorem Vd (op:Int)(args:x_)(w:rQ):(callFunc (vG op) args).run Tryz.prog w=.ok (.enter (vG op) args) w:=by
 unfold vG;split
 ·exact KZ args w
 ·split
  ·exact Pc args w
  ·split
   ·exact La args w
   ·split
    ·exact Pf args w
    ·exact Pg args w
def SC (p:Nat)(op:Int)(v0:Val)(err:Int):Nat->rQ->Value->Prop
 | 0=>λ w v=>∃g,v=.map (some g)/\w.heap[g]?=some (.map zP 8)
 | 1=>λ _ v=>v=aw p
 | 2=>λ _ v=>v=aw p
 | 3=>λ _ v=>v=aw p
 | 4=>λ _ v=>v=ag op
 | 5=>λ _ v=>v=bX op
 | 6=>λ _ v=>v=fn (vG op)
 | 7=>λ _ v=>v=aw p
 | 8=>λ _ v=>v=bP v0 err
 | 9=>λ _ v=>v=.agg (aJ v0)
 | 10=>λ _ v=>v=af err
 | _=>λ _ _=>True
theorem Lb (p:Nat)(op:Int)(v0:Val)(err:Int)(i:Nat)(w w':rQ)(v:Value)(h:SC p op v0 err i w v)(hl:ai w w'):SC p op v0 err i w' v:=by unfold SC at*;exact Zda
theorem zf8.KbC(h:p:=by
 clear h;generalize w.alloc (.cells #[ag 0,af 0,.string { data:= #[] }] 44)=W at*;refine bz 11 (SC p s.op v err) (Lb p s.op v err) WC WC WC ?_ ?_
 ·simp only[take_succ_cons,take_zero];refine⟨ZcO,Zhn,?_,?_,?_,?_,?_,Zhn,?_,Zf7,Zf7,trivial⟩
  ·intro ρ w3 hc hL hr;have h1:ρ (.tmp 8)=aw p:=hr.1;exact ZcE
  ·intro ρ w3 hc hL hr;have h1:ρ (.tmp 9)=aw p:=hr.1;exact ZcE
  ·intro ρ w3 hc hL hr;have h1:ρ (.tmp 10)=aw p:=hr.1;have c0:=(cF.iu (aB.later hS hL)).1;exact ZdK
  ·intro ρ w3 hc hL hr;obtain⟨g,h1,hgm⟩:∃g,ρ (.tmp 7)=.map (some g)/\w3.heap[g]?=some (.map zP 8):=hr.1;have h2:ρ (.tmp 11)=ag s.op:=hr.2.1;obtain⟨i,hi⟩:=AB s.op HK.ae.op0 HK.ae.op1;exact Zft
  ·intro ρ w3 hc hL hr;have h1:ρ (.tmp 12)=bX s.op:=hr.1;have hf:=ahF (fn (pT s.op)) (fn (vG s.op)) (af (Io s.op)) w3;exact Zg8
  ·intro ρ w3 hc hL hr;have h1:ρ (.tmp 13)=.func (.func (vG s.op)) #[] #[]:=hr.1;have h2:ρ (.tmp 14)=aw p:=hr.2.1;refine bp (f:=vG s.op) (args:= #[aw p]) (w':=w3) (by simp[go_sem,h1,h2,Vd]) ?_;refine(ahH p s v err w3 (aB.later hS hL) HK.ae HV.ae).mono ?_;rintro e w2 ⟨rfl,b2⟩;exact⟨_,rfl,b2,rfl⟩
 ·intro w3 hL;simp only[Uab];rintro _ ⟨g,rfl,hgm⟩ _ rfl _ rfl _ rfl _ rfl _ rfl _ rfl _ rfl _ rfl _ rfl _ rfl;have hR:=KK.later hL;have Kx:=aK hR;have iB:=aB.frozen hR;have eI:aj w w3:=hB.trans (hL.mono hB.size);clear hR KK hL hS;simp only[bA,Act.put,Uac,fn];go_wp2_with fail;exact bodyPost_ret (v:=.tuple #[.agg (aJ v),af err]) (by simp[results,Tryz.results68,go_sem,Kx]) rfl ⟨rfl,((eI.setCell (Nat.le_refl _) _).setCell (Nat.le_refl _) _).setCell (Nat.le_refl _) _⟩):p:=h
theorem Ph (p:Nat)(s:St)(v:Val)(err:Int)(w:rQ)(h:cF w p s)(ok:s.Ok)(hv:fM s v err):
  ar 68 #[aw p] w λ e w'=>e=.returned (bP v err)/\aj w w':=by have HV:=aa hv;have HK:=aa ok;clear hv ok;go_enter Tryz.func68,Tryz.ntmps68;open zf8 in exact Zee
def St.yP (s:St)(l:List (Val×Val)):St:=l.foldl (λ s x=>s.feed x.1 x.2) s
def cy (op:Int)(l:List (Val×Val)):St:=(fA op).yP l
structure Good {γ:Type} (c:γ->γ->Int):Prop where
 jd:∀x y,c x y= -(c y x)
 trans:∀x y z,c x y<=0->c y z<=0->c x z<=0
variable{γ:Type}
theorem Good.lex{c d:γ->γ->Int}(hc:Good c)(hd:Good d):Good λ x y=>oB (c x y) (d x y):=by
 constructor
 ·intro x y;have h1:=hc.jd x y;have h2:=hd.jd x y;unfold oB;split <;> split <;> omega
 ·intro x y z h1 h2;have a1:c x y<=0:=by unfold oB at h1;split at h1 <;> omega
  have a2:c y z<=0:=by unfold oB at h2;split at h2 <;> omega
  have a3:=hc.trans x y z a1 a2;show oB (c x z) (d x z)<=0;by_cases h0:c x z=0
  ·have b0:c z x=0:=by have:=hc.jd z x;omega
   have b1:=hc.trans z x y TD a1;have b2:=hc.trans y z x a2 TD;have e1:=hc.jd z y;have e2:=hc.jd y x;have z1:c x y=0:=by omega
   have z2:c y z=0:=by omega
   have:=hd.trans x y z (by simpa [oB,z1] using h1) (by simpa [oB,z2] using h2);simpa [oB,h0] using this
  ·simpa [oB,h0] using a3
theorem Good.flip{c:γ->γ->Int}(hc:Good c):Good λ x y=> -(c x y):=by
 constructor
 ·intro x y;have:=hc.jd x y;omega
 ·intro x y z h1 h2;have a1:=hc.jd x y;have a2:=hc.jd y z;have a3:=hc.jd x z;have:=hc.trans z y x TD TD;show -(c x z)<=0;omega
variable{δ:Type}
theorem Good.eJ{c:γ->γ->Int}(hc:Good c)(f:δ->γ):Good λ x y=>c (f x) (f y):=⟨λ x y=>hc.jd _ _,λ x y z=>hc.trans _ _ _⟩
theorem Fo:Good lQ:=by
 constructor
 ·intro x y;unfold lQ;split <;> split <;>(try split)<;>(try split)<;> omega
 ·intro x y z h1 h2;have a:x<=y:=by unfold lQ at h1;split at h1 <;>(try split at h1)<;> omega
  have b:y<=z:=by unfold lQ at h2;split at h2 <;>(try split at h2)<;> omega
  unfold lQ;split
  ·omega
  ·rw[if_neg TD];omega
theorem Fp{a b:Int}(h:lQ a b=0):a=b:=by unfold lQ at h;split at h <;>(try split at h)<;> omega
theorem kt:∀x:w_,Op.bytesLess x x=false
 | []=>rfl
 | a::x=>by simp[Op.bytesLess,kt x]
theorem ug:∀x y:w_,Op.bytesLess x y=true->Op.bytesLess y x=false
 | _,[],h=>by simp[Op.bytesLess] at h
 | [],_::_,_=>by simp[Op.bytesLess]
 | a::x,b::y,h=>by
   simp only[Op.bytesLess,Bool.or_eq_true,Bool.and_eq_true,decide_eq_true_eq,beq_iff_eq] at h;simp only[Op.bytesLess,Bool.or_eq_false_iff,Bool.and_eq_false_iff,decide_eq_false_iff_not,beq_eq_false_iff_ne];rcases h with h |⟨rfl,h⟩
   ·refine⟨λ h'=>?_,.inl λ e=>?_⟩
    ·exact absurd (UInt8.lt_trans h h') (UInt8.lt_irrefl _)
    ·subst e;exact UInt8.lt_irrefl _ h
   ·exact⟨UInt8.lt_irrefl _,.inr (ug x y h)⟩
theorem oU:∀x y:w_,Op.bytesLess x y=false->Op.bytesLess y x=false->x=y
 | [],[],_,_=>rfl
 | [],_::_,h,_=>by simp[Op.bytesLess] at h
 | _::_,[],_,h=>by simp[Op.bytesLess] at h
 | a::x,b::y,h1,h2=>by simp only[Op.bytesLess,Bool.or_eq_false_iff,Bool.and_eq_false_iff,decide_eq_false_iff_not,beq_eq_false_iff_ne] at h1 h2;have hab:a=b:=UInt8.le_antisymm (UInt8.not_lt.1 h2.1) (UInt8.not_lt.1 h1.1);subst hab;have:=oU x y (by rcases h1.2 with h | h;exact absurd rfl h;exact h) (by rcases h2.2 with h | h;exact absurd rfl h;exact h);rw[this]
theorem BF:∀x y z:w_,Op.bytesLess x y=true->Op.bytesLess y z=true->Op.bytesLess x z=true
 | _,[],_,h,_=>by simp[Op.bytesLess] at h
 | _,_::_,[],_,h=>by simp[Op.bytesLess] at h
 | [],_::_,_::_,_,_=>by simp[Op.bytesLess]
 | a::x,b::y,c::z,h1,h2=>by
   simp only[Op.bytesLess,Bool.or_eq_true,Bool.and_eq_true,decide_eq_true_eq,beq_iff_eq] at h1 h2 ⊢;rcases h1 with h1 |⟨rfl,h1⟩
   ·rcases h2 with h2 |⟨rfl,h2⟩
    ·exact .inl (UInt8.lt_trans h1 h2)
    ·exact .inl h1
   ·rcases h2 with h2 |⟨rfl,h2⟩
    ·exact .inl h2
    ·exact .inr ⟨rfl,BF x y z h1 h2⟩
theorem ach{a b:t_}:lu a b<=0↔Op.bytesLess b.toList a.toList=false:=by
 unfold lu;split
 ·rename_i h;simp[ug _ _ h]
 ·rename_i h;split
  ·rename_i h2;rw[beq_iff_eq] at h2;rw[h2];simp[kt]
  ·rename_i h2;constructor
   ·intro h;omega
   ·intro h3;exact absurd (by rw[beq_iff_eq];exact oU _ _ Tai h3) h2
theorem Ve:Good lu:=by
 constructor
 ·intro x y;unfold lu;by_cases h1:Op.bytesLess x.toList y.toList=true
  ·rw[if_pos h1,if_neg (by rw[ug _ _ h1];decide),if_neg (λ e=>by rw[beq_iff_eq] at e;rw[e,kt] at h1;cases h1)]
  ·rw[if_neg h1];by_cases h2:Op.bytesLess y.toList x.toList=true
   ·rw[if_pos h2,if_neg (λ e=>by rw[beq_iff_eq] at e;rw[e,kt] at h2;cases h2)];rfl
   ·rw[if_neg h2];have e:=oU _ _ Ta5 (by simpa using h2);rw[e];simp
 ·intro x y z h1 h2;rw[ach] at*;cases h3:Op.bytesLess z.toList x.toList
  ·rfl
  ·exfalso;cases h4:Op.bytesLess x.toList y.toList
   ·have e:=oU _ _ h4 h1;rw[e,h2] at h3;cases h3
   ·rw[BF _ _ _ h3 h4] at h2;cases h2
theorem Vf{a b:t_}(h:lu a b=0):a=b:=by
 unfold lu at h;split at h
 ·omega
 ·split at h
  ·rename_i h2;rw[beq_iff_eq,ByteArray.toList_eq,ByteArray.toList_eq] at h2;exact Go.WideShapes.bytes_inj h2
  ·omega
theorem jO:Good bM:=(Fo.eJ Val.k).lex ((Fo.eJ Val.n).lex (Ve.eJ Val.s))
variable{y:Int}
theorem Ld{x:Int}(h:oB x y=0):x=0/\y=0:=by unfold oB at h;split at h <;> omega
theorem Fq{a b:Val}(h:bM a b=0):a=b:=by obtain⟨h1,h2⟩:=Ld (show oB (lQ a.k b.k) (oB (lQ a.n b.n) (lu a.s b.s))=0 from h);obtain⟨h2,h3⟩:=Ld h2;obtain⟨k,n,s⟩:=a;obtain⟨k',n',s'⟩:=b;have:=Fp h1;have:=Fp h2;have:=Vf h3;simp_all
def pc (op:Int)(x y:Val×Val):Int:=if op=25\/op=28 then -(oB (bM x.2 y.2) (bM x.1 y.1))else oB (bM x.2 y.2) (bM x.1 y.1)
theorem SD (op:Int):Good (pc op):=by
 have h:Good λ x y:Val×Val=>oB (bM x.2 y.2) (bM x.1 y.1):=(jO.eJ Prod.snd).lex (jO.eJ Prod.fst)
 by_cases ho:op=25\/op=28
 ·have e:pc op=λ x y=> -(oB (bM x.2 y.2) (bM x.1 y.1)):=by funext x y;simp[pc,ho]
  rw[e];exact h.flip
 ·have e:pc op=λ x y=>oB (bM x.2 y.2) (bM x.1 y.1):=by funext x y;simp[pc,ho]
  rw[e];exact h
def xD (op:Int)(f:Bool)(a b:Val)(K:Val×Val->Prop):Prop:=
 (f=false/\a=aC/\b=aC/\∀y,¬K y)\/(f=true/\K (a,b)/\∀y,K y->0<=pc op y (a,b))
variable{f:Bool}{K K':Val×Val->Prop}
theorem xD.iff{op:Int}  {a b:Val} (h:xD op f a b K)(hK:∀y,K' y↔K y):xD op f a b K':=by
 have:K'=K:=by funext y;exact propext (hK y)
 rw[this];exact h
theorem Fs (s:St)(c d:Val):s.better c d=(!s.found || decide (pc s.op (c,d) (s.a,s.b)< 0)):=by unfold St.better St.rank pc;rfl
variable{d:Val}{K1 K2:Val×Val->Prop}
theorem xD.join{c:Val} (h1:xD s.op s.found s.a s.b K1)(h2:xD s.op true c d K2)(hK:∀y,K y↔K1 y\/K2 y):
  xD s.op (s.take c d).found (s.take c d).a (s.take c d).b K:=by
 have g:=SD s.op;rcases h2 with ⟨h,_⟩|⟨_,k2,m2⟩
 ·cases h
 unfold St.take;by_cases hb:s.better c d=true
 ·rw[if_pos hb];refine .inr ⟨rfl,(hK _).2 (.inr k2),λ y hy=>?_⟩;rcases(hK y).1 hy with hy | hy
  ·rcases h1 with ⟨_,_,_,h⟩|⟨hf,k1,m1⟩
   ·exact absurd hy (h _)
   ·rw[Fs,hf] at hb;have hb:pc s.op (c,d) (s.a,s.b)< 0:=by simpa using hb
    have a1:=m1 y hy;have a2:=g.jd y (s.a,s.b);have a3:=g.trans (c,d) (s.a,s.b) y TD TD;have a4:=g.jd y (c,d);show 0<=pc s.op y (c,d);omega
  ·exact m2 y hy
 ·rw[if_neg hb];rw[Fs] at hb;simp at hb;rcases h1 with ⟨hf,_⟩|⟨hf,k1,m1⟩
  ·rw[hb.1] at hf;cases hf
  ·refine .inr ⟨hf,(hK _).2 (.inl k1),λ y hy=>?_⟩;rcases(hK y).1 hy with hy | hy
   ·exact m1 y hy
   ·have a1:=m2 y hy;have a2:=g.jd y (c,d);have a0:=hb.2;have a5:=g.jd (c,d) (s.a,s.b);have a3:=g.trans (s.a,s.b) (c,d) y TD TD;have a4:=g.jd y (s.a,s.b);omega
theorem sk (s:St)(c d:Val):(s.take c d).op=s.op/\(s.take c d).all=s.all/\(s.take c d).count=s.count/\(s.take c d).sum=s.sum:=by unfold St.take;split <;> exact⟨rfl,rfl,rfl,rfl⟩
def key (op:Int)(x:Val×Val):Option (Val×Val):=
 if op=24\/op=25 then(if x.1.k=0 then none else some (x.1,aC))else if op=27\/op=28 then(if x.2.k=2 then some x else none)else none
def one (op:Int)(x:Val×Val):Int:=if op=22 then(if x.1.k=0 then 0 else 1)else if op=23\/op=26 then(if x.1.k=2 then 1 else 0)else 0
def Eg (op:Int)(x:Val×Val):Int:=if op=23\/op=26 then(if x.1.k=2 then x.1.n else 0)else 0
def cnt (op:Int):List (Val×Val)->Int
 | []=>0
 | x::l=>one op x+cnt op l
def vH (op:Int):List (Val×Val)->Int
 | []=>0
 | x::l=>Eg op x+vH op l
theorem Iq (op:Int):∀l m:List (Val×Val),cnt op (l++m)=cnt op l+cnt op m
 | [],m=>by simp[cnt]
 | x::l,m=>by simp[cnt,Iq op l m];omega
theorem Ir (op:Int):∀l m:List (Val×Val),vH op (l++m)=vH op l+vH op m
 | [],m=>by simp[vH]
 | x::l,m=>by simp[vH,Ir op l m];omega
def keys (op:Int)(l:List (Val×Val))(y:Val×Val):Prop:=∃x∈l,key op x=some y
structure Pj (op:Int) (s:St) (l:List (Val×Val)):Prop where
 kind:s.op=op
 all:s.all=l.length
 count:s.count=cnt op l
 sum:s.sum=vH op l %(M*M)
 aun:xD op s.found s.a s.b (keys op l)
variable{m:List (Val×Val)}
theorem Pj.turn{op:Int}  {l:List (Val×Val)}(h:Pj op s (l++m)):Pj op s (m++l):=
 ⟨h.kind,by rw[h.all];simp;omega,by rw[h.count,Iq,Iq];omega,by rw[h.sum,Ir,Ir,Int.add_comm],h.aun.iff λ y=>by simp[keys,or_comm]⟩
theorem aci (op:Int):Pj op (fA op) []:=⟨rfl,rfl,rfl,by simp[fA,vH],.inl ⟨rfl,rfl,rfl,by simp[keys]⟩⟩
variable{x:Val×Val}
theorem keys_cons{op:Int}  {l:List (Val×Val)} {y:Val×Val}:keys op (x::l) y↔keys op l y\/key op x=some y:=by simp[keys,or_comm]
theorem fB{op:Int}  {a b:Val}  {l:List (Val×Val)}(h:xD op f a b (keys op l))(hx:key op x=none):xD op f a b (keys op (x::l)):=h.iff λ y=>by rw[keys_cons,hx];simp
theorem sq{c:Val}  {l:List (Val×Val)}(h:xD s.op s.found s.a s.b (keys s.op l))(hx:key s.op x=some (c,d)):xD s.op (s.take c d).found (s.take c d).a (s.take c d).b (keys s.op (x::l)):=
 xD.join h (K2:=λ y=>y=(c,d)) (.inr ⟨rfl,rfl,λ y hy=>by
  subst hy
  have:=(SD s.op).jd (c,d) (c,d)
  omega⟩) λ y=>by rw[keys_cons,hx];simp[eq_comm]
theorem Pj.feed{op:Int}  {l:List (Val×Val)}(h:Pj op s l)(h0:21<=op)(h1:op<=28)(x:Val×Val):Pj op (s.feed x.1 x.2) (x::l):=by
 obtain⟨rfl,ha,hc,hs,hb⟩:=h;have ahI:s.op=21\/s.op=22\/s.op=23\/s.op=24\/s.op=25\/s.op=26\/s.op=27\/s.op=28:=by omega
 have hall:s.all+1=((x::l).length:Nat):=by rw[ha];simp
 unfold St.feed St.does;dsimp only;rcases ahI with o | o | o | o | o | o | o | o
 ·rw[if_pos o];exact⟨rfl,hall,by rw[hc];simp[cnt,one,o],by rw[hs];simp[vH,Eg,o],fB hb TaK⟩
 ·rw[if_neg TD,if_pos o];unfold St.some_;split
  ·rename_i hk;exact⟨rfl,hall,by rw[hc];simp[cnt,one,o,hk],by rw[hs];simp[vH,Eg,o],fB hb TaK⟩
  ·rename_i hk;exact⟨rfl,hall,by show s.count+1=_;rw[hc];simp[cnt,one,o,hk];omega,by show s.sum=_;rw[hs];simp[vH,Eg,o],fB hb TaK⟩
 ·rw[if_neg TD,if_neg TD,if_pos TD];unfold St.put;split
  ·rename_i hk;refine⟨rfl,hall,by show s.count+1=_;rw[hc];simp[cnt,one,o,hk];omega,?_,fB hb TaK⟩;show lY s.sum (gK x.1.n)=_;rw[hs];simp only[vH,Eg,o,hk,true_or,if_true];unfold lY gK M;omega
  ·exact Zff
 ·exact ZbG
 ·exact ZbG
 ·rw[if_neg TD,if_neg TD,if_pos TD];unfold St.put;split
  ·rename_i hk;refine⟨rfl,hall,by show s.count+1=_;rw[hc];simp[cnt,one,o,hk];omega,?_,fB hb TaK⟩;show lY s.sum (gK x.1.n)=_;rw[hs];simp only[vH,Eg,o,hk,or_true,if_true];unfold lY gK M;omega
  ·exact Zff
 ·exact ZbH
 ·exact ZbH
theorem Pj.yP{op:Int}(h0:21<=op)(h1:op<=28):∀(m:List (Val×Val)) {s:St} {l:List (Val×Val)},Pj op s l->Pj op (s.yP m) (l++m)
 | [],s,l,h=>by simpa [St.yP] using h
 | x::m,s,l,h=>by have h2:=(show Pj op _ ([x]++l)from h.feed h0 h1 x).turn;have:=Pj.yP h0 h1 m h2;simpa [St.yP] using this
theorem su{op:Int}(h0:21<=op)(h1:op<=28)(l:List (Val×Val)):Pj op (cy op l) l:=by have:=Pj.yP h0 h1 l (aci op);rwa [nil_append] at this
def bR:v_->v_->Int
 | [],[]=>0
 | [],_::_=> -1
 | _::_,[]=>1
 | a::l,b::m=>if bM a b=0 then bR l m else bM a b
theorem Fu (l m:v_)(k:Nat)(h1:k < l.length)(h2:k < m.length):bR (l.drop k) (m.drop k)=if bM l[k] m[k]=0 then bR (l.drop (k+1)) (m.drop (k+1))else bM l[k] m[k]:=by rw[drop_eq_getElem_cons h1,drop_eq_getElem_cons h2];rfl
theorem Fv (l m:v_)(k:Nat)(h1:k < l.length)(h2:m.length<=k):bR (l.drop k) (m.drop k)=1:=by exact Zhi
theorem Fw (l m:v_)(k:Nat)(h2:l.length<=k)(h1:k < m.length):bR (l.drop k) (m.drop k)= -1:=by exact Zhi
theorem Le (l m:v_)(k:Nat)(h1:l.length<=k)(h2:m.length<=k):bR (l.drop k) (m.drop k)=0:=by rw[drop_eq_nil_of_le h1,drop_eq_nil_of_le h2];rfl
theorem zQ (A:z_)(c:Nat)(l:v_)(A':z_)(c':Nat)(l':v_)(w:rQ)(h:RV w w.heap.size A l)(h':RV w w.heap.size A' l')(hm:l.length<=1000)(hm':l'.length<=1000):
  ar 40 #[.slice A l.length c,.slice A' l'.length c',.func (.func 18) #[] #[]] w λ e w'=>e=.returned (af (bR l l'))/\aj w w':=by
 have HR:=aa h;have HR':=aa h';clear h h';go_enter Tryz.func40,Tryz.ntmps40;go_wp2_with fail;go_loopw [13] (λ i wr=>∃k:Nat,k<=l.length/\k<=l'.length/\i=af k/\bR (l.drop k) (l'.drop k)=bR l l'/\aj w wr) (λ i _=>l.length - (intOf i).toNat);case atStart=>exact Zhc
 case round=>
  obtain⟨k,hk,Sn,rfl,hd,hB⟩:=hrel;have HD:=aa hd;clear hd;by_cases hlt:k < l.length
  ·obtain⟨b,off,rfl,hb,c0,c1,c2⟩:=(HR.ae.below hB).at_ hlt;by_cases BG:k < l'.length
   ·have HS:=aa (Fu l l' k hlt BG);have b1:=ah wr (.cells #[ag l[k].k,af l[k].n,.string l[k].s] 44);have hV:=aB.new wr 44 #[ag l[k].k,af l[k].n,.string l[k].s];generalize l[k]=v at*;go_upto_region 6 with fail;clear c0 c1 c2;replace hB:=ai.then hB b1;generalize wr.alloc (.cells (aJ v) 44)=W1 at*;obtain⟨b',off',rfl,hb',c0',c1',c2'⟩:=(HR'.ae.below hB).at_ BG;have b2:=ah W1 (.cells #[ag l'[k].k,af l'[k].n,.string l'[k].s] 44);have hV':=aB.new W1 44 #[ag l'[k].k,af l'[k].n,.string l'[k].s];generalize l'[k]=v' at*;go_upto_region 7 with fail;clear c0' c1' c2';replace hB:=ai.then hB b2;replace hV:=hV.later b2;generalize W1.alloc (.cells (aJ v') 44)=W2 at*;obtain⟨x0,x1,x2⟩:=aK hV;obtain⟨y0,y1,y2⟩:=aK hV';go_wp2_with fail;refine(ei v v' _).mono ?_;rintro e w3 ⟨rfl,b3⟩;replace hB:=ai.then hB b3;clear x0 x1 x2 y0 y1 y2 hV hV' b1 b2 b3;exact Zcc
   ·have HS:=aa (Fv l l' k hlt TD);have b1:=ah wr (.cells #[ag l[k].k,af l[k].n,.string l[k].s] 44);generalize l[k]=v at*;go_wp2_with fail;go_ret;exact⟨by rw[<- HD.ae,HS.ae];rfl,ai.then hB b1⟩
  ·by_cases BG:k < l'.length
   ·have HS:=aa (Fw l l' k TD BG);exact ZcV
   ·have HS:=aa (Le l l' k TD TD);exact ZcV
theorem BH (A:z_)(c:Nat)(l:v_)(A':z_)(c':Nat)(l':v_)(w:rQ)(h:RV w w.heap.size A l)(h':RV w w.heap.size A' l')(hm:l.length<=1000)(hm':l'.length<=1000):
  ar 14 #[.slice A l.length c,.slice A' l'.length c'] w λ e w'=>e=.returned (af (bR l l'))/\aj w w':=by have HL:=zQ A c l A' c' l' w h h' hm hm';clear h h';go_enter Tryz.func14,Tryz.ntmps14;go_wp2_with fail;refine HL.mono ?_;exact ZcP
structure aX where
 A:z_
 l:v_
 c:Nat
def aX.v (r:aX):Value:=.slice r.A r.l.length r.c
def RR (w:rQ)(B:Nat)(A:z_)(rs:List aX):Prop:=
 rs=[]\/∃b off,A=some ⟨b,off,none⟩/\b < B/\∀i r,rs[i]?=some r->w.cell? ⟨b,off+i,none⟩=some (.slice r.A r.l.length r.c)/\RV w B r.A r.l
variable{w':rQ}{B:Nat}{rs:List aX}
theorem RR.below{w:rQ}  {A:z_} (h:RR w B A rs)(hb:Below B w w'):RR w' B A rs:=by
 rcases h with h |⟨b,off,h1,h2,h3⟩
 ·exact .inl h
 ·exact .inr ⟨b,off,h1,h2,λ i x hx=>⟨(hb.cell (p:=⟨b,off+i,none⟩) h2).trans (h3 i x hx).1,(h3 i x hx).2.below hb⟩⟩
variable{k:Nat}
theorem RR.at_{w:rQ}  {A:z_} (h:RR w B A rs) (hk:k < rs.length):∃b off,A=some ⟨b,off,none⟩/\b < B/\w.cell? ⟨b,off+k,none⟩=some (.slice rs[k].A rs[k].l.length rs[k].c)/\RV w B rs[k].A rs[k].l:=by
 rcases h with h |⟨b,off,h1,h2,h3⟩
 ·subst h;simp at hk
 ·obtain⟨h4,h5⟩:=h3 k _ (getElem?_eq_getElem hk);exact⟨b,off,h1,h2,h4,h5⟩
theorem sw:∀x y:v_,bR x y= -(bR y x)
 | [],[]=>rfl
 | [],_::_=>rfl
 | _::_,[]=>rfl
 | a::x,b::y=>by have h:=jO.jd a b;have ih:=sw x y;unfold bR;split <;> split <;> omega
theorem BI:∀x y z:v_,bR x y<=0->bR y z<=0->bR x z<=0
 | [],_,[],_,_=>by decide
 | [],_,_::_,_,_=>by simp[bR]
 | _::_,[],_,h,_=>by simp[bR] at h
 | _::_,_::_,[],_,h=>by simp[bR] at h
 | a::x,b::y,c::z,h1,h2=>by
   unfold bR at h1 h2 ⊢;have a1:bM a b<=0:=by split at h1 <;> omega
   have a2:bM b c<=0:=by split at h2 <;> omega
   have a3:=jO.trans a b c a1 a2;split
   ·rename_i h0;have e:=Fq h0;subst e;have e2:=jO.jd b a;have z1:bM a b=0:=by omega
    have z2:bM b a=0:=by omega
    rw[if_pos z1] at h1;rw[if_pos z2] at h2;exact BI x y z h1 h2
   ·exact a3
theorem fC:Good bR:=⟨sw,BI⟩
theorem xE (x:v_):bR x x=0:=by have:=sw x x;omega
theorem fD:∀x y:v_,bR x y=0->x=y
 | [],[],_=>rfl
 | [],_::_,h=>by simp[bR] at h
 | _::_,[],h=>by simp[bR] at h
 | a::x,b::y,h=>by
   unfold bR at h;split at h
   ·rename_i h0;rw[Fq h0,fD x y h]
   ·rename_i h0;exact absurd h h0
theorem Lf (l:v_):(l.flatMap aU).length=l.length*3:=by
 induction l with
 | nil=>rfl
 | cons v l ih=>simp only[flatMap_cons,length_append,ih,length_cons];simp[aU];omega
theorem Lg:∀(l:v_) (j:Nat),(l.flatMap aU)[j]?=(l[j / 3]?).bind λ v=>(aU v)[j % 3]?
 | [],j=>by simp
 | v::l,j=>by
   rw[flatMap_cons];by_cases h:j < 3
   ·rw[getElem?_append_left (by simpa [aU] using h),Nat.div_eq_of_lt h,Nat.mod_eq_of_lt h];simp
   ·have h3:(aU v).length=3:=rfl;rw[getElem?_append_right TD,h3,Lg l (j - 3)];have e1:j / 3=(j - 3)/ 3+1:=by omega
    have e2:j % 3=(j - 3)% 3:=by omega
    rw[e1,e2,getElem?_cons_succ]
theorem RV.reads{w:rQ}  {A:z_} {l:v_}(h:RV w B A l):Reads w B 3 A l.length (l.flatMap aU):=by
 refine⟨Lf l,λ hn=>?_⟩;rcases h with h |⟨b,off,rfl,h2,h3⟩
 ·subst h;simp at hn
 ·refine⟨⟨b,off,none⟩,rfl,h2,λ j u hu=>?_⟩;rw[Lg] at hu
  cases hv:l[j / 3]? with
  | none=>rw[hv] at hu;cases hu
  | some v=>
    rw[hv] at hu;have hu:(aU v)[j % 3]?=some u:=hu;obtain⟨c0,c1,c2⟩:=h3 (j / 3) v hv;rw[eB];have hj:j=j / 3*3+j % 3:=by omega
    have hlt:j % 3 < 3:=Nat.mod_lt _ TD;generalize j % 3=r at*;rw[hj]
    match r,hlt with
    | 0,_=>simp[aU] at hu;subst hu;simpa using c0
    | 1,_=>simp[aU] at hu;subst hu;rw[<- Nat.add_assoc];exact c1
    | 2,_=>simp[aU] at hu;subst hu;rw[<- Nat.add_assoc];exact c2
def RN (w:rQ)(g:Nat)(r:aX):Prop:=
 r.l=[]\/∃b off,r.A=some ⟨b,off,none⟩/\b < w.heap.size/\b≠g/\∀i x,r.l[i]?=some x->dE w b (off+i*3) x
def At (w:rQ)(g n:Nat)(D:Nat->aX):Prop:=∃cs,aB w g 38 cs/\n<=cs.size/\∀i,i < n->cs[i]?=some (D i).v
def swp (D:Nat->aX)(i j:Nat):Nat->aX:=λ k=>if k=j then D i else if k=i then D j else D k
structure SS (w0:rQ) (g n:Nat) (w:rQ) (D:Nat->aX):Prop where
 at_:At w g n D
 grown:w0.grownBy w (some g)
 rows:∀k,k < n->RN w0 g (D k)/\(D k).l.length<=1000
def jD (D:Nat->aX)(a b c:Nat):Nat->aX:=λ k=>if a<=k/\k < a+c then D (k - a+b)else if b<=k/\k < b+c then D (k - b+a)else D k
def BJ (w0:rQ)(g n:Nat)(D:Nat->aX)(e:Ending)(w':rQ):Prop:=e=.returned (.tuple #[])/\SS w0 g n w' D
def fl (D:Nat->aX)(s m e:Nat):Nat->aX:=λ k=>if s<=k/\k < e then(if k < s+(e - m)then D (k+(m - s))else D (k - (e - m)))else D k
def lt (x y:aX):Prop:=bR x.l y.l < 0
def le (x y:aX):Prop:=bR x.l y.l<=0
def gV (D:Nat->aX)(a b:Nat):Prop:=∀i j,a<=i->i < j->j < b->le (D i) (D j)
inductive Sw (a b:Nat) (D:Nat->aX):(Nat->aX)->Prop
 | refl:Sw a b D D
 | step {E:Nat->aX} {i j:Nat}:Sw a b D E->a<=i->i < b->a<=j->j < b->Sw a b D (swp E i j)
def Ins (E:Nat->aX)(a i j:Nat):Prop:=(∀p q,a<=p->p < q->q<=i->p≠j->q≠j->le (E p) (E q))/\∀q,j < q->q<=i->le (E j) (E q)
def zR (D:Nat->aX)(a k:Nat):Nat->aX:=λ x=>if a<=x/\x < k then D (x+1)else if x=k then D a else D x
def BK (D:Nat->aX)(k m:Nat):Nat->aX:=λ x=>if x=k then D m else if k < x/\x<=m then D (x - 1)else D x
structure tN (a m b mid s0 r0:Nat):Prop where
 ab:a < m/\m < b
 ahK:mid=(a+b)/ 2
 ends:(m > mid/\s0=mid+m - b/\r0=mid)\/(m<=mid/\s0=a/\r0=m)
theorem at_root{w:rQ} :∀ {t:Tr} {y:Ex},t.at_ w S y->y.op=t.op/\y.v=t.v/\y.name=t.name
 | .mk op v name width args,y,h=>by unfold Tr.at_ at h;exact⟨h.1,h.2.1,h.2.2.1⟩
def mD (y:Ex):Value:=.agg (az y)
mutual
theorem Tr.tell {α:Type}(f:Tr->α)(P:Tr->Prop)(C:rQ->Ex->α->Prop)(hP:∀op v name width ts,P (.mk op v name width ts)->∀t∈ts,P t)
  (step:∀(op:Int) (v:Val) (name:t_) (width:Int) (ts:uF) (A:z_) (c:Nat) (args:List (Ex×α)) (w:rQ),(Tr.mk op v name width ts).ok->P (.mk op v name width ts)->args.length=ts.length->args.map (·.2)=ts.map f->RE w w.heap.size A (args.map (·.1))->Tr.aM w (Old w) ts (args.map (·.1))->(∀a∈args,∀W,aj w W->C W a.1 a.2)->C w ⟨op,v,name,width,A,args.length,c⟩ (f (.mk op v name width ts))):
  ∀(t:Tr) (y:Ex) (w:rQ),t.ok->P t->t.at_ w (Old w) y->∀W,aj w W->C W y (f t)
 | .mk op v name width ts,y,w,aZ,hp,hat,W,hW=>by
   have nX:=hat.later hW;unfold Tr.at_ at nX;obtain⟨h1,h2,h3,h4,h5,ys,h6,h7⟩:=nX;have Zo:=aZ;unfold Tr.ok at Zo;obtain⟨l,fJ,hl2,ud⟩:=Tr.tells f P C hP step ts ys W Zo.2.2.2.2.2 (hP op v name width ts hp) h7;obtain⟨Kc,yv,lj,ir,yA,yn,yc⟩:=y;dsimp only at h1 h2 h3 h4 h5 h6;subst h1 h2 h3 h4 h5;have hlen:l.length=ts.length:=by
    have:(l.map (·.1)).length=ys.length:=by rw[fJ]
    rw[length_map,h7.length] at this;exact this
   have k:=step Kc yv lj ir ts yA yc l W aZ hp hlen hl2 Tbc (by rw[fJ];exact h7) ud;rw[hlen] at k;exact k
theorem Tr.tells {α:Type}(f:Tr->α)(P:Tr->Prop)(C:rQ->Ex->α->Prop)(hP:∀op v name width ts,P (.mk op v name width ts)->∀t∈ts,P t)
  (step:∀(op:Int) (v:Val) (name:t_) (width:Int) (ts:uF) (A:z_) (c:Nat) (args:List (Ex×α)) (w:rQ),(Tr.mk op v name width ts).ok->P (.mk op v name width ts)->args.length=ts.length->args.map (·.2)=ts.map f->RE w w.heap.size A (args.map (·.1))->Tr.aM w (Old w) ts (args.map (·.1))->(∀a∈args,∀W,aj w W->C W a.1 a.2)->C w ⟨op,v,name,width,A,args.length,c⟩ (f (.mk op v name width ts))):
  ∀(ts:uF) (ys:u_) (w:rQ),Tr.cH ts->(∀t∈ts,P t)->Tr.aM w (Old w) ts ys->∃l:List (Ex×α),l.map (·.1)=ys/\l.map (·.2)=ts.map f/\∀a∈l,∀W,aj w W->C W a.1 a.2
 | [],ys,w,_,_,hat=>by unfold Tr.aM at hat;subst hat;exact⟨[],rfl,rfl,by simp⟩
 | t::ts,ys,w,aZ,hp,hat=>by
   unfold Tr.aM at hat;unfold Tr.cH at aZ;obtain⟨y,ys',rfl,h2,h3⟩:=hat;obtain⟨l,fJ,hl2,ud⟩:=Tr.tells f P C hP step ts ys' w aZ.2 (λ x hx=>hp x Tbf) h3;refine⟨(y,f t)::l,by simp[fJ],by simp[hl2],λ a ha W hW=>?_⟩;rcases List.mem_cons.1 ha with rfl | ha
   ·exact Tr.tell f P C hP step t y w aZ.1 (hp t Taa) h2 W hW
   ·exact ud a ha W hW
end
structure fT (w:rQ) (ts:uF) (A:z_) (n:Nat):Prop where
 n:n=ts.length
 lies:∃ys,YO w (Old w) A ys/\Tr.aM w (Old w) ts ys
variable{ts:uF}
theorem fT.later{w:rQ}  {A:z_} {n:Nat}(h:fT w ts A n)(hb:aj w w'):fT w' ts A n:=by obtain⟨h1,ys,h2,h3⟩:=h;exact⟨h1,ys,h2.keep λ b hS=>⟨λ o=>hb.cell (p:=⟨b,o,none⟩) hS,Nat.lt_of_lt_of_le hS hb.size⟩,h3.later hb⟩
def RI (w:rQ)(B:Nat)(A:z_)(l:List (Ex×Value)):Prop:=
 l=[]\/∃b off,A=some ⟨b,off,none⟩/\b < B/\∀i x,l[i]?=some x->cg w b (off+i*8) x.1/\w.cell? ⟨b,off+i*8+7,none⟩=some x.2
theorem RI.below{w:rQ}  {A:z_} {l:List (Ex×Value)}(h:RI w B A l)(hb:Below B w w'):RI w' B A l:=by
 rcases h with h |⟨b,off,h1,h2,h3⟩
 ·exact .inl h
 ·exact .inr ⟨b,off,h1,h2,λ i x hx=>⟨(h3 i x hx).1.keep λ o=>hb.cell (p:=⟨b,o,none⟩) h2,(hb.cell (p:=⟨b,off+i*8+7,none⟩) h2).trans (h3 i x hx).2⟩⟩
variable{B':Nat}
theorem RI.more{w:rQ}  {A:z_} {l:List (Ex×Value)}(h:RI w B A l)(hB:B<=B'):RI w B' A l:=by
 rcases h with h |⟨b,off,h1,h2,h3⟩
 ·exact .inl h
 ·exact .inr ⟨b,off,h1,Nat.lt_of_lt_of_le h2 hB,h3⟩
theorem RI.later{w:rQ} {A:z_} {l:List (Ex×Value)}(h:RI w w.heap.size A l)(hb:aj w w'):RI w' w'.heap.size A l:=(h.below hb).more hb.size
theorem RI.at_{w:rQ}  {A:z_} {l:List (Ex×Value)}(h:RI w B A l) (hk:k < l.length):∃b off,A=some ⟨b,off,none⟩/\b < B/\cg w b (off+k*8) l[k].1/\w.cell? ⟨b,off+k*8+7,none⟩=some l[k].2:=by
 rcases h with h |⟨b,off,h1,h2,h3⟩
 ·subst h;simp at hk
 ·exact⟨b,off,h1,h2,h3 k l[k] (getElem?_eq_getElem hk)⟩
structure fE (w:rQ) (l:List (Tr×Value)) (A:z_) (n:Nat):Prop where
 n:n=l.length
 lies:∃ys:List (Ex×Value),RI w w.heap.size A ys/\ys.map (·.2)=l.map (·.2)/\Tr.aM w (Old w) (l.map (·.1)) (ys.map (·.1))
theorem fE.later{w:rQ} {l:List (Tr×Value)} {A:z_} {n:Nat}(h:fE w l A n)(hb:aj w w'):fE w' l A n:=by obtain⟨h1,ys,h2,h3,h4⟩:=h;exact⟨h1,ys,h2.later hb,h3,h4.later hb⟩
theorem ku{p:Nat} {a b:rQ}(h:a.grownBy b (some p))(o:Obj):a.grownBy (b.alloc o) (some p):=by
 refine⟨h.os,h.tape,h.output,?_,λ k hk hne=>?_⟩
 ·have:=h.size;simp;omega
 ·rw[Below.heap_alloc b o k (Nat.lt_of_lt_of_le hk h.size)];exact h.block k hk hne
theorem SE (x y c:Int)(hx:0<=x)(hy:0<=y)(hc0:0<=c)(hc:c<=1)(w:rQ):(callFunc 205 #[.int .u64 x,.int .u64 y,.int .u64 c]).run Tryz.prog w=.ok (.value (.tuple #[.int .u64 (lo (x+y+c)),.int .u64 (hi (x+y+c))])) w:=by rw[run_callFunc_extern Tryz.func205 WC WC WC (e:=add64Entry) WC,run_add64 x y c hx hy hc0 hc];rfl
theorem Zp (a b:Int):0<=lY a b/\lY a b < M*M:=by unfold lY M;omega
theorem Zq (a b:Int)(ha0:0<=a)(ha:a < M*M)(hb0:0<=b)(hb:b < M*M):
  Value.agg #[.int .u64 (lo (hi a+hi b+hi (lo a+lo b+0))),.int .u64 (lo (lo a+lo b+0))]=wv (lY a b):=by
 have e1:lo (hi a+hi b+hi (lo a+lo b+0))=hi (lY a b):=by unfold lY hi lo M at*;omega
 have e2:lo (lo a+lo b+0)=lo (lY a b):=by unfold lY lo M;omega
 unfold wv;rw[e1,e2]
theorem Zr (a b:Int)(ha0:0<=a)(ha:a < M*M)(hb0:0<=b)(hb:b < M*M)(w:rQ):
  ar 190 #[.agg #[.int .u64 (hi a),.int .u64 (lo a)],.agg #[.int .u64 (hi b),.int .u64 (lo b)]] w λ e w'=>e=.returned (wv (lY a b))/\aj w w':=by
 rw[<- Zq a b ha0 ha hb0 hb];have q1:=si a;have q2:=si b;have q3:=sj ha0;have q4:=sj hb0;have q5:0<=hi (lo a+lo b+0)/\hi (lo a+lo b+0)<=1:=by have:=Sz a;have:=Sz b;unfold hi M at*;omega
 have l1:=λ w=>SE (lo a) (lo b) 0 q1 q2 TD TD w
 have l2:=λ w=>SE (hi a) (hi b) (hi (lo a+lo b+0)) q3 q4 q5.1 q5.2 w
 clear q1 q2 q3 q4 q5 ha0 ha hb0 hb;generalize lo (lo a+lo b+0)=x1 at*;generalize hi (lo a+lo b+0)=x2 at*;generalize lo (hi a+hi b+x2)=x3 at*;generalize hi (hi a+hi b+x2)=x4 at*;generalize lo a=la at*;generalize lo b=lb at*;generalize hi a=ha at*;generalize hi b=hb at*;go_enter Tryz.func190,Tryz.ntmps190;go_wp2;exact bodyPost_ret (v:=.agg #[.int .u64 x3,.int .u64 x1]) (by simp[results,Tryz.results190,go_sem]) rfl ⟨rfl,by go_grown⟩
theorem ahL (x y:Int)(w:rQ):ar 47 #[aL w.heap.size 2 2] (w.alloc (.cells #[af x,af y] 3)) λ e w'=>
  e=.returned (af (oB x y))/\w'=w.alloc (.cells #[af x,af y] 3):=by
 unfold oB;have q1:∀u:Int,u≠0->((u != 0)=true):=λ u h=>by simp[h]
 by_cases h1:x=0
 ·subst h1;by_cases h2:y=0
  ·subst h2;go_enter Tryz.func47,Tryz.ntmps47;go_wp2;refine wp_loop_rounds 3 ?_;iterate 3 (rw[rounds_succ];go_wp2)
   exact Zbp
  ·have:=q1 y h2;go_enter Tryz.func47,Tryz.ntmps47;go_wp2;refine wp_loop_rounds 3 ?_;iterate 2 (rw[rounds_succ];go_wp2)
   exact Zbp
 ·have:=q1 x h1;go_enter Tryz.func47,Tryz.ntmps47;go_wp2;refine wp_loop_rounds 3 ?_;rw[rounds_succ];exact Zfo
theorem cF.free{w:rQ} {p:Nat} (h:cF w p s)(i:Nat):w.frozen? ⟨p,i,none⟩=false:=aB.frozen h i
variable{W:rQ}
theorem sx{p:Nat}  {a b:Val}(h:cF W p s):cF ((((((((W.setCell ⟨p,5,none⟩ (ag a.k)).setCell ⟨p,6,none⟩ (af a.n)).setCell ⟨p,7,none⟩ (.string a.s)).setCell ⟨p,8,none⟩ (ag b.k)).setCell ⟨p,9,none⟩ (af b.n)).setCell ⟨p,10,none⟩ (.string b.s)).setCell ⟨p,11,none⟩ (.bool true)).drew) p { s with a:=a,b:=b,found:=true }:=by
 have h1:=(((((((aB.aT h 5 (ag a.k)).aT 6 (af a.n)).aT 7 (.string a.s)).aT 8 (ag b.k)).aT 9 (af b.n)).aT 10 (.string b.s)).aT 11 (.bool true)).drew;have e:(((((((s.cells.setIfInBounds 5 (ag a.k)).setIfInBounds 6 (af a.n)).setIfInBounds 7 (.string a.s)).setIfInBounds 8 (ag b.k)).setIfInBounds 9 (af b.n)).setIfInBounds 10 (.string b.s)).setIfInBounds 11 (.bool true))=St.cells { s with a:=a,b:=b,found:=true }:=by simp[St.cells]
 rw[e] at h1;exact h1
variable{v5 v6 v7 v8 v9 v10 v11:Value}
theorem oV{w:rQ} {p:Nat} (h:w.grownBy W (some p)):w.grownBy (((((((W.setCell ⟨p,5,none⟩ v5).setCell ⟨p,6,none⟩ v6).setCell ⟨p,7,none⟩ v7).setCell ⟨p,8,none⟩ v8).setCell ⟨p,9,none⟩ v9).setCell ⟨p,10,none⟩ v10).setCell ⟨p,11,none⟩ v11) (some p):=
 aG (aG (aG (aG (aG (aG (aG h 5 _) 6 _) 7 _) 8 _) 9 _) 10 _) 11 _
theorem Lh (p:Nat)(s:St)(a b:Val)(w:rQ)(h:cF w p s):
  ar 194 #[aw p,.agg (aJ a),.agg (aJ b)] w λ e w'=>
   e=.returned (.tuple #[])/\cF w' p (s.take a b)/\w.grownBy w' (some p):=by
 have HT:fw (s.take a b=if s.better a b then { s with a:=a,b:=b,found:=true } else s):=rfl;have hr:=Im b s.b;have hr2:=Im a s.a;have hcv: -1<=s.rank a b/\s.rank a b<=1:=by unfold St.rank oB;split <;> assumption
 obtain⟨op,all,count,sum,sa,sb,found⟩:=s;go_enter Tryz.func194,Tryz.ntmps194;go_wp2_with fail;have hS:cF ((w.alloc (.cells (aJ a) 44)).alloc (.cells (aJ b) 44)) p _:=(aB.alloc h _).alloc _;have hA:=(aB.new w 44 (aJ a)).alloc (.cells (aJ b) 44);have hB:=aB.new (w.alloc (.cells (aJ a) 44)) 44 (aJ b);have hg:w.grownBy ((w.alloc (.cells (aJ a) 44)).alloc (.cells (aJ b) 44)) (some p):=ku (ku (aO (Below.refl _ _)) _) _;rw[World.size_alloc] at hB;have hp1:p≠w.heap.size:=by have:=aB.lt h;omega
 have Ef:p≠w.heap.size+1:=by have:=aB.lt h;omega
 clear h;generalize (w.alloc (.cells (aJ a) 44)).alloc (.cells (aJ b) 44)=W at*;have cS:=λ y2:Ext W.heap.size W=>cF.iu (aB.later hS y2.h)
 have cA:=λ y2:Ext W.heap.size W=>aK (hA.later y2.h)
 have cB:=λ y2:Ext W.heap.size W=>aK (hB.later y2.h)
 refine aW 12 W.heap.size W (Below.refl _ _) WC WC WC WC ?_;simp only[Uab];repeat (go_big_quiet_step (first
  |(go_at_call_of 18 b.k;exact aP (Nat.le_refl _) (ei b sb _))
  |(go_at_call_of 18 a.k;exact aP (Nat.le_refl _) (ei a sa _))))
 refine wpQuiet_nil ?_;rintro w3 ⟨y2,fI⟩;have hL:=y2.h;rw[<- fI] at hL;clear cS cA cB fI y2;have SF:=aB.later hS hL;have vI:=hA.later hL;have eI:=hB.later hL;have hg2:=aY hg (aO (p:=p) hL);clear hS hA hB hg hL;go_wp2_with fail;refine(ahL _ _ _).mono ?_;rintro e w' ⟨rfl,rfl⟩;have hS:=aB.alloc SF (.cells #[af (bM b sb),af (bM a sa)] 3);have hA:=aB.alloc vI (.cells #[af (bM b sb),af (bM a sa)] 3);have hB:=aB.alloc eI (.cells #[af (bM b sb),af (bM a sa)] 3);have hg:=ku hg2 (.cells #[af (bM b sb),af (bM a sa)] 3);clear SF vI eI hg2;have HR:=aa (show St.rank ⟨op,all,count,sum,sa,sb,found⟩ a b=oB (bM b sb) (bM a sa)from rfl);rw[HR.ae] at hcv;generalize w3.alloc (.cells #[af (bM b sb),af (bM a sa)] 3)=W3 at*;generalize oB (bM b sb) (bM a sa)=rk at*;have cS:=cF.iu hS;have cA:=aK hA;have cB:=aK hB;have fr:=cF.free hS;have HB:=aa (show St.better ⟨op,all,count,sum,sa,sb,found⟩ a b=(!found || decide ((if op=25\/op=28 then -(St.rank ⟨op,all,count,sum,sa,sb,found⟩ a b)else St.rank ⟨op,all,count,sum,sa,sb,found⟩ a b)< 0))from rfl);by_cases hop:op=25\/op=28
 ·have hor:((op==25)=true)\/((op==25)=false/\(op==28)=true):=by
   by_cases h25:op=25
   ·exact .inl (by rw[h25];rfl)
   ·exact .inr ⟨by rw[beq_eq_false_iff_ne];exact h25,by rw[beq_iff_eq];omega⟩
  cases found
  ·rcases hor with o1 |⟨o1,o2⟩;all_goals
    go_wp2_with fail;go_region;go_wp2_with fail;go_end0;rw[HT.ae,if_pos (by rw[HB.ae];rfl)];exact⟨rfl,sx hS,lR (oV hg)⟩
  ·by_cases hlt: -rk < 0
   ·have q1:decide (-rk < 0)=true:=by simpa using hlt
    rcases hor with o1 |⟨o1,o2⟩;all_goals
     go_wp2_with fail;go_region;go_wp2_with fail;go_end0;rw[HT.ae,if_pos (by rw[HB.ae,HR.ae,if_pos hop,q1];rfl)];exact⟨rfl,sx hS,lR (oV hg)⟩
   ·have q1:decide (-rk < 0)=false:=by simpa using hlt
    rcases hor with o1 |⟨o1,o2⟩;all_goals
     go_wp2_with fail;go_end0;rw[HT.ae,if_neg (by rw[HB.ae,HR.ae,if_pos hop,q1];decide)];exact⟨rfl,hS,hg⟩
 ·have o1:(op==25)=false:=by rw[beq_eq_false_iff_ne];omega
  have o2:(op==28)=false:=by rw[beq_eq_false_iff_ne];omega
  cases found
  ·go_wp2_with fail;go_region;go_wp2_with fail;go_end0;rw[HT.ae,if_pos (by rw[HB.ae];rfl)];exact⟨rfl,sx hS,lR (oV hg)⟩
  ·by_cases hlt:rk < 0
   ·have q1:decide (rk < 0)=true:=by simpa using hlt
    go_wp2_with fail;go_region;go_wp2_with fail;go_end0;rw[HT.ae,if_pos (by rw[HB.ae,HR.ae,if_neg hop,q1];rfl)];exact⟨rfl,sx hS,lR (oV hg)⟩
   ·have q1:decide (rk < 0)=false:=by simpa using hlt
    go_wp2_with fail;go_end0;rw[HT.ae,if_neg (by rw[HB.ae,HR.ae,if_neg hop,q1];decide)];exact⟨rfl,hS,hg⟩
theorem ack{p:Nat} (h:cF W p s)(n:Int):cF (W.setCell ⟨p,1,none⟩ (af n)) p { s with all:=n }:=by
 have h1:=aB.aT h 1 (af n);have e:s.cells.setIfInBounds 1 (af n)=St.cells { s with all:=n }:=by simp[St.cells]
 rw[e] at h1;exact h1
theorem Fx{p:Nat} (h:cF W p s)(n:Int):cF (W.setCell ⟨p,2,none⟩ (af n)) p { s with count:=n }:=by
 have h1:=aB.aT h 2 (af n);have e:s.cells.setIfInBounds 2 (af n)=St.cells { s with count:=n }:=by simp[St.cells]
 rw[e] at h1;exact h1
theorem acm{p:Nat} (h:cF W p s)(n:Int):cF ((W.setCell ⟨p,3,none⟩ (.int .u64 (hi n))).setCell ⟨p,4,none⟩ (.int .u64 (lo n))) p { s with sum:=n }:=by
 have h1:=(aB.aT h 3 (.int .u64 (hi n))).aT 4 (.int .u64 (lo n));have e:(s.cells.setIfInBounds 3 (.int .u64 (hi n))).setIfInBounds 4 (.int .u64 (lo n))=St.cells { s with sum:=n }:=by simp[St.cells]
 rw[e] at h1;exact h1
def boxed (w:rQ)(a b:Val):rQ:=(w.alloc (.cells (aJ a) 44)).alloc (.cells (aJ b) 44)
theorem nY{w:rQ} {p:Nat} (h:cF w p s)(a b:Val):cF (boxed w a b) p s:=(aB.alloc h _).alloc _
theorem vJ (w:rQ)(a b:Val):aB (boxed w a b) w.heap.size 44 (aJ a):=(aB.new w _ _).alloc _
theorem SG (w:rQ)(a b:Val):aB (boxed w a b) (w.heap.size+1) 44 (aJ b):=by have:=aB.new (w.alloc (.cells (aJ a) 44)) 44 (aJ b);rw[World.size_alloc] at this;exact this
theorem iZ (w:rQ)(a b:Val)(p:Nat):w.grownBy (boxed w a b) (some p):=ku (ku (aO (Below.refl _ _)) _) _
theorem Lj (p:Nat)(s:St)(a b:Val)(w:rQ)(h:cF w p s):
  ar 156 #[aw p,.agg (aJ a),.agg (aJ b)] w λ e w'=>
   e=.returned (.tuple #[])/\cF w' p s/\w.grownBy w' (some p):=by go_enter Tryz.func156,Tryz.ntmps156;go_wp2;go_end0;exact⟨rfl,nY h a b,iZ w a b p⟩
theorem Zs (p:Nat)(s:St)(a b:Val)(w:rQ)(h:cF w p s)(h0:0<=s.count)(h1:s.count < 4611686018427387904):
  ar 158 #[aw p,.agg (aJ a),.agg (aJ b)] w λ e w'=>
   e=.returned (.tuple #[])/\cF w' p (s.some_ a)/\w.grownBy w' (some p):=by
 have hS:=nY h a b;have hA:=vJ w a b;have cS:=(cF.iu hS).2.2.1;have cA:=(aK hA).1;have fr:=cF.free hS 2;have hg:=iZ w a b p;by_cases hk:a.k=0
 ·have HT:=aa (show s.some_ a=s from if_pos hk);have t1:(a.k != 0)=false:=by simp[hk]
  unfold boxed at*;have HS:=aa hS;have HG:=aa hg;clear hS hA hg hk h;go_enter Tryz.func158,Tryz.ntmps158;go_wp2;exact Zfb
 ·have HT:=aa (show s.some_ a= { s with count:=s.count+1 } from if_neg hk);have t1:(a.k != 0)=true:=by simp[hk]
  unfold boxed at*;have HS:=aa hS;have HG:=aa hg;clear hS hA hg hk h;go_enter Tryz.func158,Tryz.ntmps158;go_wp2;go_end0;rw[HT.ae];exact⟨rfl,Fx HS.ae _,aG HG.ae 2 _⟩
theorem acn (p:Nat)(s:St)(a b:Val)(w:rQ)(h:cF w p s)(h0:0<=s.count)(h1:s.count < 4611686018427387904)(hs0:0<=s.sum)(hs1:s.sum < M*M)(Kf: -9223372036854775808<=a.n)(uT:a.n<=9223372036854775807):
  ar 160 #[aw p,.agg (aJ a),.agg (aJ b)] w λ e w'=>
   e=.returned (.tuple #[])/\cF w' p (s.put a)/\w.grownBy w' (some p):=by
 have hS:=nY h a b;have hA:=vJ w a b;have cS:=(cF.iu hS).2.2.1;have cA:=(aK hA).1;have fr:=cF.free hS 2;have hg:=iZ w a b p;by_cases hk:a.k=2
 ·have HT:=aa (show s.put a= { s with count:=s.count+1,sum:=lY s.sum (gK a.n)} from if_pos hk);have t1:(a.k==2)=true:=by simp[hk]
  have SF:=Fx hS (s.count+1);have vI:=aB.far hA (p:=⟨p,2,none⟩) (λ e=>by have:=aB.lt h;simp at e;omega) (af (s.count+1));have hg2:=aG hg 2 (af (s.count+1));unfold boxed at*;have HS:=aa SF;have HA:=aa vI;have HG:=aa hg2;clear hS hA hg hk h SF vI hg2;go_enter Tryz.func160,Tryz.ntmps160;go_wp2_with fail;have hS:=HS.ae;have hA:=HA.ae;have hg:=HG.ae;clear HS HA HG cS cA fr;generalize (World.setCell _ ⟨p,2,none⟩ (af (s.count+1)))=W at*;have cS:=λ y2:Ext W.heap.size W=>cF.iu (aB.later hS y2.h)
  have cA:=λ y2:Ext W.heap.size W=>aK (hA.later y2.h)
  have wb:=Zp 0 a.n;have hw0:0<=gK a.n:=by unfold gK M;omega
  have hw1:gK a.n < M*M:=by unfold gK M;omega
  refine aW 9 W.heap.size W (Below.refl _ _) WC WC WC WC ?_;simp only[Uab];repeat (go_big_quiet_step (first
   |(go_at_call 191;exact aP (Nat.le_refl _) (Fm a.n Kf uT _))
   |(go_at_call 190;exact aP (Nat.le_refl _) (Zr s.sum (gK a.n) hs0 hs1 hw0 hw1 _))))
  refine wpQuiet_nil ?_;rintro w3 ⟨y2,fI⟩;have hL:=y2.h;rw[<- fI] at hL;clear cS cA fI y2;have SF:=aB.later hS hL;have hg2:=aY hg (aO (p:=p) hL);have fr:=cF.free SF;have cS:=cF.iu SF;unfold wv;go_wp2_with fail;go_end0;rw[HT.ae];exact⟨rfl,acm SF _,aG (aG hg2 3 _) 4 _⟩
 ·have HT:=aa (show s.put a=s from if_neg hk);have t1:(a.k==2)=false:=by simp[hk]
  unfold boxed at*;have HS:=aa hS;have HG:=aa hg;clear hS hA hg hk h;go_enter Tryz.func160,Tryz.ntmps160;go_wp2_with fail;exact Zfb
theorem Vg (p:Nat)(s:St)(a b:Val)(w:rQ)(h:cF w p s):
  ar 163 #[aw p,.agg (aJ a),.agg (aJ b)] w λ e w'=>
   e=.returned (.tuple #[])/\cF w' p (s.alone a)/\w.grownBy w' (some p):=by
 have hS:=nY h a b;have hA:=vJ w a b;have cA:=aK hA;have hg:=iZ w a b p;by_cases hk:a.k=0
 ·have HT:=aa (show s.alone a=s from if_pos hk);have t1:(a.k != 0)=false:=by simp[hk]
  unfold boxed at*;have HS:=aa hS;have HG:=aa hg;clear hS hA hg hk h;go_enter Tryz.func163,Tryz.ntmps163;go_wp2_with fail;exact Zfb
 ·have HT:=aa (show s.alone a=s.take a aC from if_neg hk);have t1:(a.k != 0)=true:=by simp[hk]
  unfold boxed at*;have HS:=aa hS;have HG:=aa hg;clear hS hA hg hk h;go_enter Tryz.func163,Tryz.ntmps163;go_wp2_with fail;refine(Lh p s a aC _ HS.ae).mono ?_;exact ZfO
theorem Vh (p:Nat)(s:St)(a b:Val)(w:rQ)(h:cF w p s):
  ar 165 #[aw p,.agg (aJ a),.agg (aJ b)] w λ e w'=>
   e=.returned (.tuple #[])/\cF w' p (s.BD a b)/\w.grownBy w' (some p):=by
 have hS:=nY h a b;have hA:=vJ w a b;have hB:=SG w a b;have cA:=aK hA;have cB:=aK hB;have hg:=iZ w a b p;by_cases hk:b.k=2
 ·have HT:=aa (show s.BD a b=s.take a b from if_pos hk);have t1:(b.k==2)=true:=by simp[hk]
  unfold boxed at*;have HS:=aa hS;have HG:=aa hg;clear hS hA hB hg hk h;go_enter Tryz.func165,Tryz.ntmps165;go_wp2_with fail;refine(Lh p s a b _ HS.ae).mono ?_;exact ZfO
 ·have HT:=aa (show s.BD a b=s from if_neg hk);have t1:(b.k==2)=false:=by simp[hk]
  unfold boxed at*;have HS:=aa hS;have HG:=aa hg;clear hS hA hB hg hk h;go_enter Tryz.func165,Tryz.ntmps165;go_wp2_with fail;exact Zfb
theorem Pk (w:rQ):(zeroValue 192).run Tryz.prog w=.ok (.agg #[.nilFunc,.nilFunc,af 0]) w:=by exact ZgH
theorem Fy (w:rQ)(g:Nat)(es:Array MapEntry)(c:Nat)(hg:w.heap[g]?=some (.map es c))(k:Int)(ok:Bool)(hf:Instr.findNow (.int .u8) (ag k) es.toList 0=some none):
  (Instr.lookup 193 (.map (some g)) (ag k) ok).run Tryz.prog w=.ok (if ok then .tuple #[.agg #[.nilFunc,.nilFunc,af 0],.bool false] else .agg #[.nilFunc,.nilFunc,af 0]) w:=by unfold Instr.lookup;simp only[Sem.run_bind,run_underlying Tryz.underlying193,Result.andThen_ok,MapKept.run_getObj_map hg,xu,Instr.findKey,run_underlying Tryz.underlying5,hf,Sem.run_pure,Pk]
theorem Lk (op:Int)(h:op < 21\/28 < op):Instr.findNow (.int .u8) (ag op) zP.toList 0=some none:=by
 simp only[zP,Instr.findNow,Instr.sameNow];have q:∀k:Int,21<=k->k<=28->(op==k)=false:=λ k h1 h2=>by rw[beq_eq_false_iff_ne];omega
 simp[q 21,q 22,q 23,q 24,q 25,q 26,q 27,q 28]
theorem xF (op:Int)(w:rQ):ar 146 #[ag op] w λ e w'=>e=.returned (.bool (isAgg op))/\aj w w':=by
 have hg:(w.alloc (.map zP 8)).heap[w.heap.size]?=some (.map zP 8):=heap_alloc_new w _;by_cases h:21<=op/\op<=28
 ·obtain⟨i,hi⟩:=AB op h.1 h.2;have hl:=Az _ _ _ _ hg op true i _ hi;have HT:=aa (show isAgg op=true by simp[isAgg,h.1,h.2]);unfold bX fn at hl;simp only[if_true] at hl;generalize pT op=f1 at*;generalize vG op=f2 at*;generalize Io op=f3 at*;clear hg hi h;go_enter Tryz.func146,Tryz.ntmps146;exact Zb0
 ·have hl:=Fy _ _ _ _ hg op true (Lk op TD);have HT:=aa (show isAgg op=false by simp[isAgg];omega);simp only[if_true] at hl;clear hg h;go_enter Tryz.func146,Tryz.ntmps146;exact Zb0
theorem ahM (x y z:Value)(w:rQ):(Instr.field 192 (.agg #[x,y,z]) 0).run Tryz.prog w=.ok x w:=by exact ZgH
theorem Zt (x y z:Value)(w:rQ):(Instr.field 192 (.agg #[x,y,z]) 2).run Tryz.prog w=.ok z w:=by exact ZgH
def iN (op:Int):Int:=if isAgg op then Io op else 0
theorem Zu (op:Int)(w:rQ):ar 187 #[ag op] w λ e w'=>e=.returned (af (iN op))/\aj w w':=by
 have hg:(w.alloc (.map zP 8)).heap[w.heap.size]?=some (.map zP 8):=heap_alloc_new w _;by_cases h:21<=op/\op<=28
 ·obtain⟨i,hi⟩:=AB op h.1 h.2;have hl:=Az _ _ _ _ hg op false i _ hi;have HT:=aa (show iN op=Io op by unfold iN;rw[if_pos (by simp[isAgg,h.1,h.2])]);unfold bX fn at hl;simp only[Bool.false_eq_true,if_false] at hl;generalize pT op=f1 at*;generalize vG op=f2 at*;generalize Io op=f3 at*;clear hg hi h;have f2':=Zt;go_enter Tryz.func187,Tryz.ntmps187;exact Zb0
 ·have hl:=Fy _ _ _ _ hg op false (Lk op TD);have HT:=aa (show iN op=0 by unfold iN;rw[if_neg (by simp[isAgg];omega)]);simp only[Bool.false_eq_true,if_false] at hl;clear hg h;have f2':=Zt;go_enter Tryz.func187,Tryz.ntmps187;exact Zb0
theorem Vi (op:Int):(fA op).cells= #[ag op,af 0,af 0,.int .u64 0,.int .u64 0,ag 0,af 0,.string ByteArray.empty,ag 0,af 0,.string ByteArray.empty,.bool false]:=by simp[fA,St.cells,aC,hi,lo]
def aco (op:Int)(w:rQ)(e:Ending)(w':rQ):Prop:=∃p,w.heap.size<=p/\e=.returned (.tuple #[aw p,af 0])/\cF w' p (fA op)/\aj w w'
theorem acp (op:Int)(w:rQ)(h:isAgg op=true):ar 100 #[ag op] w (aco op w):=by have H:=aa h;clear h;go_enter Tryz.func100,Tryz.ntmps100;go_wp2_with (go_at_call 146;refine(xF _ _).mono ?_;rintro e w1 ⟨rfl,b1⟩;rw[H.ae]);go_ret2;exact⟨w1.heap.size,b1.size,rfl,by unfold cF;rw[Vi];exact aB.new w1 _ _,b1.alloc b1.size _⟩
theorem Zv (p:Nat)(s:St)(a b:Val)(w:rQ)(h:cF w p s)(ok:s.Ok)(ha:a.Ok):
  ar (pT s.op) #[aw p,.agg (aJ a),.agg (aJ b)] w λ e w'=>
   e=.returned (.tuple #[])/\cF w' p (s.does a b)/\w.grownBy w' (some p):=by
 unfold pT St.does;by_cases h1:s.op=21
 ·rw[if_pos h1,if_pos h1];exact Lj p s a b w h
 ·rw[if_neg h1,if_neg h1];by_cases h2:s.op=22
  ·rw[if_pos h2,if_pos h2];exact Zs p s a b w h ok.xC ok.Ip
  ·rw[if_neg h2,if_neg h2];by_cases h3:s.op=23\/s.op=26
   ·rw[if_pos h3,if_pos h3];exact acn p s a b w h ok.xC ok.Ip ok.ace ok.acf ha.1 ha.2
   ·rw[if_neg h3,if_neg h3];by_cases h4:s.op=24\/s.op=25
    ·rw[if_pos h4,if_pos h4];exact Vg p s a b w h
    ·rw[if_neg h4,if_neg h4];exact Vh p s a b w h
theorem Et (args:x_)(w:rQ):(callFunc 156 args).run Tryz.prog w=.ok (.enter 156 args) w:=by exact ZgH
theorem Pl (args:x_)(w:rQ):(callFunc 158 args).run Tryz.prog w=.ok (.enter 158 args) w:=by exact ZgH
theorem Vj (args:x_)(w:rQ):(callFunc 160 args).run Tryz.prog w=.ok (.enter 160 args) w:=by exact ZgH
theorem Ll (args:x_)(w:rQ):(callFunc 163 args).run Tryz.prog w=.ok (.enter 163 args) w:=by exact ZgH
theorem Lm (args:x_)(w:rQ):(callFunc 165 args).run Tryz.prog w=.ok (.enter 165 args) w:=by exact ZgH
theorem Pm (op:Int)(args:x_)(w:rQ):(callFunc (pT op) args).run Tryz.prog w=.ok (.enter (pT op) args) w:=by
 unfold pT;split
 ·exact Et args w
 ·split
  ·exact Pl args w
  ·split
   ·exact Vj args w
   ·split
    ·exact Ll args w
    ·exact Lm args w
def SH (p:Nat)(op:Int)(a b:Val):Nat->rQ->Value->Prop
 | 0=>λ w v=>∃g,v=.map (some g)/\w.heap[g]?=some (.map zP 8)
 | 1=>λ _ v=>v=aw p
 | 2=>λ _ v=>v=aw p
 | 3=>λ _ v=>v=aw p
 | 4=>λ _ v=>v=ag op
 | 5=>λ _ v=>v=bX op
 | 6=>λ _ v=>v=fn (pT op)
 | 7=>λ _ v=>v=aw p
 | 8=>λ _ v=>v=.agg (aJ a)
 | 9=>λ _ v=>v=.agg (aJ b)
 | _=>λ _ _=>True
theorem Ln (p:Nat)(op:Int)(a b:Val)(i:Nat)(w w':rQ)(v:Value)(h:SH p op a b i w v)(hl:ai w w'):SH p op a b i w' v:=by unfold SH at*;exact Zda
theorem Zw (p:Nat)(s:St)(a b:Val)(w:rQ)(h:cF w p s)(ok:s.Ok)(hall:s.all < 4611686018427387904)(ha:a.Ok):
  ar 103 #[aw p,.agg (aJ a),.agg (aJ b)] w λ e w'=>
   e=.returned (.tuple #[])/\cF w' p (s.feed a b)/\w.grownBy w' (some p):=by
 have hS:=nY h a b;have hA:=vJ w a b;have hB:=SG w a b;have hg:=iZ w a b p;have cS:=(cF.iu hS).2.1;have fr:=cF.free hS 1;have q0:=ok.amP;have q1:=hall;have hp:=aB.lt h;have SF:=ack hS (s.all+1);have vI:=aB.far hA (p:=⟨p,1,none⟩) (λ e=>by simp at e;omega) (af (s.all+1));have eI:=aB.far hB (p:=⟨p,1,none⟩) (λ e=>by simp at e;omega) (af (s.all+1));have hg2:=aG hg 1 (af (s.all+1));unfold boxed at*;have HS:=aa SF;have HA:=aa vI;have HB:=aa eI;have HG:=aa hg2;clear hS hA hB hg h SF vI eI hg2 hp;go_enter Tryz.func103,Tryz.ntmps103;go_wp2_with fail;have hS:=HS.ae;have hA:=HA.ae;have hB:=HB.ae;have hg:=HG.ae;clear HS HA HB HG cS fr;generalize (World.setCell _ ⟨p,1,none⟩ (af (s.all+1)))=W at*;refine bz 10 (SH p s.op a b) (Ln p s.op a b) WC WC WC ?_ ?_
 ·simp only[take_succ_cons,take_zero];refine⟨ZcO,?_,?_,?_,?_,?_,?_,?_,?_,?_,trivial⟩
  ·intro ρ w3 hc hL hr;have h1:_=_:=hr.1;exact Zfl
  ·intro ρ w3 hc hL hr;have h1:_=_:=hr.1;exact ZcE
  ·intro ρ w3 hc hL hr;have h1:_=_:=hr.1;exact ZcE
  ·intro ρ w3 hc hL hr;have h1:_=_:=hr.1;have c0:=(cF.iu (aB.later hS hL)).1;exact ZdK
  ·intro ρ w3 hc hL hr;obtain⟨g,h1,hgm⟩:∃g,ρ (.tmp 15)=.map (some g)/\w3.heap[g]?=some (.map zP 8):=hr.1;have h2:_=_:=hr.2.1;obtain⟨i,hi⟩:=AB s.op ok.op0 ok.op1;exact Zft
  ·intro ρ w3 hc hL hr;have h1:_=_:=hr.1;have hf:=ahM (fn (pT s.op)) (fn (vG s.op)) (af (Io s.op)) w3;exact Zg8
  ·intro ρ w3 hc hL hr;have h1:_=_:=hr.1;exact Zfl
  ·intro ρ w3 hc hL hr;have h1:_=_:=hr.1;have c0:=aK (hA.later hL);exact ZdK
  ·intro ρ w3 hc hL hr;have h1:_=_:=hr.1;have c0:=aK (hB.later hL);exact ZdK
 ·intro w3 hL;simp only[Uab];rintro _ ⟨g,rfl,hgm⟩ _ rfl _ rfl _ rfl _ rfl _ rfl _ rfl _ rfl _ rfl _ rfl;have SF:cF w3 p { s with all:=s.all+1 }:=aB.later hS hL;have hg2:=aY hg (aO (p:=p) hL);have ok2:St.Ok { s with all:=s.all+1 }:=⟨ok.op0,ok.op1,by show 0<=s.all+1;omega,by show s.all+1 < 4611686018427387905;omega,ok.xC,ok.Ip,ok.ace,ok.acf⟩;have hen:=Pm s.op;simp only[bA,Act.put,Uac,fn];go_wp2_with fail;refine(Zv p { s with all:=s.all+1 } a b _ SF ok2 ha).mono ?_;rintro e w2 ⟨rfl,hs3,hg3⟩;go_wp2_with fail;go_end0;exact⟨rfl,hs3,aY hg2 hg3⟩
def gL:List Bool->Int
 | []=> -1
 | b::l=>if b=true then 0 else if gL l < 0 then -1 else gL l+1
theorem vK:∀l:List Bool, -1<=gL l
 | []=>by simp[gL]
 | b::l=>by
   have:=vK l;unfold gL;split
   ·omega
   ·split <;> omega
theorem xG:∀(l:List Bool) (k:Nat),(∀j,j < k->l.getD j false=false)->(gL l < 0↔gL (l.drop k)< 0)/\(0<=gL (l.drop k)->gL l=k+gL (l.drop k))
 | l,0,_=>by simp
 | [],k+1,_=>by simp[gL]
 | b::l,k+1,h=>by
   have h0:b=false:=h 0 TD;obtain⟨h1,h2⟩:=xG l k λ j hj=>h (j+1) TD
   have h3:=vK l;rw[drop_succ_cons];subst h0;have e:gL (false::l)=if gL l < 0 then -1 else gL l+1:=rfl
   rw[e];constructor
   ·rw[<- h1];split <;> omega
   ·intro h4;have h5:=h2 h4;rw[if_neg TD];omega
theorem vL{l:List Bool} (h:∀j,j < k->l.getD j false=false)(hk:l[k]?=some true):gL l=k:=by
 obtain⟨h1,h2⟩:=xG l k h;obtain⟨hlt,he⟩:=List.getElem?_eq_some_iff.1 hk;have e:gL (l.drop k)=0:=by rw[drop_eq_getElem_cons hlt,he];rfl
 have:=h2 TD;omega
theorem nZ{l:List Bool}(h:∀j,j < l.length->l.getD j false=false):gL l= -1:=by obtain⟨h1,h2⟩:=xG l l.length h;rw[drop_length] at h1;have:=vK l;have:gL l < 0:=h1.2 (by simp[gL]);omega
theorem vM (l:List Bool):l.any id=decide (0<=gL l):=by
 induction l with
 | nil=>rfl
 | cons b l ih=>
   rw[any_cons,ih];have h:=vK l;cases b
   ·show decide (0<=gL l)=decide (0<=if gL l < 0 then -1 else gL l+1);split
    ·rw[decide_eq_false TD,decide_eq_false TD]
    ·rw[decide_eq_true TD,decide_eq_true TD]
   ·rfl
theorem RE.later{w:rQ} {A:z_} {l:u_}(h:RE w w.heap.size A l)(hb:aj w w'):RE w' w'.heap.size A l:=(h.below hb).more hb.size
variable{α:Type}
theorem BL{l:List (α×Bool)} (h:k < l.length):(l.map (·.2)).getD k false=l[k].2:=by rw[getD_eq_getElem?_getD,getElem?_map,getElem?_eq_getElem h];rfl
theorem Iu (A:z_)(c:Nat)(args:List (Ex×Bool))(w:rQ)(hl:args.length<=1599289640356)(hA:RE w w.heap.size A (args.map (·.1)))(hE:∀a∈args,∀W,aj w W->ar 93 #[.agg (az a.1)] W λ e w'=>e=.returned (.bool a.2)/\aj W w'):
  ar 150 #[.slice A args.length c,.func (.func 93) #[] #[]] w λ e w'=>e=.returned (af (gL (args.map (·.2))))/\aj w w':=by exact ZaL
theorem zS (A:z_)(c:Nat)(args:List (Ex×Bool))(w:rQ)(hl:args.length<=1599289640356)(hA:RE w w.heap.size A (args.map (·.1)))(hE:∀a∈args,∀W,aj w W->ar 93 #[.agg (az a.1)] W λ e w'=>e=.returned (.bool a.2)/\aj W w'):
  ar 147 #[.slice A args.length c,.func (.func 93) #[] #[]] w λ e w'=>e=.returned (.bool ((args.map (·.2)).any id))/\aj w w':=by have hi:=Iu A c args w hl hA hE;rw[vM];clear hA hE;go_enter Tryz.func147,Tryz.ntmps147;exact ZaX
theorem zeT.Ka9(h:p:=by
 clear hg;have iC:=HX.cell 0;simp only[Uaa] at iC;cases hag:isAgg op
 ·have HI:=aa (xF op);have HG:=aa hag;clear hag;go_wp2_with fail;refine(HI.ae _).mono ?_;rintro e w1 ⟨rfl,Kx⟩;rw[HG.ae];have c10:=(HX.later Kx).cell 6;simp only[Uaa] at c10;clear iC;go_wp2_with fail;refine(zS A c args w1 hl (HA.ae.later Kx) (λ a ha W hW=>HE.ae a ha W (ai.then Kx hW))).mono ?_;rintro e w2 ⟨rfl,b2⟩;go_wp2_with fail;go_ret;exact⟨by rw[HG.ae,Bool.false_or,any_map];rfl,ai.then (ai.then HB.ae Kx) b2⟩
 ·have HI:=aa (xF op);have HG:=aa hag;clear hag;go_wp2_with fail;refine(HI.ae _).mono ?_;rintro e w1 ⟨rfl,Kx⟩;rw[HG.ae];go_wp2_with fail;go_ret;exact⟨by rw[HG.ae,Bool.true_or];rfl,ai.then HB.ae Kx⟩):p:=h
theorem Zx (op:Int)(v:Val)(name:t_)(width:Int)(A:z_)(c:Nat)(args:List (Ex×Bool))(w:rQ)(hl:args.length<=1599289640356)(hA:RE w w.heap.size A (args.map (·.1)))(hE:∀a∈args,∀W,aj w W->ar 93 #[.agg (az a.1)] W λ e w'=>e=.returned (.bool a.2)/\aj W w'):
  ar 93 #[.agg #[ag op,ag v.k,af v.n,.string v.s,.string name,af width,.slice A args.length c]] w λ e w'=>e=.returned (.bool (isAgg op ||(args.map (·.2)).any id))/\aj w w':=by
 have bb:=ah w (.cells #[.int .u8 op,.int .u8 v.k,.int .i64 v.n,.string v.s,.string name,.int .i64 width,.slice A args.length c] 46);have HX:=aB.new w 46 #[.int .u8 op,.int .u8 v.k,.int .i64 v.n,.string v.s,.string name,.int .i64 width,.slice A args.length c];have Kg:=hA.later bb;have hE1:=λ a (ha:a∈args) W (hW:Below (w.alloc (.cells #[.int .u8 op,.int .u8 v.k,.int .i64 v.n,.string v.s,.string name,.int .i64 width,.slice A args.length c] 46)).heap.size (w.alloc (.cells #[.int .u8 op,.int .u8 v.k,.int .i64 v.n,.string v.s,.string name,.int .i64 width,.slice A args.length c] 46)) W)=>hE a ha W (ai.then bb hW)
 have HA:=aa Kg;have HE:=aa hE1;clear hA hE Kg hE1;go_enter Tryz.func93,Tryz.ntmps93;have HB:=aa bb;clear bb;open zeT in exact ZcL
mutual
def Tr.has:Tr->Bool
 | .mk op v name width args=>isAgg op || Tr.BM args
def Tr.BM:uF->Bool
 | []=>false
 | t::ts=>t.has || Tr.BM ts
end
theorem vN:∀ts:uF,(ts.map Tr.has).any id=Tr.BM ts
 | []=>by simp[Tr.BM]
 | t::ts=>by unfold Tr.BM;rw[map_cons,any_cons,vN ts];rfl
def yQ (w:rQ)(y:Ex)(b:Bool):Prop:=ar 93 #[mD y] w λ e w'=>e=.returned (.bool b)/\aj w w'
theorem Tr.ahN (t:Tr)(y:Ex)(w:rQ)(aZ:t.ok)(hat:t.at_ w (Old w) y):∀W,aj w W->yQ W y t.has:=
 Tr.tell Tr.has (λ _=>True) yQ (λ _ _ _ _ _ _ _ _=>trivial) (λ op v name width ts A c args w aZ _ hlen hm hA hall hE=>by
  have Zo:=aZ
  unfold Tr.ok at Zo
  have h:=Zx op v name width A c args w (by rw[hlen];exact Zo.2.1) hA (λ a ha W hW=>hE a ha W hW)
  rw[hm,vN] at h
  unfold yQ mD Tr.has
  exact h) t y w aZ trivial hat
theorem Iw (A:z_)(c:Nat)(args:List ((Ex×Value)×Bool))(w:rQ)(hl:args.length<=1599289640356)(hA:RI w w.heap.size A (args.map (·.1)))(hE:∀a∈args,∀W,aj w W->ar 92 #[.agg #[ag a.1.1.op,ag a.1.1.v.k,af a.1.1.v.n,.string a.1.1.v.s,.string a.1.1.name,af a.1.1.width,.slice a.1.1.A a.1.1.n a.1.1.c,a.1.2]] W λ e w'=>e=.returned (.bool a.2)/\aj W w'):
  ar 145 #[.slice A args.length c,.func (.func 92) #[] #[]] w λ e w'=>e=.returned (af (gL (args.map (·.2))))/\aj w w':=by have HA:=aa hA;have HE:=aa hE;clear hA hE;go_enter Tryz.func145,Tryz.ntmps145;exact ZaP
theorem zT (A:z_)(c:Nat)(args:List ((Ex×Value)×Bool))(w:rQ)(hl:args.length<=1599289640356)(hA:RI w w.heap.size A (args.map (·.1)))(hE:∀a∈args,∀W,aj w W->ar 92 #[.agg #[ag a.1.1.op,ag a.1.1.v.k,af a.1.1.v.n,.string a.1.1.v.s,.string a.1.1.name,af a.1.1.width,.slice a.1.1.A a.1.1.n a.1.1.c,a.1.2]] W λ e w'=>e=.returned (.bool a.2)/\aj W w'):
  ar 91 #[.slice A args.length c,.func (.func 92) #[] #[]] w λ e w'=>e=.returned (.bool ((args.map (·.2)).any id))/\aj w w':=by have hi:=Iw A c args w hl hA hE;rw[vM];clear hA hE;go_enter Tryz.func91,Tryz.ntmps91;exact ZaX
theorem za8.Kag(h:p:=by go_wp2_with fail;refine HH.ae.mono ?_;exact ZdR):p:=h
theorem Pn (y:Ex)(z:Value)(b:Bool)(w:rQ)(h:∀W,aj w W->yQ W y b):
  ar 92 #[.agg #[ag y.op,ag y.v.k,af y.v.n,.string y.v.s,.string y.name,af y.width,.slice y.A y.n y.c,z]] w λ e w'=>e=.returned (.bool b)/\aj w w':=by have bb:=ah w (.cells #[ag y.op,ag y.v.k,af y.v.n,.string y.v.s,.string y.name,af y.width,.slice y.A y.n y.c,z] 48);have k1:=aB.new w 48 #[ag y.op,ag y.v.k,af y.v.n,.string y.v.s,.string y.name,af y.width,.slice y.A y.n y.c,z];have hh:=h _ bb;have HB:=aa bb;clear bb;unfold yQ mD at hh;have HH:=aa hh;clear h hh;go_enter Tryz.func92,Tryz.ntmps92;go_upto_region 1 with fail;generalize MK:w.alloc _=W1 at*;obtain⟨g,iz⟩:∃g,g=w.heap.size:=⟨_,rfl⟩;rw[<- iz] at k1 ⊢;clear iz MK;open za8 in exact Zau
theorem Ix (A:z_)(c:Nat)(args:List ((Ex×Value)×Bool))(w:rQ)(hl:args.length<=1599289640356)(hA:RI w w.heap.size A (args.map (·.1)))(hE:∀a∈args,∀W,aj w W->ar 95 #[.agg #[ag a.1.1.op,ag a.1.1.v.k,af a.1.1.v.n,.string a.1.1.v.s,.string a.1.1.name,af a.1.1.width,.slice a.1.1.A a.1.1.n a.1.1.c,a.1.2]] W λ e w'=>e=.returned (.bool a.2)/\aj W w'):
  ar 148 #[.slice A args.length c,.func (.func 95) #[] #[]] w λ e w'=>e=.returned (af (gL (args.map (·.2))))/\aj w w':=by have HA:=aa hA;have HE:=aa hE;clear hA hE;go_enter Tryz.func148,Tryz.ntmps148;exact ZaP
theorem zU (A:z_)(c:Nat)(args:List ((Ex×Value)×Bool))(w:rQ)(hl:args.length<=1599289640356)(hA:RI w w.heap.size A (args.map (·.1)))(hE:∀a∈args,∀W,aj w W->ar 95 #[.agg #[ag a.1.1.op,ag a.1.1.v.k,af a.1.1.v.n,.string a.1.1.v.s,.string a.1.1.name,af a.1.1.width,.slice a.1.1.A a.1.1.n a.1.1.c,a.1.2]] W λ e w'=>e=.returned (.bool a.2)/\aj W w'):
  ar 94 #[.slice A args.length c,.func (.func 95) #[] #[]] w λ e w'=>e=.returned (.bool ((args.map (·.2)).any id))/\aj w w':=by have hi:=Ix A c args w hl hA hE;rw[vM];clear hA hE;go_enter Tryz.func94,Tryz.ntmps94;exact ZaX
theorem za9.Kag(h:p:=by go_wp2_with fail;refine HH.ae.mono ?_;exact ZdR):p:=h
theorem Po (y:Ex)(z:Value)(b:Bool)(w:rQ)(h:∀W,aj w W->yQ W y b):
  ar 95 #[.agg #[ag y.op,ag y.v.k,af y.v.n,.string y.v.s,.string y.name,af y.width,.slice y.A y.n y.c,z]] w λ e w'=>e=.returned (.bool b)/\aj w w':=by have bb:=ah w (.cells #[ag y.op,ag y.v.k,af y.v.n,.string y.v.s,.string y.name,af y.width,.slice y.A y.n y.c,z] 117);have k1:=aB.new w 117 #[ag y.op,ag y.v.k,af y.v.n,.string y.v.s,.string y.name,af y.width,.slice y.A y.n y.c,z];have hh:=h _ bb;have HB:=aa bb;clear bb;unfold yQ mD at hh;have HH:=aa hh;clear h hh;go_enter Tryz.func95,Tryz.ntmps95;go_upto_region 1 with fail;generalize MK:w.alloc _=W1 at*;obtain⟨g,iz⟩:∃g,g=w.heap.size:=⟨_,rfl⟩;rw[<- iz] at k1 ⊢;clear iz MK;open za9 in exact Zau
structure Qy where
 items:List (Tr×t_)
 bT:t_
 only:Bool
 bF:uF
 aF:uF
 fK:uF
 ord:List (Tr×Bool)
 lim:List Int
structure Sl where
 A:z_
 n:Nat
 c:Nat
structure QL where
 i:Sl
 w:Sl
 g:Sl
 h:Sl
 o:Sl
 l:Sl
def oC (q:Qy)(L:QL):Value:=.agg #[.slice L.i.A L.i.n L.i.c,.string q.bT,.bool q.only,.slice L.w.A L.w.n L.w.c,.slice L.g.A L.g.n L.g.c,.slice L.h.A L.h.n L.h.c,.slice L.o.A L.o.n L.o.c,.slice L.l.A L.l.n L.l.c]
def fN (q:Qy)(L:QL):x_:= #[.slice L.i.A L.i.n L.i.c,.string q.bT,.bool q.only,.slice L.w.A L.w.n L.w.c,.slice L.g.A L.g.n L.g.c,.slice L.h.A L.h.n L.h.c,.slice L.o.A L.o.n L.o.c,.slice L.l.A L.l.n L.l.c]
def Vk (w:rQ)(B:Nat)(A:z_)(l:List Int):Prop:=l=[]\/∃b off,A=some ⟨b,off,none⟩/\b < B/\∀i x,l[i]?=some x->w.cell? ⟨b,off+i,none⟩=some (af x)
theorem Vk.later{w:rQ} {A:z_} {l:List Int}(h:Vk w w.heap.size A l)(hb:aj w w'):Vk w' w'.heap.size A l:=by
 rcases h with h |⟨b,off,h1,h2,h3⟩
 ·exact .inl h
 ·exact .inr ⟨b,off,h1,Nat.lt_of_lt_of_le h2 hb.size,λ i x hx=>(hb.cell (p:=⟨b,off+i,none⟩) h2).trans (h3 i x hx)⟩
structure oX (W:rQ) (q:Qy) (L:QL):Prop where
 i:fE W (q.items.map λ x=>(x.1,.string x.2)) L.i.A L.i.n
 w:fT W q.bF L.w.A L.w.n
 g:fT W q.aF L.g.A L.g.n
 h:fT W q.fK L.h.A L.h.n
 o:fE W (q.ord.map λ x=>(x.1,.bool x.2)) L.o.A L.o.n
 l:L.l.n=q.lim.length/\Vk W W.heap.size L.l.A q.lim
variable{q:Qy}{L:QL}
theorem oX.later{w:rQ}  (h:oX w q L)(hb:aj w w'):oX w' q L:=
 ⟨h.i.later hb,h.w.later hb,h.g.later hb,h.h.later hb,h.o.later hb,h.l.1,h.l.2.later hb⟩
structure Qy.Ok (q:Qy):Prop where
 i:Tr.cH (q.items.map (·.1))
 w:Tr.cH q.bF
 g:Tr.cH q.aF
 h:Tr.cH q.fK
 o:Tr.cH (q.ord.map (·.1))
 ni:q.items.length<=1599289640356
 nw:q.bF.length<=1599289640356
 ng:q.aF.length<=1599289640356
 nh:q.fK.length<=1599289640356
 no:q.ord.length<=1599289640356
def Qy.aI (q:Qy):Bool:=decide (0 < q.aF.length+q.fK.length)|| Tr.BM (q.items.map (·.1))|| Tr.BM (q.ord.map (·.1))
theorem Iy:∀(ts:uF) (ys:List (Ex×Value)) (w:rQ),Tr.cH ts->Tr.aM w (Old w) ts (ys.map (·.1))->∃args:List ((Ex×Value)×Bool),args.map (·.1)=ys/\args.map (·.2)=ts.map Tr.has/\∀a∈args,∀W,aj w W->yQ W a.1.1 a.2
 | [],ys,w,_,hat=>by
   unfold Tr.aM at hat;have:ys=[]:=by simpa using hat
   subst this;exact⟨[],rfl,rfl,by simp⟩
 | t::ts,ys,w,aZ,hat=>by
   unfold Tr.aM at hat;unfold Tr.cH at aZ;obtain⟨y,ys',h1,h2,h3⟩:=hat;cases ys with
   | nil=>cases h1
   | cons z ys=>
     rw[map_cons] at h1;injection h1 with e1 e2;subst e1 e2;obtain⟨l,fJ,hl2,ud⟩:=Iy ts ys w aZ.2 h3;refine⟨(z,t.has)::l,by simp[fJ],by simp[hl2],λ a ha W hW=>?_⟩;rcases List.mem_cons.1 ha with rfl | ha
     ·exact Tr.ahN t z.1 w aZ.1 h2 W hW
     ·exact ud a ha W hW
theorem Zy{l:List (Tr×Value)} {A:z_} {n:Nat}(c:Nat) {w:rQ}(h:fE w l A n)(aZ:Tr.cH (l.map (·.1)))(hl:l.length<=1599289640356):
  ar 91 #[.slice A n c,.func (.func 92) #[] #[]] w λ e w'=>e=.returned (.bool (Tr.BM (l.map (·.1))))/\aj w w':=by
 obtain⟨rfl,ys,h2,h3,h4⟩:=h;obtain⟨args,a1,a2,a3⟩:=Iy _ ys w aZ h4;have hlen:args.length=l.length:=by have:=congrArg List.length a2;simpa using this
 have h:=zT A c args w TD (by rw[a1];exact h2) (λ a ha W hW=>Pn a.1.1 a.1.2 a.2 W (λ W2 hW2=>a3 a ha W2 (ai.then hW hW2)));rw[hlen,a2,vN] at h;exact h
theorem Zz{l:List (Tr×Value)} {A:z_} {n:Nat}(c:Nat) {w:rQ}(h:fE w l A n)(aZ:Tr.cH (l.map (·.1)))(hl:l.length<=1599289640356):
  ar 94 #[.slice A n c,.func (.func 95) #[] #[]] w λ e w'=>e=.returned (.bool (Tr.BM (l.map (·.1))))/\aj w w':=by
 obtain⟨rfl,ys,h2,h3,h4⟩:=h;obtain⟨args,a1,a2,a3⟩:=Iy _ ys w aZ h4;have hlen:args.length=l.length:=by have:=congrArg List.length a2;simpa using this
 have h:=zU A c args w TD (by rw[a1];exact h2) (λ a ha W hW=>Po a.1.1 a.1.2 a.2 W (λ W2 hW2=>a3 a ha W2 (ai.then hW hW2)));rw[hlen,a2,vN] at h;exact h
theorem zeU.Ka9(h:p:=by
 clear hg;have iC:=HX.cell 0;have x4:=HX.cell 4;have x5:=HX.cell 5;have c10:=HX.cell 6;simp only[Uaa] at iC x4 x5 c10;rw[NG.ae] at x4;rw[NH.ae] at x5;by_cases h1:0 < q.aF.length+q.fK.length
 ·have t1:=decide_eq_true (show(0:Int)<(q.aF.length:Int)+(q.fK.length:Int) by omega);have t2:=decide_eq_true h1;have HT:=aa (show(decide (0 < q.aF.length+q.fK.length))=true from t2);clear h1 t2;go_wp2_with fail;go_ret;exact⟨by unfold Qy.aI;rw[HT.ae,Bool.true_or,Bool.true_or];rfl,HB.ae⟩
 ·have t1:=decide_eq_false (show¬(0:Int)<(q.aF.length:Int)+(q.fK.length:Int) by omega);have HT:=aa (decide_eq_false h1);clear h1;have hi:=Zy L.i.c HQ.ae.i (by rw[map_map];exact je.ae.i) (by rw[length_map];exact je.ae.ni);have e1:((q.items.map λ x=>(x.1,Value.string x.2)).map (·.1))=q.items.map (·.1):=by rw[map_map];rfl
  have e2:((q.ord.map λ x=>(x.1,Value.bool x.2)).map (·.1))=q.ord.map (·.1):=by rw[map_map];rfl
  rw[e1] at hi;obtain⟨bi,hbi⟩:∃b,b=Tr.BM (q.items.map (·.1)):=⟨_,rfl⟩;rw[<- hbi] at hi;have HI:=aa hi;have HBI:=aa hbi;have E2:=aa e2;clear hi hbi e1 e2;go_wp2_with fail;refine HI.ae.mono ?_;rintro e KK ⟨rfl,Kx⟩;cases bi
  ·have ho:=Zz L.o.c (HQ.ae.o.later Kx) (by rw[E2.ae];exact je.ae.o) (by rw[length_map];exact je.ae.no);rw[E2.ae] at ho;have HH:=aa ho;clear ho;have c10:=(HX.later Kx).cell 6;simp only[Uaa] at c10;clear iC x4 x5;go_wp2_with fail;refine HH.ae.mono ?_;rintro e w1 ⟨rfl,b1⟩;go_wp2_with fail;go_ret;exact⟨by unfold Qy.aI;rw[HT.ae,<- HBI.ae,Bool.false_or,Bool.false_or];rfl,ai.then (ai.then HB.ae Kx) b1⟩
  ·go_wp2_with fail;go_ret;exact⟨by unfold Qy.aI;rw[HT.ae,<- HBI.ae,Bool.false_or,Bool.true_or];rfl,ai.then HB.ae Kx⟩):p:=h
theorem Lp (q:Qy)(L:QL)(w:rQ)(hq:oX w q L)(aZ:q.Ok):ar 54 #[oC q L] w λ e w'=>e=.returned (.bool q.aI)/\aj w w':=by have bb:=ah w (.cells (fN q L) 27);have HX:=aB.new w 27 (fN q L);have Ke:=hq.later bb;have NG:=aa hq.g.n;have NH:=aa hq.h.n;have kg:=aZ.ng;have kh:=aZ.nh;have HQ:=aa Ke;have je:=aa aZ;clear hq Ke aZ;unfold oC;unfold fN at HX bb HQ;go_enter Tryz.func54,Tryz.ntmps54;have HB:=aa bb;clear bb;open zeU in exact ZcL
def ZA (u:Nat->Value)(ch:List Nat)(vs:wL)(i:Nat)(_:rQ)(v:Value):Prop:=
 match ch.idxOf? i with
 | some k=>vs[k]?=some v
 | none=>v=u i
def lz (l:List Oper):List Nat->Bool
 | a::b::r=>(match l[b]? with | some o=>iJ o a | none=>false)&& lz l (b::r)
 | _=>true
def SJ (P:Program)(l:List Oper)(u:Nat->Value)(ch:List Nat)(G:wL->rQ->Prop)(a0:Act)(i:Nat)(o:Oper):Prop:=
 ∀ρ w vs,oG ρ->G vs w->lO l (ZA u ch vs) a0.eval ρ w o (tmpsOf o)->o.guard=none/\
  match ch.idxOf? i with
  | none=>(execOp ρ o).run P w=.ok (.value (u i)) w
  | some k=>vs.length=k->xq P o ρ w λ v w'=>G (vs++ [v]) w'
def Pp (P:Program)(l:List Oper)(u:Nat->Value)(ch:List Nat)(G:wL->rQ->Prop)(a0:Act):List Oper->Nat->Prop
 | [],_=>True
 | o::rest,i=>SJ P l u ch G a0 i o/\Pp P l u ch G a0 rest (i+1)
variable{P:Program}{u:Nat->Value}{ch:List Nat}{G:wL->rQ->Prop}{a0:Act}
theorem Fz{L:List Oper}    :∀ {l:List Oper} {k:Nat},Pp P L u ch G a0 l k->∀i o,l[i]?=some o->SJ P L u ch G a0 (k+i) o
 | [],_,_,i,o,h=>by simp at h
 | x::l,k,hs,0,o,h=>by simp at h;subst h;exact hs.1
 | x::l,k,hs,i+1,o,h=>by have:=Fz hs.2 i o Tai;rwa [show k+1+i=k+(i+1) by omega] at this
theorem Lr{i:Nat}(h:ch.idxOf? i=some k):ch[k]?=some i:=by rw[List.idxOf?,findIdx?_eq_some_iff_getElem] at h;obtain⟨hk,h1,_⟩:=h;rw[getElem?_eq_getElem hk];simpa using h1
theorem Ls{i:Nat}(h:ch.idxOf? i=none):i∉ch:=by intro hm;rw[List.idxOf?,findIdx?_eq_none_iff] at h;have:=h i hm;simp at this
theorem ahO(hn:ch.Nodup) {i:Nat}(h:ch[k]?=some i):ch.idxOf? i=some k:=by
 obtain⟨hk,he⟩:=List.getElem?_eq_some_iff.1 h
 cases hc:ch.idxOf? i with
 | none=>exact absurd (mem_of_getElem? h) (Ls hc)
 | some k'=>have h2:=Lr hc;obtain⟨Sn,he'⟩:=List.getElem?_eq_some_iff.1 h2;congr 1;exact(getElem_inj hn).1 (he'.trans he.symm)
theorem FA{l:List Oper}:∀ {ch:List Nat} {k a b:Nat},lz l ch=true->ch[k]?=some a->ch[k+1]?=some b->∃o,l[b]?=some o/\iJ o a=true
 | [],_,_,_,_,h,_=>by simp at h
 | [x],0,_,_,_,_,h=>by simp at h
 | [x],_+1,_,_,_,h,_=>by simp at h
 | x::y::r,0,a,b,hc,h1,h2=>by
   simp at h1 h2;subst h1 h2;simp only[lz,Bool.and_eq_true] at hc;have:=hc.1;split at this
   ·rename_i o ho;exact⟨o,ho,this⟩
   ·cases this
 | x::y::r,k+1,a,b,hc,h1,h2=>by simp only[lz,Bool.and_eq_true] at hc;exact FA hc.2 Ta5 (by simpa using h2)
variable{V V':Nat->rQ->Value->Prop}{R:rQ->rQ->Prop}{w0:rQ}{listed:Array Bool}
theorem Inv.imp{l:List Oper}     {m:Nat}  {a:Act} {w:rQ}(I:Inv l V R a0 w0 m listed a w)(h:∀i w v,V i w v->V' i w v):Inv l V' R a0 w0 m listed a w:=
 ⟨I.r,I.defers,I.size,I.old,λ i o d h1 h2 h3=>h _ _ _ (I.new i o d h1 h2 h3),I.closed,I.len,I.tail⟩
variable{vs:wL}
theorem ZB(v:Value)(i:Nat)(w:rQ)(x:Value)(h:ZA u ch vs i w x):ZA u ch (vs++ [v]) i w x:=by
 unfold ZA at*
 cases hk:ch.idxOf? i with
 | some k=>rw[hk] at h;simp only at h ⊢;obtain⟨hlt,_⟩:=List.getElem?_eq_some_iff.1 h;rw[getElem?_append_left hlt];exact h
 | none=>rw[hk] at h;exact h
section
variable {P:Program} {l zs:List Oper} {Q:yD} {u:Nat->Value} {ch:List Nat} {G:wL->rQ->Prop} {a0:Act} {w0:rQ}
theorem zbQ.Kan(h:p:=by
 have hK:=xr (V:=ZA u ch vs) (λ d=>a.eval (.tmp d)) l 0 a0 (λ i o d hi hd=>by
  rw[Nat.zero_add]
  have rW:i < l.length:=by
   rcases Nat.lt_or_ge i l.length with h' | h'
   ·exact h'
   ·rw[getElem?_eq_none h'] at hi;cases hi
  exact I.new i o d hi (hall i rW) hd) hf
 rw[<- ha] at hK;exact Zbh):p:=h
theorem FB {N:Nat}(vs:wL)(aZ:dP l N l 0=true)(hz:eU (l++zs) zs l.length=true) {listed:Array Bool} {a:Act} {w:rQ}(hf:bA (ZA u ch vs) (λ a w=>wpList P (l++zs).toArray Q zs a w) l 0 a0 w)(I:Inv l (ZA u ch vs) (λ _ _=>True) a0 w0 (l++zs).length listed a w)
  (h0:bu l.length listed=0):wpAny P .any (l++zs).toArray Q zs.length listed a w:=by
 open zbQ in exact ZaC
theorem ze5.Kbd(h:p:=by
 cases hci:ch.idxOf? i with
 | none=>
   simp only[hci] at hstep;refine jH (T:=λ v w'=>v=u i/\w'=w) (aq hstep ⟨rfl,rfl⟩) ?_;rintro v w' ⟨rfl,rfl⟩;refine ih _ _ _ vs (I.step aZ (λ _ _ _ _ h _=>h) (λ _ _ _ _ _=>trivial) vg xt Bg fu trivial ?_) hg ?_ hvl ZE
   ·unfold ZA;simp only[hci]
   ·intro k i' hk;have hne:i'≠i:=λ e=>Ls hci (e▸mem_of_getElem? hk)
    rw[eO _ _ _ ZC,if_neg hne];exact cL k i' hk
 | some k=>
   simp only[hci] at hstep;have hck:=Lr hci
   have hvk:vs.length=k:=by
    have h1:¬k < vs.length:=λ h=>by have:=(cL k i hck).2 h;rw[Bg] at this;cases this
    match k,hck,h1 with
    | 0,_,h1=>omega
    | k+1,hck,h1=>obtain⟨tH,_⟩:=List.getElem?_eq_some_iff.1 hck;have hp:ch[k]?=some ch[k]:=getElem?_eq_getElem TD;obtain⟨o',Bi,he⟩:=FA hch hp hck;rw[vg] at Bi;injection Bi with Bi;subst Bi;have:=(cL k _ hp).1 (fu _ (cO.1 he));omega
   refine jH (hstep hvk) ?_;intro v w' Sj;have I':=(I.imp (λ Kx w x h=>ZB (ch:=ch) (u:=u) v Kx w x h));refine ih _ _ _ (vs++ [v]) (I'.step aZ (λ _ _ _ _ h _=>h) (λ _ _ _ _ _=>trivial) vg xt Bg fu trivial ?_) Sj ?_ ?_ ZE
   ·unfold ZA;simp only[hci];rw[<- hvk];simp
   ·intro k' i' Sn;rw[eO _ _ _ ZC,length_append,length_singleton];by_cases nA:i'=i
    ·subst nA;have:=ahO hnd Sn;rw[hci] at this;injection this with this;simp only[if_true,true_iff];omega
    ·rw[if_neg nA,cL k' i' Sn];have hne:k'≠k:=λ e=>nA (by rw[e,hck] at Sn;injection Sn with Sn;exact Sn.symm)
     omega
   ·obtain⟨tH,_⟩:=List.getElem?_eq_some_iff.1 hck;simp;omega):p:=h
theorem zan.KW(h:p:=by have hst:=Fz hs i oj vg;rw[Nat.zero_add] at hst;have XP:=Inv.reads aZ I vg Bg fu (tmpsOf oj) (λ _ h=>h);obtain⟨hgd,hstep⟩:=hst a.eval w vs (mJ a) hg XP;open ze5 in exact Zc3):p:=h
theorem oY {id:Nat} {ops:List Oper}(zs:List Oper)(l:List Oper)(kP:ops=l++zs)(u:Nat->Value)(ch:List Nat)(G:wL->rQ->Prop)(nT:∀vs w,G vs w->G vs w.drew)(hG:G [] w0)
  (hm:P.follows .mixedOrders=true) (aZ:dP l a0.tmps.size l 0=true) (hz:eU (l++zs) zs l.length=true) (hch:lz l ch=true) (hnd:ch.Nodup) (Ks:ch.all (λ Kx=>decide (Kx < l.length))=true)
  (hs:Pp P l u ch G a0 l 0) (hf:∀vs w,vs.length=ch.length->G vs w->bA (ZA u ch vs) (λ a w=>wpList P ops.toArray Q zs a w) l 0 a0 w):(Code.region id ops.toArray true).wp P Q a0 w0:=by
 subst kP
 have main:∀(fuel:Nat) (listed:Array Bool) (a:Act) (w:rQ) (vs:wL),Inv l (ZA u ch vs) (λ _ _=>True) a0 w0 (l++zs).length listed a w->G vs w->(∀k Kx,ch[k]?=some Kx->(listed.getD Kx false=true↔k < vs.length))->vs.length<=ch.length->fuel=bu l.length listed+zs.length->wpAny P .any (l++zs).toArray Q fuel listed a w:=by
  intro fuel
  induction fuel with
  | zero=>
    intro listed a w vs I hg cL hvl hfu;have h0:bu l.length listed=0:=by omega
    have hz0:zs.length=0:=by omega
    have hall:=eh h0;have hvs:vs.length=ch.length:=by exact Zc1
    have:=FB vs aZ hz (hf vs w hvs hg) I h0;rwa [hz0] at this
  | succ fuel ih=>
    intro listed a w vs I hg cL hvl hfu;by_cases h0:bu l.length listed=0
    ·have hall:=eh h0;have hvs:vs.length=ch.length:=by exact Zc1
     have:=FB vs aZ hz (hf vs w hvs hg) I h0;exact Zfa
    ·open zan in exact Zad
 refine wp_region_any hm ?_;have:=main (l++zs).toArray.size (Array.replicate (l++zs).toArray.size false) a0 w0.drew [] ⟨trivial,rfl,rfl,λ _ _=>rfl,(λ Kx o d _ h=>by rw[bh] at h;cases h),(λ Kx o _ h=>by rw[bh] at h;cases h),by simp,λ Kx _=>bh _ _⟩ (nT _ _ hG) (λ k Kx _=>by rw[bh];simp) Taa (by
  have:bu l.length (Array.replicate (l++zs).toArray.size false)=l.length:=by
   unfold bu
   rw[List.filter_eq_self.2 (λ Kx _=>by rw[bh];rfl),length_range]
  rw[this];simp)
 exact this
end
section
variable {α:Type} {c:α->α->Int}
theorem Good.afG (h:Good c) {x y z:α}(h1:c x y < 0)(h2:c y z<=0):c x z < 0:=by
 rcases Int.lt_or_le (c x z) 0 with h3 | h3
 ·exact h3
 ·have:=h.jd x z;have:=h.trans y z x h2 TD;have:=h.jd x y;omega
def iO (c:α->α->Int)(k:α):List α->List α
 | []=> [k]
 | x::xs=>if c x k < 0 then x::iO c k xs else if c x k=0 then x::xs else k::x::xs
def yR (c:α->α->Int)(l:List α):List α:=l.foldl (λ ks k=>iO c k ks) []
theorem Lt (hz:∀x y,c x y=0->x=y)(k y:α):∀l,y∈iO c k l↔y=k\/y∈l
 | []=>by simp[iO]
 | x::xs=>by
   unfold iO;split
   ·rw[mem_cons,Lt hz k y xs,mem_cons];constructor
    ·rintro(h | h | h)
     ·exact .inr (.inl h)
     ·exact .inl h
     ·exact .inr (.inr h)
    ·rintro(h | h | h)
     ·exact .inr (.inl h)
     ·exact .inl h
     ·exact .inr (.inr h)
   ·split
    ·rename_i h;have:=hz _ _ h;subst this;simp
    ·simp
theorem SK (hg:Good c)(k z:α):∀l:List α,c z k < 0->(∀y∈l,c z y < 0)->∀y∈iO c k l,c z y < 0
 | [],h,_,y,hy=>by simp[iO] at hy;rw[hy];exact h
 | x::xs,h,ha,y,hy=>by
   unfold iO at hy;split at hy
   ·rcases List.mem_cons.1 hy with rfl | hy
    ·exact ha _ (mem_cons_self ..)
    ·exact SK hg k z xs h (λ y hy=>ha y (mem_cons_of_mem _ hy)) y hy
   ·split at hy
    ·exact ha y hy
    ·rcases List.mem_cons.1 hy with rfl | hy
     ·exact h
     ·exact ha y hy
theorem yS (hg:Good c)(k:α):∀l:List α,l.Pairwise (λ a b=>c a b < 0)->(iO c k l).Pairwise (λ a b=>c a b < 0)
 | [],_=>by simp[iO]
 | x::xs,h=>by
   rw[pairwise_cons] at h;unfold iO;split
   ·rename_i h1;rw[pairwise_cons];exact⟨SK hg k x xs h1 h.1,yS hg k xs h.2⟩
   ·split
    ·rw[pairwise_cons];exact h
    ·rename_i h1 h2;have h3:c k x < 0:=by have:=hg.jd x k;omega
     rw[pairwise_cons,pairwise_cons];refine⟨λ y hy=>?_,h⟩;rcases List.mem_cons.1 hy with rfl | hy
     ·exact h3
     ·exact hg.afG h3 (by have:=h.1 y hy;omega)
theorem BO (hg:Good c)(hz:∀x y,c x y=0->x=y):∀(l s:List α),s.Pairwise (λ a b=>c a b < 0)->(l.foldl (λ ks k=>iO c k ks) s).Pairwise (λ a b=>c a b < 0)/\∀y,y∈l.foldl (λ ks k=>iO c k ks) s↔y∈l\/y∈s
 | [],s,h=>⟨h,λ y=>by simp⟩
 | x::l,s,h=>by
   obtain⟨h1,h2⟩:=BO hg hz l (iO c x s) (yS hg x s h);refine⟨h1,λ y=>?_⟩;rw[foldl_cons,h2 y,Lt hz,mem_cons];constructor
   ·rintro(h | h | h)
    ·exact .inl (.inr h)
    ·exact .inl (.inl h)
    ·exact .inr h
   ·rintro((h | h)| h)
    ·exact .inr (.inl h)
    ·exact .inl h
    ·exact .inr (.inr h)
theorem oa (hg:Good c)(hz:∀x y,c x y=0->x=y)(l:List α):(yR c l).Pairwise (λ a b=>c a b < 0)/\∀y,y∈yR c l↔y∈l:=by have:=BO hg hz l [] .nil;exact⟨this.1,λ y=>by rw[yR,this.2 y];simp⟩
def Pq (c:α->α->Int)(x:α):List α->List α
 | []=> [x]
 | y::ys=>if c x y<=0 then x::y::ys else y::Pq c x ys
def ZF (c:α->α->Int)(l:List α):List α:=l.foldr (Pq c) []
theorem xH (c:α->α->Int)(x:α):∀l:List α,(Pq c x l).Perm (x::l)
 | []=> .refl _
 | y::ys=>by
   unfold Pq;split
   ·exact .refl _
   ·exact((xH c x ys).cons y).trans (.swap x y ys)
theorem lZ (c:α->α->Int):∀l:List α,(ZF c l).Perm l
 | []=> .refl _
 | x::l=>(xH c x _).trans ((lZ c l).cons x)
theorem yT (hg:Good c)(x:α):∀l:List α,l.Pairwise (λ a b=>c a b<=0)->(Pq c x l).Pairwise (λ a b=>c a b<=0)
 | [],_=>by simp[Pq]
 | y::ys,h=>by
   have h':=h;rw[pairwise_cons] at h;unfold Pq;split
   ·rename_i h1;rw[pairwise_cons];refine⟨λ z hz=>?_,h'⟩;rcases List.mem_cons.1 hz with rfl | hz
    ·exact h1
    ·exact hg.trans _ _ _ h1 (h.1 z hz)
   ·rename_i h1;rw[pairwise_cons];refine⟨λ z hz=>?_,yT hg x ys h.2⟩;rcases List.mem_cons.1 ((xH c x ys).mem_iff.1 hz)with rfl | hz
    ·have:=hg.jd z y;omega
    ·exact h.1 z hz
theorem vO (hg:Good c):∀l:List α,(ZF c l).Pairwise (λ a b=>c a b<=0)
 | []=> .nil
 | x::l=>yT hg x _ (vO hg l)
theorem Pr {β:Type}(hg:Good c)(f:α->β)(hf:∀x y,c x y=0->f x=f y):∀(l m:List α),l.Perm m->l.Pairwise (λ a b=>c a b<=0)->m.Pairwise (λ a b=>c a b<=0)->l.map f=m.map f:=by
 have hr:∀a:α,c a a=0:=λ a=>by have:=hg.jd a a;omega
 intro l
 induction l with
 | nil=>intro m h _ _;rw[h.nil_eq]
 | cons x l ih=>
   intro m h h1 h2;rw[pairwise_cons] at h1
   cases m with
   | nil=>exact absurd h.symm.nil_eq Taa
   | cons y m=>
     have Ep:=h2;rw[pairwise_cons] at h2
     have hxy:c x y=0:=by
      have a:c x y<=0:=by
       rcases List.mem_cons.1 (h.mem_iff.2 (mem_cons_self ..):y∈x::l)with e | e
       ·rw[e,hr];omega
       ·exact h1.1 y e
      have b:c y x<=0:=by
       rcases List.mem_cons.1 (h.mem_iff.1 (mem_cons_self ..):x∈y::m)with e | e
       ·rw[e,hr];omega
       ·exact h2.1 x e
      have:=hg.jd x y;omega
     rcases List.mem_cons.1 (h.mem_iff.1 (mem_cons_self ..):x∈y::m)with e | e
     ·subst e;rw[map_cons,map_cons,ih m (List.Perm.cons_inv h) h1.2 h2.2]
     · -- x stands within m:put y in its place
       obtain⟨m1,m2,rfl⟩:=append_of_mem e;have hp:l.Perm (y::(m1++m2)):=by refine List.Perm.cons_inv (h.trans ?_) (a:=x);exact(List.perm_middle.cons y).trans (.swap x y _)
       have Ij:∀z∈m1,c z x=0:=λ z hz=>by
        have a:=h2.1 z (List.mem_append.2 (.inl hz));have b:c z x<=0:=by have:=h2.2;rw[pairwise_append] at this;exact this.2.2 z hz x (mem_cons_self ..)
        have d:=hg.trans x y z TD a;have:=hg.jd z x;omega
       have hs:(y::(m1++m2)).Pairwise (λ a b=>c a b<=0):=by refine Ep.sublist ?_;exact List.Sublist.cons_cons y ((List.Sublist.refl m1).append (sublist_cons_self x m2))
       rw[map_cons,ih _ hp h1.2 hs];have key:∀(m1:List α) (y:α),c y x=0->(∀z∈m1,c z x=0)->f x::(y::(m1++m2)).map f=(y::(m1++x::m2)).map f:=by
        intro m1;induction m1 with
        | nil=>intro y hy _;simp[hf y x hy]
        | cons z m1 ih2=>intro y hy hz;have:=ih2 z (hz z (mem_cons_self ..)) (λ w hw=>hz w (mem_cons_of_mem _ hw));rw[map_cons,hf y x hy];show f x::f x::((z::(m1++m2)).map f)=_;rw[this];simp[hf y x hy]
       exact key m1 y (by have:=hg.jd x y;omega) Ij
end
def jw (b e:Int):Int:=if e≠0/\(b=0\/e < b)then e else b
def bU (l:List Int):Int:=l.foldl jw 0
end Go.Proofs.YtndgjggokjickaaGreatDoor
