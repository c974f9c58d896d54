/- Parts of the proof. -/
import Derived.Shelf.Small.Bits
import Derived.Shelf.Strconv.Itoa3
import Derived.Shelf.SlicesE.Clone
import Derived.Shelf.Spec.BitsCarry
import Derived.Deep.DeepCutAuto
import Derived.Laws.CopyOwn
import Derived.Lib.ItoaLen
import Derived.Lib.AppendZeros
import Derived.Lib.ParseIntB
import Derived.Lib.Case
import Derived.Test.YtndgjggokjickaaGreatDoorXP1
namespace Go.Proofs.YtndgjggokjickaaGreatDoor
open _root_.Go.Proofs.Tryz
variable{p:Sort _}
set_option maxHeartbeats 90000000
set_option maxRecDepth 100000
open Go.ChangeShapes Go.WideShapes Go.ChangeAt Go.RowKit List
set_option linter.unusedVariables false
set_option linter.unusedSimpArgs false
theorem iQ:prog.cellsOf 46=7:=by exact Zhr
theorem Gw:prog.cellsOf 113=2:=by exact Zhr
theorem zV:prog.cellsOf 23=1:=by exact Zhr
theorem CE:prog.bytesOf 46=88:=by exact Zhr
theorem VN:prog.bytesOf 113=24:=by exact Zhr
theorem VO:prog.bytesOf 44=32:=by exact Zhr
def fB(y:Ex):xr:=[ag y.op,ag y.v.k,af y.v.n,.string y.v.s,.string y.name,af y.width,.slice y.A y.n y.c]
def aU(x:aZ):xr:=[.string x.name,ag x.t]
variable{base:Nat}{cs:xr}
theorem ZN{w:t_}{K:Nat}{a:Addr}(h:w.cells? base a K=some cs):cs.length=K/\∀i,i<K->w.cell? (a.add i)=cs[i]?:=by unfold World.cells? at h;split at h;exact⟨by simpa using mapM_some_length h,λ i hi=>mapM_some_get h i i (by simp[hi])⟩;cases h
variable{H:Type}
def Light(t:TypeId)(d:DataW H):Prop:=∀n∈d.weights prog t,n<=reachBytes
section
variable{H:Type}{enc:TypeId×Value->H}{w:t_}{base:Nat}{spare:Nat->Bool}{held:Bool}
theorem Gx{e:TypeId}:∀{l:List (DataW H)},(∀n∈DataW.weightsAll prog e l,n<=reachBytes)->∀d∈l,Light e d
 |[],_,d,h=>by cases h
 |x::l,hw,d,h=>by unfold DataW.weightsAll at hw;rcases List.mem_cons.1 h with rfl|h;exact λ n hn=>hw n (mem_append_left _ hn);exact Gx (λ n hn=>hw n (mem_append_right _ hn)) d h
theorem zW{T e:TypeId}{es rs:List (DataW H)}(hT:prog.underlying T=some (.slice e))(h:Light T (.slice es rs)):(es.length+rs.length)*prog.bytesOf e<=reachBytes/\∀d∈es,Light e d:=by unfold Light at h;unfold DataW.weights at h;rw[hT]at h;dsimp only at h;exact⟨h _ (mem_cons_self ..),Gx λ n hn=>h n (mem_cons_of_mem _ (mem_append_left _ hn))⟩
theorem pP{t:TypeId}{fs:Array Field}{ps:List (DataW H)}(ht:prog.underlying t=some (.struct fs))(h:Light t (.agg ps)){j:Nat}{f:Field}{d:DataW H}(hf:fs[j]?=some f)(hd:ps[j]?=some d):Light f.type d:=by unfold Light at h⊢;unfold DataW.weights at h;rw[ht]at h;dsimp only at h;intro n hn;refine h n (DataW.weights_mem_each (j:=j) ?_ hd n hn);rw[getElem?_map,Array.getElem?_toList,hf];rfl
def ze9.Ka8(h:p:=by
 obtain⟨l,FB,hp⟩:=pick len (P:=λ i a=>P a/\∀j,j<K->w.cell? ⟨b,off+i*K+j,none⟩=(f a)[j]?) λ i hi=>by obtain⟨a,ha,hca⟩:=oh i hi;refine⟨a,ha,λ j hj=>?_⟩;have:=hca j hj;simp only[dX]at this;exact this
 subst FB;refine⟨some ⟨b,off,none⟩,l,cap,rfl,λ a ha=>?_,hb2,.inr ⟨b,off,rfl,hbl,λ i x j u hx hu=>?_⟩⟩;obtain⟨i,hi,rfl⟩:=getElem_of_mem ha;exact(hp i _ (getElem?_eq_getElem hi)).1;exact ZeV):=h
def zh2.Kch(h:p:=by
 rcases Nat.eq_zero_or_pos len with h0|h0;subst h0;exact⟨some ad,[],cap,rfl,by simp,by simp,.inl rfl⟩;have oh:∀i,i<len->∃a:α,P a/\∀j,j<K->w.cell? ((ad.add (i*K)).add j)=(f a)[j]?:=by intro i hi;have h1:=he i hi;rw[getElem?_eq_getElem WC,hc]at h1;obtain⟨cs,h2,h3⟩:=Option.bind_eq_some_iff.1 h1;obtain⟨a,rfl,ha⟩:=hel n WC cs _ h3 (Qc _ (List.mem_map.2 ⟨_,getElem_mem _,rfl⟩));exact⟨a,ha,(ZN h2).2⟩
 open ze9 in exact Zc7):=h
theorem uX{α:Type}(f:α->xr)(P:α->Prop)(K:Nat){T e:TypeId}(hT:prog.underlying T=some (.slice e))(hc:prog.cellsOf e=K)(hK:0<K)(hf:∀x,(f x).length=K){fuel:Nat}{cs:xr}{x:DataW H×List MemPlace}
  (hel:∀m,m<fuel->∀cs x,DataW.trod enc prog w base spare held m e cs=some x->Light e x.1->∃a,cs=f a/\P a) (h:DataW.trod enc prog w base spare held fuel T cs=some x) (hw:Light T x.1):
  ∃(A:xP) (l:List α) (c:Nat),cs=[.slice A l.length c]/\(∀a∈l,P a)/\l.length*prog.bytesOf e<=reachBytes/\(l=[]\/∃b off,A=some ⟨b,off,none⟩/\b<w.heap.size/\∀i x j u,l[i]?=some x->(f x)[j]?=some u->w.cell? ⟨b,off+i*K+j,none⟩=some u):=by
 rcases DataW.trod_slice hT h with⟨hcs,_⟩|⟨ad,len,cap,elems,rest,n,hn,hcs,hx,_,hl,hm,hlen,he,_,_⟩
 exact⟨none,[],0,hcs,by simp,by simp,.inl rfl⟩
 open zh2 in exact ZgG
theorem ZO{fuel:Nat}{cs:xr}{x:DataW H×List MemPlace}(h:DataW.trod enc prog w base spare held fuel 113 cs=some x):∃a:aZ,cs=aU a/\0<=a.t/\a.t<=255:=by
 obtain⟨y0,y1,n,_,hl,t0,t1⟩:=trod_struct2 underlying113 h;rw[Gw]at hl
 match cs,hl with
 |[c0,c1],_=>simp only[gS,wT,drop_succ_cons,drop_zero,take_succ_cons,take_zero]at t0 t1;obtain⟨s,q0,_,f0⟩:=DataW.trod_string underlying9 t0;obtain⟨n1,q1,_,f1⟩:=DataW.trod_int underlying5 t1;simp at q0 q1;subst q0 q1;exact⟨⟨s,n1⟩,rfl,TI f1⟩
theorem VP{fuel:Nat}{cs:xr}{x:DataW H×List MemPlace}(h:DataW.trod enc prog w base spare held fuel 28 cs=some x)(hw:Light 28 x.1):
  ∃A l c,cs=[.slice A l.length c]/\RC w w.heap.size A l/\l.length<=140737488355328/\∀a∈l,0<=a.t/\a.t<=255:=by
 obtain⟨A,l,c,q,hP,hby,cj⟩:=uX aU (λ a=>0<=a.t/\a.t<=255) 2 underlying28 Gw WC (λ _=>rfl) (λ m hm cs x h1 _=>ZO h1) h hw;rw[VN]at hby;refine⟨A,l,c,q,?_,by unfold reachBytes at hby;omega,hP⟩;rcases cj with cj|⟨b,off,rfl,hb,cj⟩;exact .inl cj;exact .inr ⟨b,off,rfl,hb,λ i y hy=>⟨cj i y 0 _ hy rfl,cj i y 1 _ hy rfl⟩⟩
theorem VQ{fuel:Nat}{cs:xr}{x:DataW H×List MemPlace}(h:DataW.trod enc prog w base spare held fuel 38 cs=some x)(hw:Light 38 x.1):
  ∃A l c,cs=[.slice A l.length c]/\RV w w.heap.size A l/\l.length<=140737488355328/\∀a∈l,a.Ok/\0<=a.k/\a.k<=255:=by
 obtain⟨A,l,c,q,hP,hby,cj⟩:=uX aX (λ a=>a.Ok/\0<=a.k/\a.k<=255) 3 underlying38 nM WC (λ _=>rfl) (λ m hm cs x h1 _=>ZM h1) h hw;rw[VO]at hby;refine⟨A,l,c,q,?_,by unfold reachBytes at hby;omega,hP⟩;rcases cj with cj|⟨b,off,rfl,hb,cj⟩;exact .inl cj;exact .inr ⟨b,off,rfl,hb,λ i y hy=>⟨cj i y 0 _ hy rfl,cj i y 1 _ hy rfl,cj i y 2 _ hy rfl⟩⟩
end
section
variable{H:Type}{enc:TypeId×Value->H}{W:t_}{base:Nat}{v:Value}{d:DataW H}{p:List MemPlace}
theorem VR(ok:Value.okWide prog W .any base 28 v)(k:DataW.Trod enc prog W 0 (λ _=>true) true 28 v d p)(hw:Light 28 d):
  ∃A l c,v=.slice A l.length c/\RC W W.heap.size A l/\l.length<=140737488355328/\∀a∈l,0<=a.t/\a.t<=255:=by obtain⟨a,len,cap,rfl⟩:=okWide_slice underlying28 ok;obtain⟨fuel,hf⟩:=k;obtain⟨A,l,c,q,h⟩:=VP hf hw;exact ZhJ
end
def Tr.op:Tr->Int|.mk op _ _ _ _=>op
def Tr.v:Tr->Val|.mk _ v _ _ _=>v
def Tr.name:Tr->u_|.mk _ _ name _ _=>name
def Tr.args:Tr->vI|.mk _ _ _ _ args=>args
def CF(n a b m:Int):Int:=wrap64 (wrap64 (wrap64 (wrap64 (n+1)+wrap64 (wrap64 (a/5000)*2000))+wrap64 (wrap64 (b/5000)*2000))+m)
mutual
def Tr.size:Tr->Int
 |.mk op v name width args=>Tr.dH 0 args
def Tr.dH:Int->vI->Int
 |n,[]=>n
 |n,.mk op v name width args::ts=>if n<2000 then Tr.dH (CF n name.size v.s.size (Tr.dH 0 args)) ts else n
end
variable{S:Nat->Prop}
theorem Tr.aO.get{w:t_}:∀{ts:vI}{ys:v_}{i:Nat}{t:Tr},Tr.aO w S ts ys->ts[i]?=some t->∃y,ys[i]?=some y/\t.at_ w S y
 |[],ys,i,t,h,ht=>by simp at ht
 |x::ts,ys,0,t,h,ht=>by unfold Tr.aO at h;obtain⟨y,ys',rfl,h2,h3⟩:=h;simp at ht;subst ht;exact⟨y,rfl,h2⟩
 |x::ts,ys,i+1,t,h,ht=>by unfold Tr.aO at h;obtain⟨y,ys',rfl,h2,h3⟩:=h;have:=Tr.aO.get h3 (i:=i) (t:=t) (by simpa using ht);simpa using this
def Qd(w:t_)(y:Ex)(n:Int):Prop:=∀W,ai w W->ar 22 #[.slice y.A y.n y.c] W λ e w'=>e=.returned (af n)/\ai W w'
def zdp.KaD(h:p:=by
 clear fq y2 cV cQ;go_wp2_with fail;go_roundw;case rel=>refine⟨k+1,CF n y.name.size y.v.s.size m,hlt,by go_num,by unfold CF;rfl,?_,aj.then hb hL⟩;rw[HF.ae,HD.ae];exact HG.ae
 case measure=>exact Za2):=h
theorem TJ(A:xP)(c:Nat)(ts:vI)(ys:v_)(w:t_)(hl:ts.length<=1599289640356)(hm:Tr.aO w (Old w) ts ys)(hA:RE w w.heap.size A ys)(hE:∀(i:Nat) (t:Tr) (y:Ex),ts[i]?=some t->ys[i]?=some y->Qd w y t.size):
  ar 22 #[.slice A ts.length c] w λ e w'=>e=.returned (af (Tr.dH 0 ts))/\ai w w':=by
 have HA:=aa hA;have HE:=aa hE;have HL:=aa hm;clear hA hE hm;go_enter func22,ntmps22;go_wp2_with fail;go_loopw [3,4] (λ nv i wr=>∃(k:Nat) (n:Int),k<=ts.length/\i=af k/\nv=af n/\Tr.dH 0 ts=Tr.dH n (ts.drop k)/\ai w wr) (λ _ i _=>ts.length-(intOf i).toNat);case atStart=>exact⟨0,0,gE,rfl,rfl,rfl,cX⟩
 case round=>
  obtain⟨k,n,hk,rfl,rfl,hF,hb⟩:=hrel;have HF:=aa hF;clear hF;by_cases hlt:k<ts.length
  ·have HD:=aa (show ts.drop k=ts[k]::ts.drop (k+1)from drop_eq_getElem_cons hlt);obtain⟨y,hy,hat⟩:=HL.ae.get (getElem?_eq_getElem hlt);have hsz:=HE.ae k _ y (getElem?_eq_getElem hlt) hy;by_cases h2:n<2000
   ·have FC:k<ys.length:=by rcases gR k ys.length with h|h;exact h;rw[getElem?_eq_none h]at hy;cases hy
    obtain⟨b,off,rfl,ly,cQ⟩:=(HA.ae.below hb).at_ FC;have jR:ys[k]=y:=by rw[getElem?_eq_getElem FC]at hy;simpa using hy
    rw[jR]at cQ;clear jR hy FC;generalize ts[k]=t at*;obtain⟨top,tv,Mk,CG,targs⟩:=t;unfold Tr.at_ at hat;have h4:=hat.2.1;have h5:=hat.2.2.1;clear hat;have HG:=aa (show Tr.dH n (.mk top tv Mk CG targs::ts.drop (k+1))=Tr.dH (CF n y.name.size y.v.s.size (Tr.size (.mk top tv Mk CG targs))) (ts.drop (k+1)) by
     rw[h4,h5]
     conv=>lhs;unfold Tr.dH
     rw[if_pos h2];rfl)
    clear h4 h5;generalize Tr.size (.mk top tv Mk CG targs)=m at*;have t1:=decide_eq_true h2;have cV:=λ x:Ext wr.heap.size wr=>(cQ.keep (w':=x.w) λ o=>x.h.cell (p:=⟨b,o,none⟩) (eS ly hb.size));unfold cC at cV;have acK:=λ x:Ext wr.heap.size wr=>hsz x.w (aj.then hb x.h);go_wp2_with fail;refine aR 28 wr.heap.size wr cX Taa Taa Taa Taa ?_;simp only[Uab];repeat (go_big_quiet_step (fail))
    go_big_quiet_step ((go_at_call 22;exact aN aE (acK _)));open zdp in exact Zbu
   have t1:=decide_eq_false h2;generalize ts[k]=t at*;obtain⟨top,tv,Mk,CG,targs⟩:=t;have HG:=aa (show Tr.dH n (.mk top tv Mk CG targs::ts.drop (k+1))=n by unfold Tr.dH;rw[if_neg h2])
   clear hsz hat hy;go_wp2_with fail;go_ret;refine⟨?_,hb⟩;rw[HF.ae,HD.ae,HG.ae];rfl
  go_wp2_with fail;go_ret;refine⟨?_,hb⟩;rw[HF.ae,drop_eq_nil_of_le WC];unfold Tr.dH;rfl
mutual
theorem Tr.acL:∀(t:Tr) (y:Ex) (w:t_),t.ok->t.at_ w (Old w) y->Qd w y t.size
 |.mk op v name width args,y,w,bc,hat=>by intro W hb;have oL:=hat.later hb;unfold Tr.at_ at oL;obtain⟨h1,h2,h3,h4,h5,ys,h6,h7⟩:=oL;unfold Tr.ok at bc;have k:=TJ y.A y.c args ys W bc.2.1 h7 h6.old (Tr.CH args ys W bc.2.2.2.2.2 h7);rw[h5];unfold Tr.size;exact k
theorem Tr.CH:∀(ts:vI) (ys:v_) (w:t_),Tr.cO ts->Tr.aO w (Old w) ts ys->∀(i:Nat) (t:Tr) (y:Ex),ts[i]?=some t->ys[i]?=some y->Qd w y t.size
 |[],ys,w,_,_,i,t,y,ht,_=>by simp at ht
 |x::ts,ys,w,bc,hat,i,t,y,ht,hy=>by
   unfold Tr.aO at hat;unfold Tr.cO at bc;obtain⟨y',ys',rfl,h2,h3⟩:=hat
   match i,ht,hy with
   |0,ht,hy=>simp at ht hy;subst ht hy;exact Tr.acL x y' w bc.1 h2
   |i+1,ht,hy=>exact Tr.CH ts ys' w bc.2 h3 i t y (by simpa using ht) (by simpa using hy)
end
def sf(w:t_)(e:Ending)(w':t_):Prop:=∃b:Bool,e=.returned (.bool b)/\ai w w'
open Go.Shelf
def Tryz.lays134_ren:Go.Shelf.Ren:=⟨λ|134=>214|129=>210|n=>n,λ|53=>195|3=>3|4=>4|46=>184|5=>5|9=>9|n=>n,λ|n=>n⟩
theorem Tryz.lays134:Go.Proofs.Lays.n134 prog Tryz.lays134_ren:= {
 mixed:=Taa
 f129:=func210.trans (congrArg some Taa)
 f134:=func214.trans (congrArg some Taa)
 t3:=underlying3
 a3:=isAgg3
 z3:=sizeOf3
 v3:=zeroValue3
 t4:=underlying4
 a4:=isAgg4
 z4:=sizeOf4
 v4:=zeroValue4
 t5:=underlying5
 a5:=isAgg5
 z5:=sizeOf5
 v5:=zeroValue5
 t9:=underlying9
 a9:=isAgg9
 z9:=sizeOf9
 v9:=zeroValue9
 t46:=underlying184
 a46:=isAgg184
 z46:=sizeOf184
 v46:=zeroValue184
 t53:=underlying195
 a53:=isAgg195
 z53:=sizeOf195
 v53:=zeroValue195}
theorem Tryz.bits_LeadingZeros64(x:Int)(w:t_)(h0:0<=x)(h1:x<=18446744073709551615):
 ar 214 #[.int .u64 x] w λ e w'=>e=.returned (af (64-(Lib.bitLen x.toNat:Int)))/\w'=w:=Any.bits_LeadingZeros64 Tryz.lays134 x w h0 h1
def Tryz.laysM171_ren:Go.Shelf.Ren:=⟨λ|171=>98|243=>149|246=>185|283=>201|284=>202|285=>203|286=>204|129=>210|317=>209|318=>211|319=>212|320=>213|337=>215|338=>216|n=>n,λ|3=>3|9=>9|2=>2|4=>4|171=>251|0=>0|53=>195|37=>97|5=>5|173=>254|212=>261|51=>262|20=>20|213=>263|46=>184|232=>268|233=>269|n=>n,λ|17=>0|18=>3|19=>4|n=>n⟩
theorem Tryz.laysM171:Go.Proofs.LaysM.n171 prog Tryz.laysM171_ren:= {
 mixed:=Taa
 f129:=func210.trans (congrArg some Taa)
 f171:=func98.trans (congrArg some Taa)
 f243:=func149.trans (congrArg some Taa)
 f246:=func185.trans (congrArg some Taa)
 f283:=func201.trans (congrArg some Taa)
 f284:=func202.trans (congrArg some Taa)
 f285:=func203.trans (congrArg some Taa)
 f286:=func204.trans (congrArg some Taa)
 f317:=func209.trans (congrArg some Taa)
 f318:=func211.trans (congrArg some Taa)
 f319:=func212.trans (congrArg some Taa)
 f320:=func213.trans (congrArg some Taa)
 f337:=func215.trans (congrArg some Taa)
 f338:=func216.trans (congrArg some Taa)
 t0:=underlying0
 a0:=isAgg0
 z0:=sizeOf0
 v0:=zeroValue0
 t2:=underlying2
 a2:=isAgg2
 z2:=sizeOf2
 v2:=zeroValue2
 t3:=underlying3
 a3:=isAgg3
 z3:=sizeOf3
 v3:=zeroValue3
 t4:=underlying4
 a4:=isAgg4
 z4:=sizeOf4
 v4:=zeroValue4
 t5:=underlying5
 a5:=isAgg5
 z5:=sizeOf5
 v5:=zeroValue5
 t9:=underlying9
 a9:=isAgg9
 z9:=sizeOf9
 v9:=zeroValue9
 t20:=underlying20
 a20:=isAgg20
 z20:=sizeOf20
 v20:=zeroValue20
 t37:=underlying97
 a37:=isAgg97
 z37:=sizeOf97
 v37:=zeroValue97
 t46:=underlying184
 a46:=isAgg184
 z46:=sizeOf184
 v46:=zeroValue184
 t51:=underlying262
 a51:=isAgg262
 z51:=sizeOf262
 v51:=zeroValue262
 t53:=underlying195
 a53:=isAgg195
 z53:=sizeOf195
 v53:=zeroValue195
 t171:=underlying251
 a171:=isAgg251
 z171:=sizeOf251
 v171:=zeroValue251
 t173:=underlying254
 a173:=isAgg254
 z173:=sizeOf254
 v173:=zeroValue254
 t212:=underlying261
 a212:=isAgg261
 z212:=sizeOf261
 v212:=zeroValue261
 t213:=underlying263
 a213:=isAgg263
 z213:=sizeOf263
 t232:=underlying268
 a232:=isAgg268
 z232:=sizeOf268
 v232:=zeroValue268
 t233:=underlying269
 a233:=isAgg269
 z233:=sizeOf269
 v233:=zeroValue269
 g17:=Taa
 g18:=Taa
 g19:=Taa
 i0:=Taa
 i2:=Taa
 i3:=Taa
 i4:=Taa
 i5:=Taa
 i9:=Taa
 i20:=Taa
 i37:=Taa
 i46:=Taa
 i51:=Taa
 i53:=Taa
 i171:=Taa
 i173:=Taa
 i212:=Taa
 i232:=Taa
 i233:=Taa
 m17:=Taa
 m18:=Taa
 m19:=by kernel_rfl}
open Go.RowKit Go.Sort Go.Lib in
theorem Tryz.strconv_Itoa(n:Int)(h0: -9223372036854775808<=n)(h1:n<=9223372036854775807)(w:t_)(atZ:Lib.TabIs prog w "internal/strconv.uint64pow10" .u64 Lib.pow10Tab):
 ar 98 #[af n] w λ e w'=>e=.returned (.string ⟨(Lib.itoa n).toArray⟩)/\∃k os,w'=grow (w.drewN k) os:=Any.strconv_Itoa Tryz.laysM171 n h0 h1 w atZ
def wU(y z:Ex):Bool:=y.op==z.op&&((y.v.k==z.v.k&&(y.v.n==z.v.n&&y.v.s.toList==z.v.s.toList))&&(y.name.toList==z.name.toList&&y.width==z.width))
mutual
def Tr.same:Tr->Tr->Bool
 |.mk o1 v1 n1 w1 a1,.mk o2 v2 n2 w2 a2=>(o1==o2&&((v1.k==v2.k&&(v1.n==v2.n&&v1.s.toList==v2.s.toList))&&(n1.toList==n2.toList&&w1==w2)))&&(a1.length==a2.length&&Tr.Gy a1 a2)
def Tr.Gy:vI->vI->Bool
 |t::ts,u::us=>t.same u&&Tr.Gy ts us
 |_,_=>true
end
def nN(w:t_)(y z:Ex)(b:Bool):Prop:=∀W,ai w W->ar 152 #[.agg (ay y),.agg (ay z)] W λ e w'=>e=.returned (.bool b)/\ai W w'
def acM(w:t_)(y z:Ex)(b:Bool):Prop:=∀W,ai w W->ar 186 #[.slice y.A y.n y.c,.slice z.A z.n z.c,.func (.func 152) #[] #[]] W λ e w'=>e=.returned (.bool b)/\ai W w'
def zbk.Kae(h:p:=by
 have x0:=hR.cell 0;have x1:=hR.cell 1;have z2:=hR.cell 2;have z3:=hR.cell 3;have z4:=hR.cell 4;have z5:=hR.cell 5;have z6:=hR.cell 6;simp only[Uaa]at x0 x1 z2 z3 z4 z5 z6;cases e1:(y.op==z.op)
 ·go_wp2_with fail;go_ret;exact⟨by simp[wU,e1],hb⟩
 cases e2:(y.v.k==z.v.k)
 ·go_wp2_with fail;go_ret;exact⟨by simp[wU,e1,e2],hb⟩
 cases e3:(y.v.n==z.v.n)
 ·go_wp2_with fail;go_ret;exact⟨by simp[wU,e1,e2,e3],hb⟩
 cases e4:(y.v.s.toList==z.v.s.toList)
 ·go_wp2_with fail;go_ret;exact⟨by simp[wU,e1,e2,e3,e4],hb⟩
 cases e5:(y.name.toList==z.name.toList)
 ·go_wp2_with fail;go_ret;exact⟨by simp[wU,e1,e2,e3,e4,e5],hb⟩
 cases e6:(y.width==z.width);exact Zic;go_wp2_with fail;refine(oC.ae _ hb).mono ?_;rintro e w1 ⟨rfl,b1⟩;replace hb:=aj.then hb b1;clear b1 z0 z1 x2 x3 x4 x5 x6 x0 x1 z2 z3 z4 z5 z6;exact Zic):=h
theorem Qe(y z:Ex)(bl:Bool)(w:t_)(hL:acM w y z bl):ar 152 #[.agg (ay y),.agg (ay z)] w λ e w'=>e=.returned (.bool (wU y z&&bl))/\ai w w':=by have oC:=aa hL;clear hL;go_enter func152,ntmps152;have k1:=(aB.new w 46 (ay y)).alloc (.cells (ay z) 46);have hR:=aB.new (w.alloc (.cells (ay y) 46)) 46 (ay z);rw[World.size_alloc]at hR;have hb:=aj.then (ah w (.cells (ay y) 46)) (ah _ (.cells (ay z) 46));open zbk in exact Zay
theorem Gz(A A':xP)(c c':Nat)(ys zs:v_)(bs:List Bool)(w:t_)(hl:ys.length<=1599289640356)(hl':zs.length<=1599289640356)(Lz:bs.length=ys.length)(hA:RE w w.heap.size A ys)(hA':RE w w.heap.size A' zs)(hE:ys.length=zs.length->∀(Lw:Nat) y z b2,ys[Lw]?=some y->zs[Lw]?=some z->bs[Lw]?=some b2->nN w y z b2):
  ar 186 #[.slice A ys.length c,.slice A' zs.length c',.func (.func 152) #[] #[]] w λ e w'=>e=.returned (.bool (ys.length==zs.length&&bs.all id))/\ai w w':=by
 have LI:=aa hA;have HI:=aa hA';have HE:=aa hE;have HBS:=aa Lz;clear hA hA' hE Lz;by_cases hne:ys.length=zs.length
 ·have t0:(ys.length != zs.length)=false:=by simpa using hne
  have t0':((ys.length:Int) !=(zs.length:Int))=false:=by simp[hne]
  have oD:=aa hne;have hle:ys.length<=zs.length:=WC;rw[show(ys.length==zs.length)=true by simpa using hne];clear hne;rw[Bool.true_and];go_enter func186,ntmps186;go_wp2_with fail;clear t0 t0';go_loopw [17] (λ Lw wr=>∃i:Nat,i<=ys.length/\Lw=af i/\bs.all id=(bs.drop i).all id/\ai w wr) (λ Lw _=>ys.length-(intOf Lw).toNat);case atStart=>exact Zg6
  case round=>
   obtain⟨i,hk,rfl,hp,hb⟩:=hrel;have HP:=aa hp;clear hp;by_cases hlt:i<ys.length
   ·have rB:i<zs.length:=by omega
    have Ml:i<bs.length:=by have:=HBS.ae;omega
    obtain⟨b2,aDY,rfl,hb1,hx⟩:=(LI.ae.below hb).at_ hlt;obtain⟨Kx,aBY,rfl,hb2,TK⟩:=(HI.ae.below hb).at_ rB;have gO:=HE.ae oD.ae i _ _ _ (getElem?_eq_getElem hlt) (getElem?_eq_getElem rB) (getElem?_eq_getElem Ml);have HD:=aa (show bs.drop i=bs[i]::bs.drop (i+1)from drop_eq_getElem_cons Ml);generalize ys[i]=y at*;generalize zs[i]=z at*;generalize bs[i]=sb at*;have Z5:b2<wr.heap.size:=eS hb1 hb.size;have Z6:Kx<wr.heap.size:=eS hb2 hb.size;have bb:=aj.then (ah wr (.cells (ay y) 46)) (ah _ (.cells (ay z) 46));have ane:=TK.keep (w':=wr.alloc (.cells (ay y) 46)) λ o=>(ah wr (.cells (ay y) 46)).cell (p:=⟨Kx,o,none⟩) Z6;unfold cC at hx ane;go_wp2_with fail;refine(gO _ (aj.then hb bb)).mono ?_;rintro e w1 ⟨rfl,b1⟩;have KK:=aj.then hb (aj.then bb b1);clear hx TK ane gO bb b1 hb;cases sb
    ·go_wp2_with fail;go_ret;refine⟨?_,KK⟩;rw[HP.ae,HD.ae];rfl
    go_wp2_with fail;go_roundw;case rel=>refine⟨i+1,hlt,by go_num,?_,KK⟩;rw[HP.ae,HD.ae];rfl
    case measure=>exact Za2
   go_wp2_with fail;go_ret;refine⟨?_,hb⟩;rw[HP.ae,drop_eq_nil_of_le (by have:=HBS.ae;omega)];rfl
 have t0:(ys.length != zs.length)=true:=by simpa using hne
 have t0':((ys.length:Int) !=(zs.length:Int))=true:=Tac;rw[show(ys.length==zs.length)=false by simpa using hne];clear hne;go_enter func186,ntmps186;go_wp2_with fail;go_ret;exact⟨rfl,cX⟩
mutual
theorem Tr.Mm:∀(t u:Tr) (y z:Ex) (w:t_),t.ok->u.ok->t.at_ w (Old w) y->u.at_ w (Old w) z->nN w y z (t.same u)
 |.mk o1 v1 n1 w1 a1,.mk o2 v2 n2 w2 a2,y,z,w,bc,uk,hat,hat'=>by
   intro W hb;have h1:=hat.later hb;have h2:=hat'.later hb;unfold Tr.at_ at h1 h2;unfold Tr.ok at bc uk;obtain⟨p1,p2,p3,p4,p5,ys,p6,p7⟩:=h1;obtain⟨q1,q2,q3,q4,q5,zs,q6,q7⟩:=h2;have hlY:=p7.length;have hlZ:=q7.length;have k:=Qe y z (a1.length==a2.length&&Tr.Gy a1 a2) W (by
    intro W' hW';have hp7:=p7.later hW';have hq7:=q7.later hW';by_cases FB:a1.length=a2.length
    ·obtain⟨bs,b1,b2,b3⟩:=Tr.GC a1 a2 ys zs W' bc.2.2.2.2.2 uk.2.2.2.2.2 hp7 hq7 FB
     have kk:=Gz y.A z.A y.c z.c ys zs bs W' (by rw[hlY];exact bc.2.1) (by rw[hlZ];exact uk.2.1) (by rw[b1,hlY]) ((p6.old.below hW').more hW'.size) ((q6.old.below hW').more hW'.size) (λ _=>b3);rw[hlY,hlZ,b2]at kk;rw[p5,q5];exact kk
    have kk:=Gz y.A z.A y.c z.c ys zs (List.replicate ys.length true) W' (by rw[hlY];exact bc.2.1) (by rw[hlZ];exact uk.2.1) Tad ((p6.old.below hW').more hW'.size) ((q6.old.below hW').more hW'.size) (λ h=>absurd (by rw[<-hlY,<-hlZ];exact h) FB);have e0:(a1.length==a2.length)=false:=by simpa using FB
    rw[hlY,hlZ,e0]at kk;rw[p5,q5,e0];exact kk)
   unfold wU at k;rw[p1,p2,p3,p4,q1,q2,q3,q4]at k;unfold Tr.same;rw[<-p1,<-p2,<-p3,<-p4,<-q1,<-q2,<-q3,<-q4]at k⊢;exact k
theorem Tr.GC:∀(ts us:vI) (ys zs:v_) (w:t_),Tr.cO ts->Tr.cO us->Tr.aO w (Old w) ts ys->Tr.aO w (Old w) us zs->ts.length=us.length->∃bs:List Bool,bs.length=ts.length/\bs.all id=Tr.Gy ts us/\∀(i:Nat) y z b,ys[i]?=some y->zs[i]?=some z->bs[i]?=some b->nN w y z b
 |[],[],ys,zs,w,_,_,_,_,_=>⟨[],rfl,by simp[Tr.Gy],λ i y z b _ _ h=>by simp at h⟩
 |[],_::_,ys,zs,w,_,_,_,_,h=>by simp at h
 |_::_,[],ys,zs,w,_,_,_,_,h=>by simp at h
 |t::ts,u::us,ys,zs,w,bc,uk,hat,hat',hl=>by
   unfold Tr.aO at hat hat';unfold Tr.cO at bc uk;obtain⟨y,ys',rfl,h2,h3⟩:=hat;obtain⟨z,zs',rfl,Fk,h3'⟩:=hat';obtain⟨bs,b1,b2,b3⟩:=Tr.GC ts us ys' zs' w bc.2 uk.2 h3 h3' (by simpa using hl);refine⟨t.same u::bs,by simp[b1],by simp[Tr.Gy,b2],?_⟩;intro i y' z' b hy hz hb
   match i,hy,hz,hb with
   |0,hy,hz,hb=>simp at hy hz hb;subst hy hz hb;exact Tr.Mm t u y z w bc.1 uk.1 h2 Fk
   |i+1,hy,hz,hb=>exact b3 i y' z' b (by simpa using hy) Ta6 (by simpa using hb)
end
def M:Int:=18446744073709551616
def lo(a:Int):Int:=a % M
def hi(a:Int):Int:=a/M
theorem tJ(a:Int):0<=lo a:=by unfold lo M;omega
theorem TL(a:Int):lo a<M:=by unfold lo M;omega
theorem tK{a:Int}(h:0<=a):0<=hi a:=by unfold hi M;omega
def wv(a:Int):Value:=.agg #[.int .u64 (hi a),.int .u64 (lo a)]
def gH(n:Int):Int:=n %(M*M)
theorem ZP(n:Int)(h1: -9223372036854775808<=n)(h2:n<=9223372036854775807):hi (gH n)=if n<0 then M-1 else 0:=by unfold hi gH M;split<;>omega
theorem ZQ(n:Int):lo (gH n)=n % M:=by unfold lo gH M;omega
theorem VS(n:Int)(h1: -9223372036854775808<=n)(h2:n<=9223372036854775807):Value.agg #[.int .u64 (IntKind.u64.wrap (n/9223372036854775808)),.int .u64 (IntKind.u64.wrap n)]=wv (gH n):=by
 unfold wv;rw[ZP n h1 h2,ZQ,IntKind.wrap_u64,IntKind.wrap_u64];have e1:n/9223372036854775808 % 18446744073709551616=if n<0 then M-1 else 0:=by unfold M;split<;>omega
 rw[e1];rfl
theorem GD(n:Int)(h1: -9223372036854775808<=n)(h2:n<=9223372036854775807)(w:t_):ar 191 #[af n] w λ e w'=>e=.returned (wv (gH n))/\ai w w':=by rw[<-VS n h1 h2];go_enter func191,ntmps191;go_wp2;exact bodyPost_ret (v:=.agg #[.int .u64 (IntKind.u64.wrap (n/9223372036854775808)),.int .u64 (IntKind.u64.wrap n)]) (by simp[results,results191,go_sem]) rfl ⟨rfl,cX.alloc aE _⟩
def mG(a b:Int):Int:=(a+b)%(M*M)
theorem ZR:(prog.info? 195).map (λ i=>(i.zero,i.size,i.bytes))=some (some (.int .u64 0),1,8):=by exact Zhr
theorem acN(a b c d:Int)(w:t_):(Op.equalIn 10000 197 (.agg #[.int .u64 a,.int .u64 b]) (.agg #[.int .u64 c,.int .u64 d])).run prog w=.ok (a==c&&b==d) w:=by obtain⟨i0,kB,hz0,hz1,hz2⟩:=info_parts ZR;rw[show(10000:Nat)=9998+1+1 from rfl];unfold Op.equalIn;simp[run_underlying underlying197,sizeOf,typeInfo,kB,hz1,Std.Legacy.Range.forIn_eq_forIn_range',List.range',part,isAgg,run_underlying underlying195,run_equalIn_int w 9998 195 .u64 .u64 _ _ underlying195];by_cases h1:a=c;by_cases h2:b=d<;>simp[h1,h2];simp[h1]
def GF(x:Int):Int:=IntKind.i64.wrap x
def mH(a:Int):Bool:=(hi a==hi (gH (GF (lo a))))&&(lo a==lo (gH (GF (lo a))))
theorem Qf(a:Int)(w:t_):ar 192 #[.agg #[.int .u64 (hi a),.int .u64 (lo a)]] w λ e w'=>e=.returned (.tuple #[af (GF (lo a)),.bool (mH a)])/\ai w w':=by
 have hb: -9223372036854775808<=GF (lo a)/\GF (lo a)<=9223372036854775807:=by unfold GF;rw[IntKind.wrap_i64];omega
 have hw:=λ w=>GD (GF (lo a)) hb.1 hb.2 w;unfold wv at hw;have HW:=aa hw;have HD:=aa (show mH a=((hi a==hi (gH (GF (lo a))))&&(lo a==lo (gH (GF (lo a)))))from rfl);clear hw hb;have hs:IntKind.i64.wrap (lo a)=GF (lo a):=rfl;have he:=acN;generalize GF (lo a)=n at*;generalize hi (gH n)=h2 at*;generalize lo (gH n)=l2 at*;generalize lo a=l1 at*;generalize hi a=h1 at*;generalize mH a=r at*;go_enter func192,ntmps192;go_wp2_with fail;have cS:∀(y2:Ext (w.heap.size+1) (w.alloc (.cells #[.int .u64 h1,.int .u64 l1] 197))),y2.w.cell? ⟨w.heap.size,0,none⟩=some (.int .u64 h1):=λ y2=>by rw[y2.cell Tad];simp
 have cA:∀(y2:Ext (w.heap.size+1) (w.alloc (.cells #[.int .u64 h1,.int .u64 l1] 197))),y2.w.cell? ⟨w.heap.size,1,none⟩=some (.int .u64 l1):=λ y2=>by rw[y2.cell Tad];simp
 refine aR 7 (w.heap.size+1) _ cX Taa Taa Taa Taa ?_;simp only[Uab];repeat (go_big_quiet_step (first
  |(go_at_call 191;exact aN Tad (HW.ae _))))
 refine wpQuiet_nil ?_;rintro W4 ⟨y2,fq⟩;have hL:=y2.h;rw[<-fq]at hL;clear cS cA fq y2;go_wp2_with fail;go_ret2;rw[HD.ae];exact Zdn
theorem ZT(hi lo y Y Y1 H Lq U LL u1 u0 q1 r1 V q0 r0:Int)(k:Nat)(hy0:0<y)(hy1:y<=65535)(hh0:0<hi)(hh1:hi<y)(hk:k<=63)(YK:1<=k)
  (hlz:(64-(Lib.bitLen y.toNat:Int))=(k:Int)) (hY1:1<=Y1) (hU0:0<=U) (hV0:0<=V)
  (e1:IntKind.u64.wrap (y*2 ^ k)=Y) (e2:Y/4294967296=Y1) (e3:bits .and .u64 Y 4294967295=0)
  (e4:IntKind.u64.wrap (hi*2 ^ k)=H) (e5:lo/2 ^(64-k)=Lq) (e6:bits .or .u64 H Lq=U) (e7:IntKind.u64.wrap (lo*2 ^ k)=LL) (e8:LL/4294967296=u1) (e9:bits .and .u64 LL 4294967295=u0)
  (f1:IntKind.u64.wrap (U.tdiv Y1)=q1) (f2:IntKind.u64.wrap (U-IntKind.u64.wrap (q1*Y1))=r1) (LC:q1<4294967296) (auc:0<=q1)
  (g1:IntKind.u64.wrap (IntKind.u64.wrap (IntKind.u64.wrap (U*4294967296)+u1)-IntKind.u64.wrap (q1*Y))=V)
  (g2:IntKind.u64.wrap (V.tdiv Y1)=q0) (g3:IntKind.u64.wrap (V-IntKind.u64.wrap (q0*Y1))=r0) (hq0:q0<4294967296) (aud:0<=q0) (q r:Int) (d1:IntKind.u64.wrap (IntKind.u64.wrap (q1*4294967296)+q0)=q) (d2:IntKind.u64.wrap (IntKind.u64.wrap (IntKind.u64.wrap (V*4294967296)+u0)-IntKind.u64.wrap (q0*Y))/ 2 ^ k=r) (w:t_):
  ar 206 #[.int .u64 hi,.int .u64 lo,.int .u64 y] w λ e w'=>e=.returned (.tuple #[.int .u64 q,.int .u64 r])/\w=w':=by
 have b1:(y==0)=false:=by rw[beq_eq_false_iff_ne];omega
 have b2:decide (y<=hi)=false:=Tac;have b3:(hi==0)=false:=by rw[beq_eq_false_iff_ne];omega
 have b4:decide ((4294967296:Int)<=q1)=false:=Tac;have b5:decide ((4294967296:Int)<=q0)=false:=Tac;have b6:∀z:Int,decide (IntKind.u64.wrap z<0)=false:=by intro z;rw[IntKind.wrap_u64];simp;omega
 have HL:=aa hlz;have E:=aa e1;clear hlz hh0 hh1 LC hq0 auc aud;go_enter func206,ntmps206;go_wp2_with (go_at_call 214;refine(Tryz.bits_LeadingZeros64 y _ WC WC).mono ?_;rintro e w' ⟨rfl,rfl⟩;rw[HL.ae]);refine wp_loop_rounds 1 ?_;rw[rounds_succ];go_wp2_with fail;refine wp_loop_rounds 1 ?_;rw[rounds_succ];go_wp2_with fail;go_ret2;exact ZfK
theorem ahY:∀y:Fin 512,y.val=0\/(1<=Lib.bitLen y.val/\Lib.bitLen y.val<=9/\2 ^(Lib.bitLen y.val-1)<=y.val/\y.val<2 ^ Lib.bitLen y.val):=by decide+kernel
theorem ZU(x:Int)(h0:0<=x)(h1:x<M):bits .and .u64 x 4294967295=x % 4294967296:=by have:=bits_mask .u64 64 Tab (λ n h0 h1=>by rw[IntKind.wrap_u64];omega) 32 Tab x h0 (by unfold M at h1;omega);exact this
theorem acO(k:Nat)(hk:k<=64)(x y:Int)(hx0:0<=x)(hx:x % 2 ^ k=0)(hx1:x<M)(hy0:0<=y)(hy:y<2 ^ k)(hy1:y<M):bits .or .u64 x y=x+y:=
 bits_join .u64 64 Tab (λ n h0 h1=>by rw[IntKind.wrap_u64];omega) k x y hx0 hx (by unfold M at hx1;omega) hy0 hy (by unfold M at hy1;omega)
theorem aue(U Y Y1 u1 q1:Int)(hY:Y=Y1*4294967296)(h1:1<=Y1)(h2:Y1<4294967296)(hU0:0<=U)(hU1:U<Y)(YG:0<=u1)(hu1:u1<4294967296)(hq:q1=U/Y1):
  IntKind.u64.wrap (IntKind.u64.wrap (IntKind.u64.wrap (U*4294967296)+u1)-IntKind.u64.wrap (q1*Y))=U % Y1*4294967296+u1:=by
 have Pl:=Int.emod_nonneg U (show Y1≠0 by omega);have Js:=Int.emod_lt_of_pos U (show 0<Y1 by omega);have hd:=Int.mul_ediv_add_emod U Y1;have hp:q1*Y=(q1*Y1)*4294967296:=by rw[hY,Int.mul_assoc]
 have Fo:q1*Y1=U-U % Y1:=by rw[hq,Int.mul_comm];omega
 rw[hp,Fo];simp only[IntKind.wrap_u64];omega
theorem anh(hi lo y:Int)(L k:Nat)(hL:L=Lib.bitLen y.toNat)(hk:k=64-L)(hh0:0<hi)(hh1:hi<y)(hl0:0<=lo)(fI:lo<M)(a1:1<=L)(a2:L<=9)(P Q:Int)(hP:(2:Int)^ k=P)(hQ:(2:Int)^(64-k)=Q)(hPQ:P*Q=M)
  (aug:∃P':Int,P=P'*4294967296/\0<P') (y1:M<=2*(y*P)) (y2:y*P<M) (hy:y<=65535):
  ∃q r:Int,∀w,ar 206 #[.int .u64 hi,.int .u64 lo,.int .u64 y] w λ e w'=>e=.returned (.tuple #[.int .u64 q,.int .u64 r])/\w=w':=by
 obtain⟨P',hP',auh⟩:=aug;have hP0:0<P:=WC;have hQ0:0<Q:=by rw[<-hQ];exact Int.pow_pos Tab
 have hY:IntKind.u64.wrap (y*P)=y*P:=by rw[IntKind.wrap_u64];have:0<=y*P:=Int.mul_nonneg WC WC;unfold M at y2;omega
 have hYe:y*P=(y*P')*4294967296:=by rw[hP',Int.mul_assoc]
 have hY1:y*P/4294967296=y*P':=by rw[hYe];omega
 have anj:1<=y*P':=Int.mul_pos WC auh;have aui:y*P' < 4294967296:=by rw[hYe]at y2;unfold M at y2;omega
 have aCe:(hi+1)*P<=y*P:=Int.mul_le_mul_of_nonneg_right WC WC;have hHx:(hi+1)*P=hi*P+P:=by rw[Int.add_mul,Int.one_mul]
 have hH0:0<=hi*P:=Int.mul_nonneg WC WC;have hH:IntKind.u64.wrap (hi*P)=hi*P:=by rw[IntKind.wrap_u64];unfold M at y2;omega
 have auj:0<=lo/Q:=Int.ediv_nonneg hl0 WC;have auk:lo/Q<P:=by apply Int.ediv_lt_of_lt_mul hQ0;rw[hPQ];exact fI
 have hU:bits .or .u64 (hi*P) (lo/Q)=hi*P+lo/Q:=by refine acO k WC _ _ hH0 (by rw[hP];exact Int.mul_emod_left _ _) WC auj (by rw[hP];exact auk) (by unfold M at*;omega)
 have aul:hi*P+lo/Q<y*P:=WC;have aum:0<=IntKind.u64.wrap (lo*P)/\IntKind.u64.wrap (lo*P)< M:=by rw[IntKind.wrap_u64];unfold M;omega
 have hu1:0<=IntKind.u64.wrap (lo*P)/ 4294967296/\IntKind.u64.wrap (lo*P)/ 4294967296<4294967296:=by unfold M at aum;omega
 have ank:(hi*P+lo/Q).tdiv (y*P')=(hi*P+lo/Q)/(y*P'):=Int.tdiv_eq_ediv_of_nonneg WC;have hUq:(hi*P+lo/Q)/(y*P')< 4294967296:=by apply Int.ediv_lt_of_lt_mul WC;omega
 have aun:0<=(hi*P+lo/Q)/(y*P'):=Int.ediv_nonneg WC WC;have LC:IntKind.u64.wrap ((hi*P+lo/Q).tdiv (y*P'))=(hi*P+lo/Q)/(y*P'):=by rw[ank,IntKind.wrap_u64];omega
 have hV:=aue (hi*P+lo/Q) (y*P) (y*P') (IntKind.u64.wrap (lo*P)/ 4294967296) _ hYe anj aui WC aul hu1.1 hu1.2 LC;have Pl:=Int.emod_nonneg (hi*P+lo/Q) (show y*P'≠0 by omega);have Js:=Int.emod_lt_of_pos (hi*P+lo/Q) (show 0<y*P' by omega);generalize hVV:(hi*P+lo/Q)%(y*P')*4294967296+IntKind.u64.wrap (lo*P)/ 4294967296=V at hV;have hV0:0<=V:=WC;have aCh:V<y*P:=by rw[hYe];omega
 have anl:V.tdiv (y*P')=V/(y*P'):=Int.tdiv_eq_ediv_of_nonneg hV0;have hVq:V/(y*P')< 4294967296:=by apply Int.ediv_lt_of_lt_mul WC;omega
 have auo:0<=V/(y*P'):=Int.ediv_nonneg hV0 WC;have hq0:IntKind.u64.wrap (V.tdiv (y*P'))=V/(y*P'):=by rw[anl,IntKind.wrap_u64];omega
 refine⟨_,_,λ w=>ZT hi lo y (y*P) (y*P') (hi*P) (lo/Q) (hi*P+lo/Q) (IntKind.u64.wrap (lo*P)) _ _ _ _ V _ _ k WC hy hh0 hh1 WC WC WC anj WC hV0
  (by rw[hP];exact hY) hY1 (by rw[ZU _ WC y2,hYe];omega) (by rw[hP];exact hH) (by rw[hQ]) hU (by rw[hP]) rfl rfl rfl rfl (by rw[LC];exact hUq) (by rw[LC];exact aun) hV rfl rfl (by rw[hq0];exact hVq) (by rw[hq0];exact auo) _ _ rfl rfl w⟩
theorem acP(hi lo y:Int)(hh0:0<hi)(hh1:hi<y)(hy:y<512)(hl0:0<=lo)(fI:lo<M):
  ∃q r:Int,∀w,ar 206 #[.int .u64 hi,.int .u64 lo,.int .u64 y] w λ e w'=>e=.returned (.tuple #[.int .u64 q,.int .u64 r])/\w=w':=by
 obtain⟨n,rfl⟩:=Int.eq_ofNat_of_zero_le (show 0<=y by omega);have hb:=ahY ⟨n,by omega⟩;simp only at hb;rcases hb with h|⟨a1,a2,a3,a4⟩;omega;have key:=λ P Q h1 h2 h3 h4 h5 h6=>anh hi lo (n:Int) (Lib.bitLen n) (64-Lib.bitLen n) Tad rfl hh0 hh1 hl0 fI a1 a2 P Q h1 h2 h3 h4 h5 h6 WC;generalize Lib.bitLen n=L at*;have hc:L=1\/L=2\/L=3\/L=4\/L=5\/L=6\/L=7\/L=8\/L=9:=WC;rcases hc with rfl|rfl|rfl|rfl|rfl|rfl|rfl|rfl|rfl;exact key _ _ rfl rfl rfl ⟨2 ^ 31,by decide,by decide⟩ Taf Taf;exact key _ _ rfl rfl rfl ⟨2 ^ 30,by decide,by decide⟩ Taf Taf;exact key _ _ rfl rfl rfl ⟨2 ^ 29,by decide,by decide⟩ Taf Taf;exact key _ _ rfl rfl rfl ⟨2 ^ 28,by decide,by decide⟩ Taf Taf;exact key _ _ rfl rfl rfl ⟨2 ^ 27,by decide,by decide⟩ Taf Taf;exact key _ _ rfl rfl rfl ⟨2 ^ 26,by decide,by decide⟩ Taf Taf;exact key _ _ rfl rfl rfl ⟨2 ^ 25,by decide,by decide⟩ Taf Taf;exact key _ _ rfl rfl rfl ⟨2 ^ 24,by decide,by decide⟩ Taf Taf;exact key _ _ rfl rfl rfl ⟨2 ^ 23,by decide,by decide⟩ Taf Taf
theorem ZV(lo y:Int)(hy:0<y)(hl0:0<=lo)(fI:lo<=18446744073709551615)(w:t_):
  ar 206 #[.int .u64 0,.int .u64 lo,.int .u64 y] w λ e w'=>e=.returned (.tuple #[.int .u64 (lo/y),.int .u64 (lo % y)])/\ai w w':=by
 have b1:(y==0)=false:=by rw[beq_eq_false_iff_ne];omega
 have b2:decide (y<=0)=false:=Tac;have b3:0<=lo/y/\lo/y<=18446744073709551615:=⟨Int.ediv_nonneg hl0 WC,Int.le_trans (Int.ediv_le_self y hl0) fI⟩;have b4:IntKind.u64.wrap (lo.tdiv y)=lo/y:=by rw[Int.tdiv_eq_ediv_of_nonneg hl0,IntKind.wrap_u64];omega
 have b5:lo.tmod y=lo % y:=Int.tmod_eq_emod_of_nonneg hl0;clear fI b3;go_enter func206,ntmps206;go_wp2_with fail;go_quiet (fail);go_wp2_with fail;go_ret2;exact⟨rfl,below_drewN cX _⟩
theorem acQ(x y b:Nat)(hb:b<=1)(w:t_):(callFunc 207 #[.int .u64 x,.int .u64 y,.int .u64 b]).run prog w=
  .ok (.value (.tuple #[.int .u64 (((x+18446744073709551616-y-b)% 18446744073709551616:Nat):Int),.int .u64 ((if x<y+b then 1 else 0:Nat):Int)])) w:=by rw[run_callFunc_extern func207 Taa Taa Taa (e:=sub64Entry) Taa,run_sub64 x y b hb];rfl
def ZW(h l y q r:Int):Prop:=∀w,ar 206 #[.int .u64 h,.int .u64 l,.int .u64 y] w λ e w'=>e=.returned (.tuple #[.int .u64 q,.int .u64 r])/\ai w w'
theorem Jt(h l y:Int)(h0:0<=h)(h1:h<y)(hy:y<512)(hl0:0<=l)(fI:l<M):∃q r,ZW h l y q r:=by by_cases hz:h=0;subst hz;exact⟨_,_,λ w=>ZV l y h1 hl0 (by unfold M at fI;omega) w⟩;obtain⟨q,r,hq⟩:=acP h l y WC h1 hy hl0 fI;exact⟨q,r,λ w=>(hq w).mono λ e w' ⟨he,hw⟩=>⟨he,by rw[hw];exact cX⟩⟩
def Qg(a n v:Int):Prop:=∀w,ar 193 #[.agg #[.int .u64 (hi a),.int .u64 (lo a)],.int .u64 n] w λ e w'=>e=.returned (af v)/\ai w w'
theorem Mn(h l n q r hm:Int)(hn:0<n)(hh0:0<=h)(hb:(h/9223372036854775808==0)=true)(hd:ZW hm l n q r)(Pl:h.tmod n=hm)(w:t_):
  ar 193 #[.agg #[.int .u64 h,.int .u64 l],.int .u64 n] w λ e w'=>e=.returned (af (wrap64 q))/\ai w w':=by
 have HD:=aa hd;clear hd;have LD:¬n=0:=WC;have Js:h % n=hm:=by rw[<-Pl,Int.tmod_eq_emod_of_nonneg hh0]
 go_enter func193,ntmps193;go_wp2_with fail;have cS:∀(y2:Ext (w.heap.size+1) (w.alloc (.cells #[.int .u64 h,.int .u64 l] 197))),y2.w.cell? ⟨w.heap.size,0,none⟩=some (.int .u64 h):=λ y2=>by rw[y2.cell Tad];simp
 have cA:∀(y2:Ext (w.heap.size+1) (w.alloc (.cells #[.int .u64 h,.int .u64 l] 197))),y2.w.cell? ⟨w.heap.size,1,none⟩=some (.int .u64 l):=λ y2=>by rw[y2.cell Tad];simp
 refine aR 13 (w.heap.size+1) _ cX Taa Taa Taa Taa ?_;simp only[Uab];repeat (go_big_quiet_step (first
  |(go_at_call 206;exact aN Tad (HD.ae _))))
 refine wpQuiet_nil ?_;rintro W4 ⟨y2,fq⟩;have hL:=y2.h;rw[<-fq]at hL;clear cS cA fq y2;go_wp2_with fail;go_ret;exact Zdn
theorem Mo(h l n q r hm nl c nh c2:Int)(hn:0<n)(hnh:0<=nh)(hb:(h/9223372036854775808==0)=false)(hd:ZW hm nl n q r)(Pl:nh.tmod n=hm)
  (s1:∀w,(callFunc 207 #[.int .u64 0,.int .u64 l,.int .u64 0]).run prog w=.ok (.value (.tuple #[.int .u64 nl,.int .u64 c])) w)
  (s2:∀w,(callFunc 207 #[.int .u64 0,.int .u64 h,.int .u64 c]).run prog w=.ok (.value (.tuple #[.int .u64 nh,.int .u64 c2])) w) (w:t_):
  ar 193 #[.agg #[.int .u64 h,.int .u64 l],.int .u64 n] w λ e w'=>e=.returned (af (wrap64 (IntKind.u64.wrap (-(if 0<r then IntKind.u64.wrap (q+1)else q)))))/\ai w w':=by
 have HD:=aa hd;clear hd;have LD:¬n=0:=WC;have Js:nh % n=hm:=by rw[<-Pl,Int.tmod_eq_emod_of_nonneg hnh]
 by_cases hr:0<r
 ·have hr1:decide (0<r)=true:=by simpa using hr
  rw[if_pos hr];exact ZfF
 have hr1:decide (0<r)=false:=by simpa using hr
 rw[if_neg hr];exact ZfF
theorem agj{a:Int}(h:a<M*M):hi a<M:=by unfold hi M at*;omega
theorem Ju(x b:Int)(h0:0<=x)(h1:x<M)(hb0:0<=b)(hb1:b<=1):∃d c:Int,0<=d/\d<M/\0<=c/\c<=1/\d=(M-x-b)% M/\(c=if 0<x+b then 1 else 0)/\
  ∀w,(callFunc 207 #[.int .u64 0,.int .u64 x,.int .u64 b]).run prog w=.ok (.value (.tuple #[.int .u64 d,.int .u64 c])) w:=by
 obtain⟨X,rfl⟩:=Int.eq_ofNat_of_zero_le h0;obtain⟨B,rfl⟩:=Int.eq_ofNat_of_zero_le hb0;have law:=λ w=>acQ 0 X B WC w;refine⟨_,_,?_,?_,?_,?_,?_,?_,law⟩;omega;unfold M;omega;omega;split<;>omega;unfold M at*;omega;by_cases hx:0<X+B;rw[if_pos WC,if_pos WC];rfl;rw[if_neg WC,if_neg WC];rfl
def zfA.Kbk(h:p:=by exact⟨_,λ w=>Mo (hi a) (lo a) n q r _ nl c nh c2 hn e0 hs hd (Int.tmod_eq_emod_of_nonneg e0) s1 s2 w⟩):=h
theorem ZX(a n:Int)(ha0:0<=a)(ha1:a<M*M)(hn:0<n)(wV:n<512):∃v,Qg a n v:=by
 have h0:=tK ha0;have h1:=agj ha1;have l0:=tJ a;have l1:=TL a;by_cases hs:(hi a/9223372036854775808==0)=true;have Pl:=Int.emod_nonneg (hi a) (show n≠0 by omega);have Js:=Int.emod_lt_of_pos (hi a) hn;obtain⟨q,r,hd⟩:=Jt (hi a % n) (lo a) n Pl Js wV l0 l1;exact⟨_,λ w=>Mn (hi a) (lo a) n q r _ hn h0 hs hd (Int.tmod_eq_emod_of_nonneg h0) w⟩
 open zfA in exact ZdN
structure St where
 op:Int
 all:Int
 count:Int
 sum:Int
 a:Val
 b:Val
 found:Bool
def St.cells(s:St):x_:= #[ag s.op,af s.all,af s.count,.int .u64 (hi s.sum),.int .u64 (lo s.sum),ag s.a.k,af s.a.n,.string s.a.s,ag s.b.k,af s.b.n,.string s.b.s,.bool s.found]
def cE(w:t_)(p:Nat)(s:St):Prop:=aB w p 199 s.cells
theorem TM(a b:Int): -1<=mA a b/\mA a b<=1:=by unfold mA;split<;>(try split)<;>omega
theorem acR(a b:u_): -1<=lY a b/\lY a b<=1:=by unfold lY;split<;>(try split)<;>omega
theorem Jv(a b:Val): -1<=bC a b/\bC a b<=1:=by have h1:=TM a.k b.k;have h2:=TM a.n b.n;have h3:=acR a.s b.s;unfold bC or3;split<;>(try split)<;>assumption
def St.rank(s:St)(a b:Val):Int:=pB (bC b s.b) (bC a s.a)
def St.better(s:St)(a b:Val):Bool:= !s.found||decide ((if s.op=25\/s.op=28 then -(s.rank a b)else s.rank a b)< 0)
def St.take(s:St)(a b:Val):St:=if s.better a b then {s with a:=a,b:=b,found:=true} else s
theorem cE.ix{w:t_}{p:Nat}{s:St}(h:cE w p s):w.cell? ⟨p,0,none⟩=some (ag s.op)/\w.cell? ⟨p,1,none⟩=some (af s.all)/\w.cell? ⟨p,2,none⟩=some (af s.count)/\w.cell? ⟨p,3,none⟩=some (.int .u64 (hi s.sum))/\w.cell? ⟨p,4,none⟩=some (.int .u64 (lo s.sum))/\
  w.cell? ⟨p,5,none⟩=some (ag s.a.k)/\w.cell? ⟨p,6,none⟩=some (af s.a.n)/\w.cell? ⟨p,7,none⟩=some (.string s.a.s)/\w.cell? ⟨p,8,none⟩=some (ag s.b.k)/\w.cell? ⟨p,9,none⟩=some (af s.b.n)/\w.cell? ⟨p,10,none⟩=some (.string s.b.s)/\w.cell? ⟨p,11,none⟩=some (.bool s.found):=
 ⟨h.cell 0,h.cell 1,h.cell 2,h.cell 3,h.cell 4,h.cell 5,h.cell 6,h.cell 7,h.cell 8,h.cell 9,h.cell 10,h.cell 11⟩
def St.some_(s:St)(a:Val):St:=if a.k=0 then s else {s with count:=s.count+1}
def St.put(s:St)(a:Val):St:=if a.k=2 then {s with count:=s.count+1,sum:=mG s.sum (gH a.n)} else s
def St.alone(s:St)(a:Val):St:=if a.k=0 then s else s.take a aM
def St.CI(s:St)(a b:Val):St:=if b.k=2 then s.take a b else s
theorem nO(w:t_)(es:Array MapEntry)(c:Nat)(k:Int)(v:Value)(hf:Instr.findNow (.int .u8) (ag k) es.toList 0=some none):
  (Instr.mapUpdate 193 (.map (some w.heap.size)) (ag k) v).run prog (w.alloc (.map es c))=.ok () (w.alloc (.map (es.push ⟨ag k,v,c⟩) (c+1))):=by
 have hg:(w.alloc (.map es c)).heap[w.heap.size]?=some (.map es c):=heap_alloc_new w _;have e1:({w.alloc (.map es c)with heap:=(w.alloc (.map es c)).heap.setIfInBounds w.heap.size (.map (es.push ⟨ag k,v,c⟩) (c+1))}:t_)=w.alloc (.map (es.push ⟨ag k,v,c⟩) (c+1)):=by
  have hh:∀A B:Obj,(w.heap.push A).setIfInBounds w.heap.size B=w.heap.push B:=by intro A B;apply Array.ext_getElem?;intro i;simp only[Array.getElem?_setIfInBounds,Array.getElem?_push,Array.size_push];by_cases h1:i=w.heap.size;subst h1;simp;simp[h1,Ne.symm h1]
  unfold World.alloc;simp only[hh]
 unfold Instr.mapUpdate;simp only[Sem.run_bind,run_underlying underlying193,Result.andThen_ok,MapKept.run_getObj_map hg,yI,Instr.findKey,run_underlying underlying5,hf,Sem.run_pure,MapKept.run_setObj_map _ hg,e1]
theorem BM(w:t_)(g:Nat)(es:Array MapEntry)(c:Nat)(hg:w.heap[g]?=some (.map es c))(k:Int)(ok:Bool)(i:Nat)(v:Value)(hf:Instr.findNow (.int .u8) (ag k) es.toList 0=some (some (i,v))):
  (Instr.lookup 193 (.map (some g)) (ag k) ok).run prog w=.ok (if ok then .tuple #[v,.bool true] else v) w:=by unfold Instr.lookup;simp only[Sem.run_bind,run_underlying underlying193,Result.andThen_ok,MapKept.run_getObj_map hg,yI,Instr.findKey,run_underlying underlying5,hf,Sem.run_pure]
def fn(f:Nat):Value:=.func (.func f) #[] #[]
def qX(op:Int):Nat:=if op=21 then 156 else if op=22 then 158 else if op=23\/op=26 then 160 else if op=24\/op=25 then 163 else 165
def wW(op:Int):Nat:=if op=21 then 157 else if op=22 then 159 else if op=23 then 161 else if op=26 then 162 else 164
def Jw(op:Int):Int:=if op=21 then 0 else if op=27\/op=28 then 2 else 1
def bZ(op:Int):Value:=.agg #[fn (qX op),fn (wW op),af (Jw op)]
def AW:Array MapEntry:= #[⟨ag 21,bZ 21,0⟩,⟨ag 22,bZ 22,1⟩,⟨ag 23,bZ 23,2⟩,⟨ag 26,bZ 26,3⟩,⟨ag 24,bZ 24,4⟩,⟨ag 25,bZ 25,5⟩,⟨ag 27,bZ 27,6⟩,⟨ag 28,bZ 28,7⟩]
theorem BN(op:Int)(h0:21<=op)(h1:op<=28):∃i,Instr.findNow (.int .u8) (ag op) AW.toList 0=some (some (i,bZ op)):=by have:op=21\/op=22\/op=23\/op=24\/op=25\/op=26\/op=27\/op=28:=WC;rcases this with rfl|rfl|rfl|rfl|rfl|rfl|rfl|rfl;exact⟨0,rfl⟩;exact⟨1,rfl⟩;exact⟨2,rfl⟩;exact⟨4,rfl⟩;exact⟨5,rfl⟩;exact⟨3,rfl⟩;exact⟨6,rfl⟩;exact⟨7,rfl⟩
theorem kj(w:t_):ar 104 #[] w λ e w'=>e=.returned (.map (some w.heap.size))/\w'=w.alloc (.map AW 8):=by have hmm:= @run_makeMap prog;have i1:=nO w #[] 0 21 (bZ 21) rfl;have i2:=nO w #[⟨ag 21,bZ 21,0⟩] 1 22 (bZ 22) rfl;have i3:=nO w #[⟨ag 21,bZ 21,0⟩,⟨ag 22,bZ 22,1⟩] 2 23 (bZ 23) rfl;have i4:=nO w #[⟨ag 21,bZ 21,0⟩,⟨ag 22,bZ 22,1⟩,⟨ag 23,bZ 23,2⟩] 3 26 (bZ 26) rfl;have i5:=nO w #[⟨ag 21,bZ 21,0⟩,⟨ag 22,bZ 22,1⟩,⟨ag 23,bZ 23,2⟩,⟨ag 26,bZ 26,3⟩] 4 24 (bZ 24) rfl;have i6:=nO w #[⟨ag 21,bZ 21,0⟩,⟨ag 22,bZ 22,1⟩,⟨ag 23,bZ 23,2⟩,⟨ag 26,bZ 26,3⟩,⟨ag 24,bZ 24,4⟩] 5 25 (bZ 25) rfl;have i7:=nO w #[⟨ag 21,bZ 21,0⟩,⟨ag 22,bZ 22,1⟩,⟨ag 23,bZ 23,2⟩,⟨ag 26,bZ 26,3⟩,⟨ag 24,bZ 24,4⟩,⟨ag 25,bZ 25,5⟩] 6 27 (bZ 27) rfl;have i8:=nO w #[⟨ag 21,bZ 21,0⟩,⟨ag 22,bZ 22,1⟩,⟨ag 23,bZ 23,2⟩,⟨ag 26,bZ 26,3⟩,⟨ag 24,bZ 24,4⟩,⟨ag 25,bZ 25,5⟩,⟨ag 27,bZ 27,6⟩] 7 28 (bZ 28) rfl;simp[bZ,fn,qX,wW,Jw]at i1 i2 i3 i4 i5 i6 i7 i8;go_enter func104,ntmps104;exact Zgq
def isAgg(op:Int):Bool:=decide (21<=op)&&decide (op<=28)
theorem ahZ(x y z:Value)(w:t_):(Instr.field 192 (.agg #[x,y,z]) 1).run prog w=.ok y w:=by exact Zhr
def fC(op:Int):St:=⟨op,0,0,0,aM,aM,false⟩
def St.does(s:St)(a b:Val):St:=
 if s.op=21 then s else if s.op=22 then s.some_ a else if s.op=23\/s.op=26 then s.put a else if s.op=24\/s.op=25 then s.alone a else s.CI a b
def St.feed(s:St)(a b:Val):St:=St.does {s with all:=s.all+1} a b
structure St.Ok (s:St):Prop where
 op0:21<=s.op
 op1:s.op<=28
 anm:0<=s.all
 aur:s.all<4611686018427387905
 yM:0<=s.count
 Jy:s.count<4611686018427387904
 acS:0<=s.sum
 acT:s.sum<M*M
theorem nP(n:Int)(w:t_):ar 189 #[af n] w λ e w'=>e=.returned (.agg #[ag 2,af n,.string ByteArray.empty])/\ai w w':=by go_enter func189,ntmps189;go_wp2;exact bodyPost_ret (v:=.agg #[ag 2,af n,.string ByteArray.empty]) (by simp[results,results189,go_sem];rfl) rfl ⟨rfl,by go_grown⟩
theorem ZY(p:Nat)(s:St)(w:t_)(h:cE w p s):ar 164 #[aw p] w λ e w'=>e=.returned (bP s.a 0)/\ai w w':=by have cS:=cE.ix h;have hp:=aB.lt h;unfold bP;clear h;go_enter func164,ntmps164;go_wp2;exact bodyPost_ret (v:=.tuple #[.agg #[ag s.a.k,af s.a.n,.string s.a.s],af 0]) (by simp[results,results164,go_sem]) rfl ⟨rfl,by go_grown⟩
def zfI.Kbo(h:p:=by exact bodyPost_ret (v:=.tuple #[.agg #[ag 2,af s.all,.string ByteArray.empty],af 0]) (by simp[results,results157,go_sem,dy]) rfl ⟨rfl,((hB.setCell aE _).setCell aE _).setCell aE _⟩):=h
theorem VT(p:Nat)(s:St)(w:t_)(h:cE w p s):ar 157 #[aw p] w λ e w'=>e=.returned (bP (num s.all) 0)/\ai w w':=by have cS:=cE.ix h;have hp:=aB.lt h;unfold bP num;clear h;go_enter func157,ntmps157;open zfI in exact ZdZ
def zfJ.Kbo(h:p:=by exact bodyPost_ret (v:=.tuple #[.agg #[ag 2,af s.count,.string ByteArray.empty],af 0]) (by simp[results,results159,go_sem,dy]) rfl ⟨rfl,((hB.setCell aE _).setCell aE _).setCell aE _⟩):=h
theorem ZZ(p:Nat)(s:St)(w:t_)(h:cE w p s):ar 159 #[aw p] w λ e w'=>e=.returned (bP (num s.count) 0)/\ai w w':=by have cS:=cE.ix h;have hp:=aB.lt h;unfold bP num;clear h;go_enter func159,ntmps159;open zfJ in exact ZdZ
def St.total(s:St):Val×Int:=if s.count=0 then(aM,0)else if mH s.sum then(num (GF (lo s.sum)),0)else(aM,43)
theorem VU(p:Nat)(s:St)(w:t_)(h:cE w p s):ar 161 #[aw p] w λ e w'=>e=.returned (bP s.total.1 s.total.2)/\ai w w':=by
 have cS:=cE.ix h;have hp:=aB.lt h;have hN:=λ w=>Qf s.sum w;have HN:=aa hN;clear hN;have H0:=aa (show∀(hz:s.count=0),s.total=(aM,0)from λ hz=>if_pos hz);have H1:=aa (show∀(hz:¬s.count=0) (hn:mH s.sum=true),s.total=(num (GF (lo s.sum)),0)from λ hz hn=>by unfold St.total;rw[if_neg hz,if_pos hn]);have H2:=aa (show∀(hz:¬s.count=0) (hn:mH s.sum=false),s.total=(aM,43)from λ hz hn=>by unfold St.total;rw[if_neg hz,if_neg (by rw[hn];decide)]);generalize GF (lo s.sum)=n at*;go_enter func161,ntmps161;go_wp2_with fail;refine(HN.ae _).mono ?_;rintro e w1 ⟨rfl,b1⟩;have hR:=(aB.new w 44 #[ag 0,af 0,.string {data:= #[]}]).later b1;have dy:=aI hR;have cL:=aB.frozen hR;have hS1:=cE.ix (aB.later ((aB.alloc h (.cells #[ag 0,af 0,.string {data:= #[]}] 44))) b1);have hB:ai w w1:=(cX.alloc aE _).trans (b1.mono Tad);have hlt:=hR.lt;have HR:=aa hR;clear b1 hR cS h;by_cases hz:s.count=0
 ·have t1:(s.count==0)=true:=by simp[hz]
  have HZ:=aa hz;clear hz;go_wp2_with fail;rw[H0.ae HZ.ae];exact bodyPost_ret (v:=.tuple #[.agg #[ag 0,af 0,.string ByteArray.empty],af 0]) Ta4 rfl ⟨rfl,((hB.setCell aE _).setCell aE _).setCell aE _⟩
 have t1:(s.count==0)=false:=by simp[hz]
 cases hn:mH s.sum
 ·go_wp2_with fail;rw[H2.ae hz hn];exact bodyPost_ret (v:=.tuple #[.agg #[ag 0,af 0,.string ByteArray.empty],af 43]) Ta4 rfl ⟨rfl,((hB.setCell aE _).setCell aE _).setCell aE _⟩
 go_wp2_with fail;refine(nP _ _).mono ?_;rintro e W4 ⟨rfl,hL⟩;have hR:=HR.ae.later hL;have Kx:=aI hR;have iA:=aB.frozen hR;have ez:ai w W4:=hB.trans (hL.mono hB.size);clear hL hR dy cL;go_wp2_with fail;rw[H1.ae hz hn];exact bodyPost_ret (v:=.tuple #[.agg #[ag 2,af n,.string ByteArray.empty],af 0]) (by simp[results,results161,go_sem,Kx]) rfl ⟨rfl,((ez.setCell aE _).setCell aE _).setCell aE _⟩
def Qh(s:St)(v:Val):Prop:=(s.count=0/\v=aM)\/(s.count≠0/\∃q,Qg s.sum s.count q/\v=num q)
theorem acU(s:St)(ok:s.Ok)(hc:s.count<512):∃v,Qh s v:=by by_cases h:s.count=0;exact⟨_,.inl ⟨h,rfl⟩⟩;obtain⟨q,hq⟩:=ZX s.sum s.count ok.acS ok.acT (by have:=ok.yM;omega) hc;exact⟨_,.inr ⟨h,q,hq,rfl⟩⟩
def zgB.KbJ(h:p:=by
 clear cS hp h;generalize w.alloc (.cells #[ag 0,af 0,.string {data:= #[]}] 44)=W at*;have cS:=λ y2:Ext W.heap.size W=>cE.ix (aB.later hS y2.h);refine aR 11 W.heap.size W cX Taa Taa Taa Taa ?_;simp only[Uab];repeat (go_big_quiet_step (first
  |(go_at_call 193;exact aN aE (HQ.ae _))
  |(go_at_call 189;exact aN aE (nP _ _))))
 refine wpQuiet_nil ?_;rintro W4 ⟨y2,fq⟩;have hL:=y2.h;rw[<-fq]at hL;clear cS fq y2;have hR:=KK.later hL;have Kx:=aI hR;have iA:=aB.frozen hR;have ez:ai w W4:=hB.trans (hL.mono hB.size);clear hR KK hL hS;go_wp2_with fail;exact bodyPost_ret (v:=.tuple #[.agg #[ag 2,af q,.string ByteArray.empty],af 0]) (by simp[results,results162,go_sem,Kx]) rfl ⟨rfl,((ez.setCell aE _).setCell aE _).setCell aE _⟩):=h
theorem B5(p:Nat)(s:St)(v:Val)(w:t_)(h:cE w p s)(ok:s.Ok)(hv:Qh s v):ar 162 #[aw p] w λ e w'=>e=.returned (bP v 0)/\ai w w':=by
 have cS:=cE.ix h;have hp:=aB.lt h;have q0:=ok.yM;have q1:=ok.Jy;rcases hv with⟨hz,rfl⟩|⟨hz,q,hq,rfl⟩
 ·have t1:(s.count==0)=true:=by simp[hz]
  clear hz;unfold bP aM;go_enter func162,ntmps162;go_wp2_with fail;exact bodyPost_ret (v:=.tuple #[.agg #[ag 0,af 0,.string ByteArray.empty],af 0]) (by simp[results,results162,go_sem];try rfl) rfl ⟨rfl,by go_grown⟩
 have t1:(s.count==0)=false:=by simp[hz]
 have HQ:=aa hq;clear hz hq;unfold bP num;have hu:IntKind.u64.wrap s.count=s.count:=by rw[IntKind.wrap_u64];omega
 go_enter func162,ntmps162;open zgB in exact ZeX
def gZ(s:St)(v:Val)(err:Int):Prop:=
 if s.op=21 then v=num s.all/\err=0 else if s.op=22 then v=num s.count/\err=0 else if s.op=23 then v=s.total.1/\err=s.total.2 else if s.op=26 then Qh s v/\err=0 else v=s.a/\err=0
theorem aia(s:St)(ok:s.Ok)(hc:s.count<512):∃v err,gZ s v err:=by unfold gZ;split;exact⟨_,_,rfl,rfl⟩;split;exact⟨_,_,rfl,rfl⟩;split;exact⟨_,_,rfl,rfl⟩;split;obtain⟨v,hv⟩:=acU s ok hc;exact⟨v,_,hv,rfl⟩;exact⟨_,_,rfl,rfl⟩
theorem aib(p:Nat)(s:St)(v:Val)(err:Int)(w:t_)(h:cE w p s)(ok:s.Ok)(hv:gZ s v err):ar (wW s.op) #[aw p] w λ e w'=>e=.returned (bP v err)/\ai w w':=by unfold gZ at hv;unfold wW;by_cases h1:s.op=21;rw[if_pos h1]at*;obtain⟨rfl,rfl⟩:=hv;exact VT p s w h;rw[if_neg h1]at*;by_cases h2:s.op=22;rw[if_pos h2]at*;obtain⟨rfl,rfl⟩:=hv;exact ZZ p s w h;rw[if_neg h2]at*;by_cases h3:s.op=23;rw[if_pos h3]at*;obtain⟨rfl,rfl⟩:=hv;exact VU p s w h;rw[if_neg h3]at*;by_cases h4:s.op=26;rw[if_pos h4]at*;obtain⟨hm,rfl⟩:=hv;exact B5 p s v w h ok hm;rw[if_neg h4]at*;obtain⟨rfl,rfl⟩:=hv;exact ZY p s w h
theorem Mp(args:x_)(w:t_):(callFunc 157 args).run prog w=.ok (.enter 157 args) w:=by exact Zhr
theorem Qi(args:x_)(w:t_):(callFunc 159 args).run prog w=.ok (.enter 159 args) w:=by exact Zhr
theorem Mq(args:x_)(w:t_):(callFunc 161 args).run prog w=.ok (.enter 161 args) w:=by exact Zhr
theorem Qj(args:x_)(w:t_):(callFunc 162 args).run prog w=.ok (.enter 162 args) w:=by exact Zhr
theorem Qk(args:x_)(w:t_):(callFunc 164 args).run prog w=.ok (.enter 164 args) w:=by exact Zhr
theorem VV(op:Int)(args:x_)(w:t_):(callFunc (wW op) args).run prog w=.ok (.enter (wW op) args) w:=by unfold wW;split;exact Mp args w;split;exact Qi args w;split;exact Mq args w;split;exact Qj args w;exact Qk args w
def TN(p:Nat)(op:Int)(v0:Val)(err:Int):Nat->t_->Value->Prop
 |0=>λ w v=>∃g,v=.map (some g)/\w.heap[g]?=some (.map AW 8)
 |1=>λ _ v=>v=aw p
 |2=>λ _ v=>v=aw p
 |3=>λ _ v=>v=aw p
 |4=>λ _ v=>v=ag op
 |5=>λ _ v=>v=bZ op
 |6=>λ _ v=>v=fn (wW op)
 |7=>λ _ v=>v=aw p
 |8=>λ _ v=>v=bP v0 err
 |9=>λ _ v=>v=.agg (aC v0)
 |10=>λ _ v=>v=af err
 |_=>λ _ _=>True
theorem Mr(p:Nat)(op:Int)(v0:Val)(err:Int)(i:Nat)(w w':t_)(v:Value)(h:TN p op v0 err i w v)(hl:aj w w'):TN p op v0 err i w' v:=by unfold TN at*;exact ZdH
def zgC.KbJ(h:p:=by
 clear h;generalize w.alloc (.cells #[ag 0,af 0,.string {data:= #[]}] 44)=W at*;refine bD 11 (TN p s.op v err) (Mr p s.op v err) Taa Taa Taa ?_ ?_
 ·simp only[take_succ_cons,take_zero];refine⟨Zdk,ZiJ,?_,?_,?_,?_,?_,ZiJ,?_,Zhd,Zhd,trivial⟩
  ·intro ρ W4 hc hL hr;have h1:ρ (.tmp 8)=aw p:=hr.1;exact Zda
  intro ρ W4 hc hL hr;have h1:ρ (.tmp 9)=aw p:=hr.1;exact Zda;intro ρ W4 hc hL hr;have h1:ρ (.tmp 10)=aw p:=hr.1;have c0:=(cE.ix (aB.later hS hL)).1;exact Zel;intro ρ W4 hc hL hr;obtain⟨g,h1,hgm⟩:∃g,ρ (.tmp 7)=.map (some g)/\W4.heap[g]?=some (.map AW 8):=hr.1;have h2:ρ (.tmp 11)=ag s.op:=hr.2.1;obtain⟨i,hi⟩:=BN s.op HK.ae.op0 HK.ae.op1;exact Zgv;intro ρ W4 hc hL hr;have h1:ρ (.tmp 12)=bZ s.op:=hr.1;have hf:=ahZ (fn (qX s.op)) (fn (wW s.op)) (af (Jw s.op)) W4;exact Zio;intro ρ W4 hc hL hr;have h1:ρ (.tmp 13)=.func (.func (wW s.op)) #[] #[]:=hr.1;have h2:ρ (.tmp 14)=aw p:=hr.2.1;refine bu (f:=wW s.op) (args:= #[aw p]) (w':=W4) (by simp[go_sem,h1,h2,VV]) ?_;refine(aib p s v err W4 (aB.later hS hL) HK.ae HV.ae).mono ?_;rintro e w2 ⟨rfl,b2⟩;exact⟨_,rfl,b2,rfl⟩
 intro W4 hL;simp only[Uab];rintro _ ⟨g,rfl,hgm⟩ _ rfl _ rfl _ rfl _ rfl _ rfl _ rfl _ rfl _ rfl _ rfl _ rfl;have hR:=KK.later hL;have Kx:=aI hR;have iA:=aB.frozen hR;have ez:ai w W4:=hB.trans (hL.mono hB.size);clear hR KK hL hS;simp only[bw,Act.put,Uac,fn];go_wp2_with fail;exact bodyPost_ret (v:=.tuple #[.agg (aC v),af err]) (by simp[results,results68,go_sem,Kx]) rfl ⟨rfl,((ez.setCell aE _).setCell aE _).setCell aE _⟩):=h
theorem Ql(p:Nat)(s:St)(v:Val)(err:Int)(w:t_)(h:cE w p s)(ok:s.Ok)(hv:gZ s v err):
  ar 68 #[aw p] w λ e w'=>e=.returned (bP v err)/\ai w w':=by have HV:=aa hv;have HK:=aa ok;clear hv ok;go_enter func68,ntmps68;open zgC in exact ZeX
def St.zX(s:St)(l:List (Val×Val)):St:=l.foldl (λ s x=>s.feed x.1 x.2) s
def lS(op:Int)(l:List (Val×Val)):St:=(fC op).zX l
structure Good {γ:Type}(c:γ->γ->Int):Prop where
 jq:∀x y,c x y= -(c y x)
 trans:∀x y z,c x y<=0->c y z<=0->c x z<=0
variable{γ:Type}
theorem Good.lex{c d:γ->γ->Int}(hc:Good c)(hd:Good d):Good λ x y=>pB (c x y) (d x y):=by
 constructor;intro x y;have h1:=hc.jq x y;have h2:=hd.jq x y;unfold pB;split<;>split<;>omega;intro x y z h1 h2;have a1:c x y<=0:=by unfold pB at h1;split at h1<;>omega
 have a2:c y z<=0:=by unfold pB at h2;split at h2<;>omega
 have a3:=hc.trans x y z a1 a2;show pB (c x z) (d x z)<=0;by_cases h0:c x z=0
 ·have b0:c z x=0:=by have:=hc.jq z x;omega
  have b1:=hc.trans z x y WC a1;have b2:=hc.trans y z x a2 WC;have e1:=hc.jq z y;have e2:=hc.jq y x;have z1:c x y=0:=WC;have z2:c y z=0:=WC;have:=hd.trans x y z (by simpa [pB,z1] using h1) (by simpa [pB,z2] using h2);simpa [pB,h0] using this
 simpa [pB,h0] using a3
theorem Good.flip{c:γ->γ->Int}(hc:Good c):Good λ x y=> -(c x y):=by constructor;intro x y;have:=hc.jq x y;omega;intro x y z h1 h2;have a1:=hc.jq x y;have a2:=hc.jq y z;have a3:=hc.jq x z;have:=hc.trans z y x WC WC;show -(c x z)<=0;omega
variable{δ:Type}
theorem Good.by_{c:γ->γ->Int}(hc:Good c)(f:δ->γ):Good λ x y=>c (f x) (f y):=⟨λ x y=>hc.jq _ _,λ x y z=>hc.trans _ _ _⟩
theorem GG:Good mA:=by
 constructor
 ·intro x y;unfold mA;split<;>split<;>(try split)<;>(try split)<;>omega
 intro x y z h1 h2;have a:x<=y:=by unfold mA at h1;split at h1<;>(try split at h1)<;>omega
 have b:y<=z:=by unfold mA at h2;split at h2<;>(try split at h2)<;>omega
 unfold mA;split;omega;rw[if_neg WC];omega
theorem GH{a b:Int}(h:mA a b=0):a=b:=by unfold mA at h;split at h<;>(try split at h)<;>omega
theorem kO:∀x:xb,Op.bytesLess x x=false
 |[]=>rfl
 |a::x=>by simp[Op.bytesLess,kO x]
theorem uY:∀x y:xb,Op.bytesLess x y=true->Op.bytesLess y x=false
 |_,[],h=>by simp[Op.bytesLess]at h
 |[],_::_,_=>by simp[Op.bytesLess]
 |a::x,b::y,h=>by
   simp only[Op.bytesLess,Bool.or_eq_true,Bool.and_eq_true,decide_eq_true_eq,beq_iff_eq]at h;simp only[Op.bytesLess,Bool.or_eq_false_iff,Bool.and_eq_false_iff,decide_eq_false_iff_not,beq_eq_false_iff_ne];rcases h with h|⟨rfl,h⟩
   ·refine⟨λ h'=>?_,.inl λ e=>?_⟩
    ·exact absurd (UInt8.lt_trans h h') (UInt8.lt_irrefl _)
    subst e;exact UInt8.lt_irrefl _ h
   exact⟨UInt8.lt_irrefl _,.inr (uY x y h)⟩
theorem pQ:∀x y:xb,Op.bytesLess x y=false->Op.bytesLess y x=false->x=y
 |[],[],_,_=>rfl
 |[],_::_,h,_=>by simp[Op.bytesLess]at h
 |_::_,[],_,h=>by simp[Op.bytesLess]at h
 |a::x,b::y,h1,h2=>by simp only[Op.bytesLess,Bool.or_eq_false_iff,Bool.and_eq_false_iff,decide_eq_false_iff_not,beq_eq_false_iff_ne]at h1 h2;have hab:a=b:=UInt8.le_antisymm (UInt8.not_lt.1 h2.1) (UInt8.not_lt.1 h1.1);subst hab;have:=pQ x y (by rcases h1.2 with h|h;exact absurd rfl h;exact h) (by rcases h2.2 with h|h;exact absurd rfl h;exact h);rw[this]
theorem CJ:∀x y z:xb,Op.bytesLess x y=true->Op.bytesLess y z=true->Op.bytesLess x z=true
 |_,[],_,h,_=>by simp[Op.bytesLess]at h
 |_,_::_,[],_,h=>by simp[Op.bytesLess]at h
 |[],_::_,_::_,_,_=>by simp[Op.bytesLess]
 |a::x,b::y,c::z,h1,h2=>by
   simp only[Op.bytesLess,Bool.or_eq_true,Bool.and_eq_true,decide_eq_true_eq,beq_iff_eq]at h1 h2⊢;rcases h1 with h1|⟨rfl,h1⟩
   ·rcases h2 with h2|⟨rfl,h2⟩
    ·exact .inl (UInt8.lt_trans h1 h2)
    exact .inl h1
   rcases h2 with h2|⟨rfl,h2⟩;exact .inl h2;exact .inr ⟨rfl,CJ x y z h1 h2⟩
theorem acW{a b:u_}:lY a b<=0↔Op.bytesLess b.toList a.toList=false:=by unfold lY;split;rename_i h;simp[uY _ _ h];rename_i h;split;rename_i h2;rw[beq_iff_eq]at h2;rw[h2];simp[kO];rename_i h2;constructor;intro h;omega;intro h3;exact absurd (by rw[beq_iff_eq];exact pQ _ _ Taj h3) h2
theorem VW:Good lY:=by
 constructor
 ·intro x y;unfold lY;by_cases h1:Op.bytesLess x.toList y.toList=true
  ·rw[if_pos h1,if_neg (by rw[uY _ _ h1];decide),if_neg (λ e=>by rw[beq_iff_eq]at e;rw[e,kO]at h1;cases h1)]
  rw[if_neg h1];by_cases h2:Op.bytesLess y.toList x.toList=true;rw[if_pos h2,if_neg (λ e=>by rw[beq_iff_eq]at e;rw[e,kO]at h2;cases h2)];rfl;rw[if_neg h2];have e:=pQ _ _ Ta9 Ta8;rw[e];simp
 intro x y z h1 h2;rw[acW]at*;cases h3:Op.bytesLess z.toList x.toList;rfl;exfalso;cases h4:Op.bytesLess x.toList y.toList;have e:=pQ _ _ h4 h1;rw[e,h2]at h3;cases h3;rw[CJ _ _ _ h3 h4]at h2;cases h2
theorem VX{a b:u_}(h:lY a b=0):a=b:=by unfold lY at h;split at h;omega;split at h;rename_i h2;rw[beq_iff_eq,ByteArray.toList_eq,ByteArray.toList_eq]at h2;exact Go.WideShapes.bytes_inj h2;omega
theorem km:Good bC:=(GG.by_ Val.k).lex ((GG.by_ Val.n).lex (VW.by_ Val.s))
theorem Ms{x y:Int}(h:pB x y=0):x=0/\y=0:=by unfold pB at h;split at h<;>omega
theorem GI{a b:Val}(h:bC a b=0):a=b:=by obtain⟨h1,h2⟩:=Ms (show pB (mA a.k b.k) (pB (mA a.n b.n) (lY a.s b.s))=0 from h);obtain⟨h2,h3⟩:=Ms h2;obtain⟨k,n,s⟩:=a;obtain⟨k',n',s'⟩:=b;have:=GH h1;have:=GH h2;have:=VX h3;simp_all
def pc(op:Int)(x y:Val×Val):Int:=if op=25\/op=28 then -(pB (bC x.2 y.2) (bC x.1 y.1))else pB (bC x.2 y.2) (bC x.1 y.1)
theorem TP(op:Int):Good (pc op):=by
 have h:Good λ x y:Val×Val=>pB (bC x.2 y.2) (bC x.1 y.1):=(km.by_ Prod.snd).lex (km.by_ Prod.fst);by_cases ho:op=25\/op=28
 ·have e:pc op=λ x y=> -(pB (bC x.2 y.2) (bC x.1 y.1)):=by funext x y;simp[pc,ho]
  rw[e];exact h.flip
 have e:pc op=λ x y=>pB (bC x.2 y.2) (bC x.1 y.1):=by funext x y;simp[pc,ho]
 rw[e];exact h
def yN(op:Int)(f:Bool)(a b:Val)(K:Val×Val->Prop):Prop:=
 (f=false/\a=aM/\b=aM/\∀y,¬K y)\/(f=true/\K (a,b)/\∀y,K y->0<=pc op y (a,b))
variable{K K':Val×Val->Prop}
theorem yN.iff{op:Int}{f:Bool}{a b:Val}(h:yN op f a b K)(hK:∀y,K' y↔K y):yN op f a b K':=by
 have:K'=K:=by funext y;exact propext (hK y)
 rw[this];exact h
theorem GJ(s:St)(c d:Val):s.better c d=(!s.found||decide (pc s.op (c,d) (s.a,s.b)< 0)):=by unfold St.better St.rank pc;rfl
variable{K1 K2:Val×Val->Prop}
theorem yN.join{s:St}{c d:Val}(h1:yN s.op s.found s.a s.b K1)(h2:yN s.op true c d K2)(hK:∀y,K y↔K1 y\/K2 y):
  yN s.op (s.take c d).found (s.take c d).a (s.take c d).b K:=by
 have g:=TP s.op;rcases h2 with⟨h,_⟩|⟨_,k2,m2⟩
 cases h;unfold St.take;by_cases hb:s.better c d=true
 ·rw[if_pos hb];refine .inr ⟨rfl,(hK _).2 (.inr k2),λ y hy=>?_⟩;rcases(hK y).1 hy with hy|hy
  ·rcases h1 with⟨_,_,_,h⟩|⟨hf,k1,m1⟩
   ·exact absurd hy (h _)
   rw[GJ,hf]at hb;have hb:pc s.op (c,d) (s.a,s.b)< 0:=by simpa using hb
   have a1:=m1 y hy;have a2:=g.jq y (s.a,s.b);have a3:=g.trans (c,d) (s.a,s.b) y WC WC;have a4:=g.jq y (c,d);show 0<=pc s.op y (c,d);omega
  exact m2 y hy
 rw[if_neg hb];rw[GJ]at hb;simp at hb;rcases h1 with⟨hf,_⟩|⟨hf,k1,m1⟩
 rw[hb.1]at hf;cases hf;refine .inr ⟨hf,(hK _).2 (.inl k1),λ y hy=>?_⟩;rcases(hK y).1 hy with hy|hy;exact m1 y hy;have a1:=m2 y hy;have a2:=g.jq y (c,d);have a0:=hb.2;have a5:=g.jq (c,d) (s.a,s.b);have a3:=g.trans (s.a,s.b) (c,d) y WC WC;have a4:=g.jq y (s.a,s.b);omega
theorem tL(s:St)(c d:Val):(s.take c d).op=s.op/\(s.take c d).all=s.all/\(s.take c d).count=s.count/\(s.take c d).sum=s.sum:=by unfold St.take;split<;>exact⟨rfl,rfl,rfl,rfl⟩
def key(op:Int)(x:Val×Val):Option (Val×Val):=
 if op=24\/op=25 then(if x.1.k=0 then none else some (x.1,aM))else if op=27\/op=28 then(if x.2.k=2 then some x else none)else none
def one(op:Int)(x:Val×Val):Int:=if op=22 then(if x.1.k=0 then 0 else 1)else if op=23\/op=26 then(if x.1.k=2 then 1 else 0)else 0
def Pm(op:Int)(x:Val×Val):Int:=if op=23\/op=26 then(if x.1.k=2 then x.1.n else 0)else 0
def cnt(op:Int):List (Val×Val)->Int
 |[]=>0
 |x::l=>one op x+cnt op l
def CK(op:Int):List (Val×Val)->Int
 |[]=>0
 |x::l=>Pm op x+CK op l
theorem Jz(op:Int):∀l m:List (Val×Val),cnt op (l++m)=cnt op l+cnt op m
 |[],m=>by simp[cnt]
 |x::l,m=>by simp[cnt,Jz op l m];omega
theorem JB(op:Int):∀l m:List (Val×Val),CK op (l++m)=CK op l+CK op m
 |[],m=>by simp[CK]
 |x::l,m=>by simp[CK,JB op l m];omega
def keys(op:Int)(l:List (Val×Val))(y:Val×Val):Prop:=∃x∈l,key op x=some y
structure Qm (op:Int) (s:St) (l:List (Val×Val)):Prop where
 kind:s.op=op
 all:s.all=l.length
 count:s.count=cnt op l
 sum:s.sum=CK op l %(M*M)
 aus:yN op s.found s.a s.b (keys op l)
theorem Qm.turn{op:Int}{s:St}{l m:List (Val×Val)}(h:Qm op s (l++m)):Qm op s (m++l):=
 ⟨h.kind,by rw[h.all];simp;omega,by rw[h.count,Jz,Jz];omega,by rw[h.sum,JB,JB,Int.add_comm],h.aus.iff λ y=>by simp[keys,or_comm]⟩
theorem acX(op:Int):Qm op (fC op) []:=⟨rfl,rfl,rfl,by simp[fC,CK],.inl ⟨rfl,rfl,rfl,by simp[keys]⟩⟩
theorem keys_cons{op:Int}{x:Val×Val}{l:List (Val×Val)}{y:Val×Val}:keys op (x::l) y↔keys op l y\/key op x=some y:=by simp[keys,or_comm]
theorem fD{op:Int}{f:Bool}{a b:Val}{x:Val×Val}{l:List (Val×Val)}(h:yN op f a b (keys op l))(hx:key op x=none):yN op f a b (keys op (x::l)):=h.iff λ y=>by rw[keys_cons,hx];simp
theorem tM{s:St}{c d:Val}{x:Val×Val}{l:List (Val×Val)}(h:yN s.op s.found s.a s.b (keys s.op l))(hx:key s.op x=some (c,d)):yN s.op (s.take c d).found (s.take c d).a (s.take c d).b (keys s.op (x::l)):=
 yN.join h (K2:=λ y=>y=(c,d)) (.inr ⟨rfl,rfl,λ y hy=>by subst hy;have:=(TP s.op).jq (c,d) (c,d);omega⟩) λ y=>by rw[keys_cons,hx];simp[eq_comm]
theorem Qm.feed{op:Int}{s:St}{l:List (Val×Val)}(h:Qm op s l)(h0:21<=op)(h1:op<=28)(x:Val×Val):Qm op (s.feed x.1 x.2) (x::l):=by
 obtain⟨rfl,ha,hc,hs,hb⟩:=h;have aic:s.op=21\/s.op=22\/s.op=23\/s.op=24\/s.op=25\/s.op=26\/s.op=27\/s.op=28:=WC;have hall:s.all+1=((x::l).length:Nat):=by rw[ha];simp
 unfold St.feed St.does;dsimp only;rcases aic with o|o|o|o|o|o|o|o;rw[if_pos o];exact⟨rfl,hall,by rw[hc];simp[cnt,one,o],by rw[hs];simp[CK,Pm,o],fD hb TaP⟩
 ·rw[if_neg WC,if_pos o];unfold St.some_;split
  ·rename_i hk;exact⟨rfl,hall,by rw[hc];simp[cnt,one,o,hk],by rw[hs];simp[CK,Pm,o],fD hb TaP⟩
  rename_i hk;exact⟨rfl,hall,by show s.count+1=_;rw[hc];simp[cnt,one,o,hk];omega,by show s.sum=_;rw[hs];simp[CK,Pm,o],fD hb TaP⟩
 ·rw[if_neg WC,if_neg WC,if_pos WC];unfold St.put;split
  ·rename_i hk;refine⟨rfl,hall,by show s.count+1=_;rw[hc];simp[cnt,one,o,hk];omega,?_,fD hb TaP⟩;show mG s.sum (gH x.1.n)=_;rw[hs];simp only[CK,Pm,o,hk,true_or,if_true];unfold mG gH M;omega
  exact Zgf
 exact Zb1;exact Zb1
 ·rw[if_neg WC,if_neg WC,if_pos WC];unfold St.put;split
  ·rename_i hk;refine⟨rfl,hall,by show s.count+1=_;rw[hc];simp[cnt,one,o,hk];omega,?_,fD hb TaP⟩;show mG s.sum (gH x.1.n)=_;rw[hs];simp only[CK,Pm,o,hk,or_true,if_true];unfold mG gH M;omega
  exact Zgf
 exact Zb2;exact Zb2
theorem Qm.zX{op:Int}(h0:21<=op)(h1:op<=28):∀(m:List (Val×Val)) {s:St}{l:List (Val×Val)},Qm op s l->Qm op (s.zX m) (l++m)
 |[],s,l,h=>by simpa [St.zX] using h
 |x::m,s,l,h=>by have h2:=(show Qm op _ ([x]++l)from h.feed h0 h1 x).turn;have:=Qm.zX h0 h1 m h2;simpa [St.zX] using this
theorem BO{op:Int}(h0:21<=op)(h1:op<=28)(l:List (Val×Val)):Qm op (lS op l) l:=by have:=Qm.zX h0 h1 l (acX op);rwa [nil_append]at this
def bT:w_->w_->Int
 |[],[]=>0
 |[],_::_=> -1
 |_::_,[]=>1
 |a::l,b::m=>if bC a b=0 then bT l m else bC a b
theorem GK(l m:w_)(k:Nat)(h1:k<l.length)(h2:k<m.length):bT (l.drop k) (m.drop k)=if bC l[k] m[k]=0 then bT (l.drop (k+1)) (m.drop (k+1))else bC l[k] m[k]:=by rw[drop_eq_getElem_cons h1,drop_eq_getElem_cons h2];rfl
theorem GL(l m:w_)(k:Nat)(h2:k<l.length)(h1:m.length<=k):bT (l.drop k) (m.drop k)=1:=ZiB
theorem GM(l m:w_)(k:Nat)(h1:l.length<=k)(h2:k<m.length):bT (l.drop k) (m.drop k)= -1:=ZiB
theorem Mt(l m:w_)(k:Nat)(h1:l.length<=k)(h2:m.length<=k):bT (l.drop k) (m.drop k)=0:=by rw[drop_eq_nil_of_le h1,drop_eq_nil_of_le h2];rfl
theorem AX(A:xP)(c:Nat)(l:w_)(A':xP)(c':Nat)(l':w_)(w:t_)(h:RV w w.heap.size A l)(h':RV w w.heap.size A' l')(hm:l.length<=1000)(hm':l'.length<=1000):
  ar 40 #[.slice A l.length c,.slice A' l'.length c',.func (.func 18) #[] #[]] w λ e w'=>e=.returned (af (bT l l'))/\ai w w':=by
 have HR:=aa h;have HR':=aa h';clear h h';go_enter func40,ntmps40;go_wp2_with fail;go_loopw [13] (λ i wr=>∃k:Nat,k<=l.length/\k<=l'.length/\i=af k/\bT (l.drop k) (l'.drop k)=bT l l'/\ai w wr) (λ i _=>l.length-(intOf i).toNat);case atStart=>exact Zit
 case round=>
  obtain⟨k,hk,TC,rfl,hd,hB⟩:=hrel;have HD:=aa hd;clear hd;by_cases hlt:k<l.length
  ·obtain⟨b,off,rfl,hb,c0,c1,c2⟩:=(HR.ae.below hB).at_ hlt;by_cases CM:k<l'.length
   ·have HS:=aa (GK l l' k hlt CM);have b1:=ah wr (.cells #[ag l[k].k,af l[k].n,.string l[k].s] 44);have hV:=aB.new wr 44 #[ag l[k].k,af l[k].n,.string l[k].s];generalize l[k]=v at*;go_upto_region 6 with fail;clear c0 c1 c2;replace hB:=aj.then hB b1;generalize wr.alloc (.cells (aC v) 44)=W1 at*;obtain⟨b',off',rfl,hb',c0',c1',c2'⟩:=(HR'.ae.below hB).at_ CM;have b2:=ah W1 (.cells #[ag l'[k].k,af l'[k].n,.string l'[k].s] 44);have hV':=aB.new W1 44 #[ag l'[k].k,af l'[k].n,.string l'[k].s];generalize l'[k]=v' at*;go_upto_region 7 with fail;clear c0' c1' c2';replace hB:=aj.then hB b2;replace hV:=hV.later b2;generalize W1.alloc (.cells (aC v') 44)=W2 at*;obtain⟨x0,x1,x2⟩:=aI hV;obtain⟨y0,y1,y2⟩:=aI hV';go_wp2_with fail;refine(dQ v v' _).mono ?_;rintro e w6 ⟨rfl,b3⟩;replace hB:=aj.then hB b3;clear x0 x1 x2 y0 y1 y2 hV hV' b1 b2 b3;exact ZcC
   have HS:=aa (GL l l' k hlt WC);have b1:=ah wr (.cells #[ag l[k].k,af l[k].n,.string l[k].s] 44);generalize l[k]=v at*;go_wp2_with fail;go_ret;exact⟨by rw[<-HD.ae,HS.ae];rfl,aj.then hB b1⟩
  by_cases CM:k<l'.length;have HS:=aa (GM l l' k WC CM);exact Zdp;have HS:=aa (Mt l l' k WC WC);exact Zdp
theorem wX(A:xP)(c:Nat)(l:w_)(A':xP)(c':Nat)(l':w_)(w:t_)(h:RV w w.heap.size A l)(h':RV w w.heap.size A' l')(hm:l.length<=1000)(hm':l'.length<=1000):
  ar 14 #[.slice A l.length c,.slice A' l'.length c'] w λ e w'=>e=.returned (af (bT l l'))/\ai w w':=by have HC:=AX A c l A' c' l' w h h' hm hm';clear h h';go_enter func14,ntmps14;go_wp2_with fail;refine HC.mono ?_;exact Zdl
structure aK where
 A:xP
 l:w_
 c:Nat
def aK.v(r:aK):Value:=.slice r.A r.l.length r.c
def RR(w:t_)(B:Nat)(A:xP)(rs:List aK):Prop:=
 rs=[]\/∃b off,A=some ⟨b,off,none⟩/\b<B/\∀i r,rs[i]?=some r->w.cell? ⟨b,off+i,none⟩=some (.slice r.A r.l.length r.c)/\RV w B r.A r.l
variable{w':t_}{B:Nat}{rs:List aK}
theorem RR.below{w:t_}{A:xP}(h:RR w B A rs)(hb:Below B w w'):RR w' B A rs:=by rcases h with h|⟨b,off,h1,h2,h3⟩;exact Zis;exact .inr ⟨b,off,h1,h2,λ i x hx=>⟨(hb.cell (p:=⟨b,off+i,none⟩) h2).trans (h3 i x hx).1,(h3 i x hx).2.below hb⟩⟩
theorem RR.at_{w:t_}{A:xP}(h:RR w B A rs){k:Nat}(hk:k<rs.length):∃b off,A=some ⟨b,off,none⟩/\b<B/\w.cell? ⟨b,off+k,none⟩=some (.slice rs[k].A rs[k].l.length rs[k].c)/\RV w B rs[k].A rs[k].l:=by rcases h with h|⟨b,off,h1,h2,h3⟩;subst h;simp at hk;obtain⟨h4,h5⟩:=h3 k _ (getElem?_eq_getElem hk);exact⟨b,off,h1,h2,h4,h5⟩
theorem oM:∀x y:w_,bT x y= -(bT y x)
 |[],[]=>rfl
 |[],_::_=>rfl
 |_::_,[]=>rfl
 |a::x,b::y=>by have h:=km.jq a b;have ih:=oM x y;unfold bT;split<;>split<;>omega
theorem uZ:∀x y z:w_,bT x y<=0->bT y z<=0->bT x z<=0
 |[],_,[],_,_=>by decide
 |[],_,_::_,_,_=>by simp[bT]
 |_::_,[],_,h,_=>by simp[bT]at h
 |_::_,_::_,[],_,h=>by simp[bT]at h
 |a::x,b::y,c::z,h1,h2=>by
   unfold bT at h1 h2⊢;have a1:bC a b<=0:=by split at h1<;>omega
   have a2:bC b c<=0:=by split at h2<;>omega
   have a3:=km.trans a b c a1 a2;split
   ·rename_i h0;have e:=GI h0;subst e;have e2:=km.jq b a;have z1:bC a b=0:=by omega
    have z2:bC b a=0:=WC;rw[if_pos z1]at h1;rw[if_pos z2]at h2;exact uZ x y z h1 h2
   exact a3
theorem fS:Good bT:=⟨oM,uZ⟩
theorem oN(x:w_):bT x x=0:=by have:=oM x x;omega
theorem eO:∀x y:w_,bT x y=0->x=y
 |[],[],_=>rfl
 |[],_::_,h=>by simp[bT]at h
 |_::_,[],h=>by simp[bT]at h
 |a::x,b::y,h=>by unfold bT at h;split at h;rename_i h0;rw[GI h0,eO x y h];rename_i h0;exact absurd h h0
theorem Mu(l:w_):(l.flatMap aX).length=l.length*3:=by
 induction l with
 |nil=>rfl
 |cons v l ih=>simp only[flatMap_cons,length_append,ih,length_cons];simp[aX];omega
theorem Mw:∀(l:w_) (j:Nat),(l.flatMap aX)[j]?=(l[j/3]?).bind λ v=>(aX v)[j % 3]?
 |[],j=>by simp
 |v::l,j=>by
   rw[flatMap_cons];by_cases h:j<3;rw[getElem?_append_left (by simpa [aX] using h),Nat.div_eq_of_lt h,Nat.mod_eq_of_lt h];simp;have h3:(aX v).length=3:=rfl;rw[getElem?_append_right WC,h3,Mw l (j-3)];have e1:j/3=(j-3)/ 3+1:=by omega
   have e2:j % 3=(j-3)% 3:=WC;rw[e1,e2,getElem?_cons_succ]
theorem RV.reads{w:t_}{A:xP}{l:w_}(h:RV w B A l):Reads w B 3 A l.length (l.flatMap aX):=by
 refine⟨Mu l,λ hn=>?_⟩;rcases h with h|⟨b,off,rfl,h2,h3⟩;subst h;simp at hn;refine⟨⟨b,off,none⟩,rfl,h2,λ j u hu=>?_⟩;rw[Mw]at hu;cases hv:l[j/3]? with
 |none=>rw[hv]at hu;cases hu
 |some v=>
   rw[hv]at hu;have hu:(aX v)[j % 3]?=some u:=hu;obtain⟨c0,c1,c2⟩:=h3 (j/3) v hv;rw[dX];have hj:j=j/3*3+j % 3:=WC;have hlt:j % 3<3:=Nat.mod_lt _ WC;generalize j % 3=r at*;rw[hj]
   match r,hlt with
   |0,_=>simp[aX]at hu;subst hu;simpa using c0
   |1,_=>simp[aX]at hu;subst hu;rw[<-Nat.add_assoc];exact c1
   |2,_=>simp[aX]at hu;subst hu;rw[<-Nat.add_assoc];exact c2
def RN(w:t_)(g:Nat)(r:aK):Prop:=
 r.l=[]\/∃b off,r.A=some ⟨b,off,none⟩/\b<w.heap.size/\b≠g/\∀i x,r.l[i]?=some x->ej w b (off+i*3) x
variable{r:aK}
theorem RN.rv{w:t_}{g:Nat}(h:RN w g r)(hg:w.grownBy w' (some g)):RV w' w'.heap.size r.A r.l:=by exact Zdj
def At(w:t_)(g n:Nat)(D:Nat->aK):Prop:=∃cs,aB w g 38 cs/\n<=cs.size/\∀i,i<n->cs[i]?=some (D i).v
variable{D:Nat->aK}
theorem At.cell{w:t_}{g n:Nat}(h:At w g n D)(i:Nat)(hi:i<n):w.cell? ⟨g,i,none⟩=some (.slice (D i).A (D i).l.length (D i).c):=by obtain⟨cs,hb,_,hc⟩:=h;rw[hb.cell,hc i hi];rfl
theorem At.frozen{w:t_}{g n:Nat}(h:At w g n D)(i:Nat):w.frozen? ⟨g,i,none⟩=false:=by obtain⟨cs,hb,_,hc⟩:=h;exact hb.frozen i
theorem At.later{w:t_}{g n:Nat}(h:At w g n D)(hb:ai w w'):At w' g n D:=by obtain⟨cs,h1,h2,h3⟩:=h;exact⟨cs,h1.later hb,h2,h3⟩
def swp(D:Nat->aK)(i j:Nat):Nat->aK:=λ k=>if k=j then D i else if k=i then D j else D k
theorem At.swap{w:t_}{g n:Nat}(h:At w g n D)(i j:Nat)(hi:i<n)(hj:j<n):At (((w.setCell ⟨g,i,none⟩ (D j).v).setCell ⟨g,j,none⟩ (D i).v).drew) g n (swp D i j):=by
 obtain⟨cs,h1,h2,h3⟩:=h;refine⟨(cs.setIfInBounds i (D j).v).setIfInBounds j (D i).v,((h1.aW i _).aW j _).drew,by simpa using h2,λ k hk=>?_⟩;have e0:=h3 k hk;unfold swp;rw[Array.getElem?_setIfInBounds,Array.getElem?_setIfInBounds];have s1:(cs.setIfInBounds i (D j).v).size=cs.size:=Tad;rw[s1];repeat' split
 all_goals first
  |(exfalso;omega)
  |rfl
  |exact e0
structure SS (w0:t_) (g n:Nat) (w:t_) (D:Nat->aK):Prop where
 at_:At w g n D
 grown:w0.grownBy w (some g)
 rows:∀k,k<n->RN w0 g (D k)/\(D k).l.length<=1000
variable{w0:t_}
theorem SS.later{w:t_}{g n:Nat}(h:SS w0 g n w D)(hb:ai w w'):SS w0 g n w' D:=⟨h.at_.later hb,ba h.grown (aQ hb),h.rows⟩
theorem SS.rv{w:t_}{g n:Nat}(h:SS w0 g n w D)(i:Nat)(hi:i<n):RV w w.heap.size (D i).A (D i).l:=(h.rows i hi).1.rv h.grown
theorem SS.swap{w:t_}{g n:Nat}(h:SS w0 g n w D)(i j:Nat)(hi:i<n)(hj:j<n):SS w0 g n (((w.setCell ⟨g,i,none⟩ (D j).v).setCell ⟨g,j,none⟩ (D i).v).drew) (swp D i j):=by refine⟨h.at_.swap i j hi hj,jX (aF (aF h.grown i _) j _),λ k hk=>?_⟩;exact Zhe
theorem SS.second{w:t_}{g n:Nat}(h:SS w0 g n w D)(i j:Nat)(hi:i<n)(hj:j<n)(u:Value):∃v,(w.setCell ⟨g,i,none⟩ u).cell? ⟨g,j,none⟩=some v:=by obtain⟨cs,h1,h2,h3⟩:=h.at_;rw[(h1.aW i u).cell j,Array.getElem?_setIfInBounds];split;rw[if_pos WC];exact⟨_,rfl⟩;exact⟨_,h3 j hj⟩
def dT(D:Nat->aK)(a b c:Nat):Nat->aK:=λ k=>if a<=k/\k<a+c then D (k-a+b)else if b<=k/\k<b+c then D (k-b+a)else D k
theorem mI(D:Nat->aK)(a b:Nat):dT D a b 0=D:=by funext k;unfold dT;rw[if_neg WC,if_neg WC]
theorem mJ(D:Nat->aK)(a b i:Nat)(h:a+i<b):swp (dT D a b i) (a+i) (b+i)=dT D a b (i+1):=by funext k;unfold swp dT;exact ZbW
def si(w0:t_)(g n:Nat)(D:Nat->aK)(e:Ending)(w':t_):Prop:=e=.returned (.tuple #[])/\SS w0 g n w' D
theorem eX(w0:t_)(g n cap a b c:Nat)(D:Nat->aK)(w:t_)(h:SS w0 g n w D)(hn:n<=1000)(hab:a+c<=b)(hb:b+c<=n):
  ar 197 #[aL g n cap,af a,af b,af c,.func (.func 14) #[] #[]] w (si w0 g n (dT D a b c)):=by
 have HS:=aa h;clear h;have mixed:prog.follows .mixedOrders=true:=Taa;go_enter func197,ntmps197;go_wp2_with fail;go_loopw [10] (λ iv wr=>∃i:Nat,i<=c/\iv=af i/\SS w0 g n wr (dT D a b i)) (λ iv _=>c-(intOf iv).toNat);case atStart=>exact⟨0,gE,rfl,by rw[mI];exact HS.ae⟩
 case round=>
  obtain⟨i,hi,rfl,hs⟩:=hrel;have H2:=aa hs;clear hs;by_cases hlt:i<c
  ·have c1:=H2.ae.at_.cell (a+i) WC;have c2:=H2.ae.at_.cell (b+i) WC;have f1:=H2.ae.at_.frozen (a+i);have f2:=H2.ae.at_.frozen (b+i);obtain⟨u,c3⟩:=H2.ae.second (a+i) (b+i) WC WC (dT D a b i (b+i)).v;have S3:=aa (H2.ae.swap (a+i) (b+i) WC WC);unfold aK.v at c3 S3;go_upto_region 3 with fail;go_big_region_o;clear c1 c2 c3 f1 f2;exact Zed
  have yz:i=c:=by omega
  subst yz;go_wp2_with fail;exact bodyPost_ret (v:=.tuple #[]) (by simp[results,results197,go_sem]) rfl ⟨rfl,H2.ae⟩
def bS(D:Nat->aK)(s m e:Nat):Nat->aK:=λ k=>if s<=k/\k<e then(if k<s+(e-m)then D (k+(m-s))else D (k-(e-m)))else D k
theorem sj(D:Nat->aK)(m i j:Nat)(hi:i<=m)(kE:j<i):bS (dT D (m-i) m j) (m-(i-j)) m (m+j)=bS D (m-i) m (m+j):=Zf0
theorem sk(D:Nat->aK)(m i j:Nat)(hi:i<=m)(kE:i<j):bS (dT D (m-i) (m+j-i) i) (m-i) m (m+(j-i))=bS D (m-i) m (m+j):=Zf0
theorem sq(D:Nat->aK)(m i:Nat)(hi:i<=m):dT D (m-i) m i=bS D (m-i) m (m+i):=Zf0
def zfk.Kbd(h:p:=by exact bodyPost_ret (v:=.tuple #[]) (by simp[results,results173,go_sem]) rfl ⟨rfl,H3.ae⟩):=h
theorem vd(w0:t_)(g n cap a m b:Nat)(D:Nat->aK)(w:t_)(h:SS w0 g n w D)(hn:n<=1000)(ham:a<m)(hmb:m<b)(hb:b<=n):
  ar 173 #[aL g n cap,af a,af m,af b,.func (.func 14) #[] #[]] w (si w0 g n (bS D a m b)):=by
 have HS:=aa h;clear h;go_enter func173,ntmps173;go_wp2_with fail;go_loopw [10,11] (λ iv jv wr=>∃(i j:Nat) (E:Nat->aK),0<i/\0<j/\a+i<=m/\m+j<=b/\iv=af i/\jv=af j/\SS w0 g n wr E/\bS E (m-i) m (m+j)=bS D a m b) (λ iv jv _=>(intOf iv).toNat+(intOf jv).toNat);case atStart=>exact ZeC
 case round=>
  obtain⟨i,j,E,kB,hj0,hi,hj,rfl,rfl,hs,hr⟩:=hrel;have H2:=aa hs;have HR:=aa hr;clear hs hr;by_cases heq:i=j
  ·open zfk in exact Zds
  exact ZaT
def lt(x y:aK):Prop:=bT x.l y.l<0
def le(x y:aK):Prop:=bT x.l y.l<=0
theorem le_refl(x:aK):le x x:=by unfold le;rw[oN];omega
variable{x y z:aK}
theorem le_trans(h:le x y)(k:le y z):le x z:=uZ _ _ _ h k
theorem le_of_lt(h:lt x y):le x y:=by unfold lt at h;unfold le;omega
theorem not_lt:¬lt x y↔le y x:=by unfold lt le;have:=oM x.l y.l;omega
theorem kP(h:le x y)(k:lt y z):lt x z:=by exact ZgW
theorem kQ(h:lt x y)(k:le y z):lt x z:=by exact ZgX
def cT(D:Nat->aK)(a b:Nat):Prop:=∀i j,a<=i->i<j->j<b->le (D i) (D j)
variable{a' b':Nat}
theorem cT.mono{a b:Nat}(h:cT D a b)(h1:a<=a')(h2:b'<=b):cT D a' b':=λ i j hi hj hb=>h i j WC hj WC
variable{E:Nat->aK}
theorem cT.congr{a b:Nat}(h:cT D a b)(he:∀i,a<=i->i<b->E i=D i):cT E a b:=λ i j hi hj hb=>by rw[he i hi WC,he j WC hb];exact h i j hi hj hb
variable{j:Nat}
theorem cT.le{a b i:Nat}(h:cT D a b)(hi:a<=i)(kE:i<=j)(hj:j<b):le (D i) (D j):=by exact ZgO
theorem cT.none{a b:Nat}(h:b<=a+1):cT D a b:=λ i j hi hj hb=>by omega
inductive Sw (a b:Nat) (D:Nat->aK):(Nat->aK)->Prop
 |refl:Sw a b D D
 |step {E:Nat->aK}{i j:Nat}:Sw a b D E->a<=i->i<b->a<=j->j<b->Sw a b D (swp E i j)
variable{F:Nat->aK}
theorem Sw.trans{a b:Nat}(h:Sw a b D E)(k:Sw a b E F):Sw a b D F:=by exact Zhm
theorem Sw.mono{a b:Nat}(h:Sw a b D E)(h1:a'<=a)(h2:b<=b'):Sw a' b' D E:=by exact ZfX
theorem Sw.ae{a b:Nat}(h:Sw a b D E):∀k,k<a\/b<=k->E k=D k:=by exact Ze9
theorem Sw.mem{a b:Nat}(h:Sw a b D E):∀k,a<=k->k<b->∃k',a<=k'/\k' < b/\E k=D k':=by exact ZdS
theorem jB(D:Nat->aK)(a b:Nat):∀c,a+c<=b->Sw a (b+c) D (dT D a b c)
 |0,_=>by rw[mI];exact .refl
 |c+1,h=>by rw[<-mJ D a b c WC];exact .step ((jB D a b c WC).mono aE WC) WC WC WC WC
theorem Qn(D:Nat->aK)(m:Nat):∀N i j,i+j<=N->0<i->0<j->i<=m->Sw (m-i) (m+j) D (bS D (m-i) m (m+j)):=by exact Za7
theorem JC(D:Nat->aK)(s m e:Nat)(h1:s<m)(h2:m<e):Sw s e D (bS D s m e):=Zeq
theorem yO(D:Nat->aK)(m e:Nat):bS D m m e=D:=by exact Zc9
theorem ve(D:Nat->aK)(s m:Nat):bS D s m m=D:=by exact Zc9
def Mx(E:Nat->aK)(a i j:Nat):Prop:=(∀p q,a<=p->p<q->q<=i->p≠j->q≠j->le (E p) (E q))/\∀q,j<q->q<=i->le (E j) (E q)
theorem Mx.start{a i:Nat}(h:cT D a i):Mx D a i i:=⟨λ p q h1 h2 h3 h4 h5=>h p q h1 h2 WC,λ q h1 h2=>by omega⟩
theorem Mx.step{a i:Nat}(h:Mx E a i j)(hj:a<j)(Pj:j<=i)(hl:lt (E j) (E (j-1))):Mx (swp E j (j-1)) a i (j-1):=by exact ZbE
theorem Mx.stop{a i:Nat}(h:Mx E a i j)(hj:a<=j)(hs:j=a\/¬lt (E j) (E (j-1))):cT E a (i+1):=by exact Zct
def mK(D:Nat->aK)(a k:Nat):Nat->aK:=λ x=>if a<=x/\x<k then D (x+1)else if x=k then D a else D x
theorem oO(D:Nat->aK)(a:Nat):mK D a a=D:=by funext x;unfold mK;exact Zc4
theorem oP(D:Nat->aK)(a k:Nat)(h:a<=k):swp (mK D a k) k (k+1)=mK D a (k+1):=by funext x;unfold swp mK;exact Zc8
theorem wY(D:Nat->aK)(a:Nat):∀d,Sw a (a+d+1) D (mK D a (a+d))
 |0=>by show Sw a (a+0+1) D (mK D a a);rw[oO];exact .refl
 |d+1=>by rw[show a+(d+1)=a+d+1 by omega,<-oP D a (a+d) WC];exact .step ((wY D a d).mono aE WC) WC WC WC WC
theorem CN{a b i:Nat}(hs:cT D (a+1) b)(hi:a+1<=i)(hib:i<=b)(h1:∀h,a+1<=h->h<i->lt (D h) (D a))(h2:∀h,i<=h->h<b->¬lt (D h) (D a)):cT (mK D a (i-1)) a b:=by exact Zbv
def ot(D:Nat->aK)(k m:Nat):Nat->aK:=λ x=>if x=k then D m else if k<x/\x<=m then D (x-1)else D x
theorem oQ(D:Nat->aK)(m:Nat):ot D m m=D:=by funext x;unfold ot;exact Zc4
theorem oT(D:Nat->aK)(k m:Nat)(h0:0<k)(h:k<=m):swp (ot D k m) k (k-1)=ot D (k-1) m:=by funext x;unfold swp ot;exact Zc8
theorem wZ(D:Nat->aK)(m:Nat):∀d,d<=m->Sw (m-d) (m+1) D (ot D (m-d) m)
 |0,_=>by rw[Nat.sub_zero,oQ];exact .refl
 |d+1,h=>by rw[show m-(d+1)=m-d-1 by omega,<-oT D (m-d) m WC WC];exact .step ((wZ D m d WC).mono WC aE) WC WC WC WC
variable{m:Nat}
theorem CO{a i:Nat}(hs:cT D a m)(hi:a<=i)(zQ:i<=m)(h1:∀h,a<=h->h<i->¬lt (D m) (D h))(h2:∀h,i<=h->h<m->lt (D m) (D h)):cT (ot D i m) a (m+1):=by exact ZbG
structure Qo (D:Nat->aK) (p s0 r0 s r:Nat):Prop where
 low:∀c,s0<=c->c<s->¬lt (D (p-c)) (D c)
 high:∀c,r<=c->c<r0->lt (D (p-c)) (D c)
structure jC (a m b mid s0 r0:Nat):Prop where
 ab:a<m/\m<b
 B6:mid=(a+b)/ 2
 ends:(m > mid/\s0=mid+m-b/\r0=mid)\/(m<=mid/\s0=a/\r0=m)
variable{mid s0 r0:Nat}
theorem Qo.go{a b s r c:Nat}(he:jC a m b mid s0 r0)(h1:cT D a m)(h2:cT D m b)(h:Qo D (mid+m-1) s0 r0 s r)(hs:s0<=s)(hr:r<=r0)(hc:s<=c)(hc2:c<r):
  (¬lt (D (mid+m-1-c)) (D c)->Qo D (mid+m-1) s0 r0 (c+1) r)/\(lt (D (mid+m-1-c)) (D c)->Qo D (mid+m-1) s0 r0 s c):=by exact ZbC
theorem yP{a b s:Nat}(he:jC a m b mid s0 r0)(h1:cT D a m)(h2:cT D m b)(h:Qo D (mid+m-1) s0 r0 s s)(hs:s0<=s)(hr:s<=r0):
  cT (bS D s m (mid+m-s)) a s/\cT (bS D s m (mid+m-s)) s mid/\cT (bS D s m (mid+m-s)) mid (mid+m-s)/\cT (bS D s m (mid+m-s)) (mid+m-s) b/\
  ∀x y,a<=x->x<mid->mid<=y->y<b->le (bS D s m (mid+m-s) x) (bS D s m (mid+m-s) y):=by exact Zar
theorem JD{a b:Nat}(hm:a<=mid/\mid<=b)(h:∀x y,a<=x->x<mid->mid<=y->y<b->le (D x) (D y))(k1:Sw a mid D E)(k2:Sw mid b E F)(s1:cT E a mid)(s2:cT F mid b):cT F a b/\Sw a b D F:=by exact Zb0
theorem at_root{w:t_}:∀{t:Tr}{y:Ex},t.at_ w S y->y.op=t.op/\y.v=t.v/\y.name=t.name
 |.mk op v name width args,y,h=>by unfold Tr.at_ at h;exact⟨h.1,h.2.1,h.2.2.1⟩
def nt(y:Ex):Value:=.agg (ay y)
mutual
theorem Tr.tell{α:Type}(f:Tr->α)(P:Tr->Prop)(C:t_->Ex->α->Prop)(hP:∀op v name width ts,P (.mk op v name width ts)->∀t∈ts,P t)
  (step:∀(op:Int) (v:Val) (name:u_) (width:Int) (ts:vI) (A:xP) (c:Nat) (args:List (Ex×α)) (w:t_),(Tr.mk op v name width ts).ok->P (.mk op v name width ts)->args.length=ts.length->args.map (·.2)=ts.map f->RE w w.heap.size A (args.map (·.1))->Tr.aO w (Old w) ts (args.map (·.1))->(∀a∈args,∀W,ai w W->C W a.1 a.2)->C w ⟨op,v,name,width,A,args.length,c⟩ (f (.mk op v name width ts))):
  ∀(t:Tr) (y:Ex) (w:t_),t.ok->P t->t.at_ w (Old w) y->∀W,ai w W->C W y (f t)
 |.mk op v name width ts,y,w,bc,hp,hat,W,hW=>by
   have oL:=hat.later hW;unfold Tr.at_ at oL;obtain⟨h1,h2,h3,h4,h5,ys,h6,h7⟩:=oL;have B7:=bc;unfold Tr.ok at B7;obtain⟨l,fI,hl2,uW⟩:=Tr.tells f P C hP step ts ys W B7.2.2.2.2.2 (hP op v name width ts hp) h7;obtain⟨Lx,yv,lR,ir,yA,yn,yc⟩:=y;dsimp only at h1 h2 h3 h4 h5 h6;subst h1 h2 h3 h4 h5;have hlen:l.length=ts.length:=by
    have:(l.map (·.1)).length=ys.length:=by rw[fI]
    rw[length_map,h7.length]at this;exact this
   have k:=step Lx yv lR ir ts yA yc l W bc hp hlen hl2 Tbf (by rw[fI];exact h7) uW;rw[hlen]at k;exact k
theorem Tr.tells{α:Type}(f:Tr->α)(P:Tr->Prop)(C:t_->Ex->α->Prop)(hP:∀op v name width ts,P (.mk op v name width ts)->∀t∈ts,P t)
  (step:∀(op:Int) (v:Val) (name:u_) (width:Int) (ts:vI) (A:xP) (c:Nat) (args:List (Ex×α)) (w:t_),(Tr.mk op v name width ts).ok->P (.mk op v name width ts)->args.length=ts.length->args.map (·.2)=ts.map f->RE w w.heap.size A (args.map (·.1))->Tr.aO w (Old w) ts (args.map (·.1))->(∀a∈args,∀W,ai w W->C W a.1 a.2)->C w ⟨op,v,name,width,A,args.length,c⟩ (f (.mk op v name width ts))):
  ∀(ts:vI) (ys:v_) (w:t_),Tr.cO ts->(∀t∈ts,P t)->Tr.aO w (Old w) ts ys->∃l:List (Ex×α),l.map (·.1)=ys/\l.map (·.2)=ts.map f/\∀a∈l,∀W,ai w W->C W a.1 a.2
 |[],ys,w,_,_,hat=>by unfold Tr.aO at hat;subst hat;exact⟨[],rfl,rfl,by simp⟩
 |t::ts,ys,w,bc,hp,hat=>by unfold Tr.aO at hat;unfold Tr.cO at bc;obtain⟨y,ys',rfl,h2,h3⟩:=hat;obtain⟨l,fI,hl2,uW⟩:=Tr.tells f P C hP step ts ys' w bc.2 (λ x hx=>hp x Tbh) h3;refine⟨(y,f t)::l,by simp[fI],by simp[hl2],λ a ha W hW=>?_⟩;rcases List.mem_cons.1 ha with rfl|ha;exact Tr.tell f P C hP step t y w bc.1 (hp t Tad) h2 W hW;exact uW a ha W hW
end
structure ib (w:t_) (ts:vI) (A:xP) (n:Nat):Prop where
 n:n=ts.length
 lies:∃ys,ZA w (Old w) A ys/\Tr.aO w (Old w) ts ys
variable{ts:vI}
theorem ib.later{w:t_}{A:xP}{n:Nat}(h:ib w ts A n)(hb:ai w w'):ib w' ts A n:=by obtain⟨h1,ys,h2,h3⟩:=h;exact⟨h1,ys,h2.keep λ b hS=>⟨λ o=>hb.cell (p:=⟨b,o,none⟩) hS,eS hS hb.size⟩,h3.later hb⟩
def RI(w:t_)(B:Nat)(A:xP)(l:List (Ex×Value)):Prop:=
 l=[]\/∃b off,A=some ⟨b,off,none⟩/\b<B/\∀i x,l[i]?=some x->cC w b (off+i*8) x.1/\w.cell? ⟨b,off+i*8+7,none⟩=some x.2
theorem RI.below{w:t_}{A:xP}{l:List (Ex×Value)}(h:RI w B A l)(hb:Below B w w'):RI w' B A l:=by rcases h with h|⟨b,off,h1,h2,h3⟩;exact Zis;exact .inr ⟨b,off,h1,h2,λ i x hx=>⟨(h3 i x hx).1.keep λ o=>hb.cell (p:=⟨b,o,none⟩) h2,(hb.cell (p:=⟨b,off+i*8+7,none⟩) h2).trans (h3 i x hx).2⟩⟩
variable{B':Nat}
theorem RI.more{w:t_}{A:xP}{l:List (Ex×Value)}(h:RI w B A l)(hB:B<=B'):RI w B' A l:=by rcases h with h|⟨b,off,h1,h2,h3⟩;exact Zis;exact .inr ⟨b,off,h1,eS h2 hB,h3⟩
theorem RI.later{w:t_}{A:xP}{l:List (Ex×Value)}(h:RI w w.heap.size A l)(hb:ai w w'):RI w' w'.heap.size A l:=(h.below hb).more hb.size
theorem RI.at_{w:t_}{A:xP}{l:List (Ex×Value)}(h:RI w B A l){k:Nat}(hk:k<l.length):∃b off,A=some ⟨b,off,none⟩/\b<B/\cC w b (off+k*8) l[k].1/\w.cell? ⟨b,off+k*8+7,none⟩=some l[k].2:=by rcases h with h|⟨b,off,h1,h2,h3⟩;subst h;simp at hk;exact⟨b,off,h1,h2,h3 k l[k] (getElem?_eq_getElem hk)⟩
structure fh (w:t_) (l:List (Tr×Value)) (A:xP) (n:Nat):Prop where
 n:n=l.length
 lies:∃ys:List (Ex×Value),RI w w.heap.size A ys/\ys.map (·.2)=l.map (·.2)/\Tr.aO w (Old w) (l.map (·.1)) (ys.map (·.1))
theorem fh.later{w:t_}{l:List (Tr×Value)}{A:xP}{n:Nat}(h:fh w l A n)(hb:ai w w'):fh w' l A n:=by obtain⟨h1,ys,h2,h3,h4⟩:=h;exact⟨h1,ys,h2.later hb,h3,h4.later hb⟩
theorem kR{p:Nat}{a b:t_}(h:a.grownBy b (some p))(o:Obj):a.grownBy (b.alloc o) (some p):=by refine⟨h.os,h.tape,h.output,?_,λ k hk hne=>?_⟩;have:=h.size;simp;omega;rw[Below.heap_alloc b o k (eS hk h.size)];exact h.block k hk hne
theorem TQ(x y c:Int)(hx:0<=x)(hy:0<=y)(hc0:0<=c)(hc:c<=1)(w:t_):(callFunc 205 #[.int .u64 x,.int .u64 y,.int .u64 c]).run prog w=.ok (.value (.tuple #[.int .u64 (lo (x+y+c)),.int .u64 (hi (x+y+c))])) w:=by rw[run_callFunc_extern func205 Taa Taa Taa (e:=add64Entry) Taa,run_add64 x y c hx hy hc0 hc];rfl
theorem B8(a b:Int):0<=mG a b/\mG a b<M*M:=by unfold mG M;omega
theorem B9(a b:Int)(ha0:0<=a)(ha:a<M*M)(hb0:0<=b)(hb:b<M*M):
  Value.agg #[.int .u64 (lo (hi a+hi b+hi (lo a+lo b+0))),.int .u64 (lo (lo a+lo b+0))]=wv (mG a b):=by
 have e1:lo (hi a+hi b+hi (lo a+lo b+0))=hi (mG a b):=by unfold mG hi lo M at*;omega
 have e2:lo (lo a+lo b+0)=lo (mG a b):=by unfold mG lo M;omega
 unfold wv;rw[e1,e2]
theorem C1(a b:Int)(ha0:0<=a)(ha:a<M*M)(hb0:0<=b)(hb:b<M*M)(w:t_):
  ar 190 #[.agg #[.int .u64 (hi a),.int .u64 (lo a)],.agg #[.int .u64 (hi b),.int .u64 (lo b)]] w λ e w'=>e=.returned (wv (mG a b))/\ai w w':=by
 rw[<-B9 a b ha0 ha hb0 hb];have q1:=tJ a;have q2:=tJ b;have q3:=tK ha0;have q4:=tK hb0;have q5:0<=hi (lo a+lo b+0)/\hi (lo a+lo b+0)<=1:=by have:=TL a;have:=TL b;unfold hi M at*;omega
 have l1:=λ w=>TQ (lo a) (lo b) 0 q1 q2 WC WC w;have l2:=λ w=>TQ (hi a) (hi b) (hi (lo a+lo b+0)) q3 q4 q5.1 q5.2 w;clear q1 q2 q3 q4 q5 ha0 ha hb0 hb;generalize lo (lo a+lo b+0)=x1 at*;generalize hi (lo a+lo b+0)=x2 at*;generalize lo (hi a+hi b+x2)=x3 at*;generalize hi (hi a+hi b+x2)=x4 at*;generalize lo a=la at*;generalize lo b=lb at*;generalize hi a=ha at*;generalize hi b=hb at*;go_enter func190,ntmps190;go_wp2;exact bodyPost_ret (v:=.agg #[.int .u64 x3,.int .u64 x1]) (by simp[results,results190,go_sem]) rfl ⟨rfl,by go_grown⟩
theorem aif(x y:Int)(w:t_):ar 47 #[aL w.heap.size 2 2] (w.alloc (.cells #[af x,af y] 3)) λ e w'=>
  e=.returned (af (pB x y))/\w'=w.alloc (.cells #[af x,af y] 3):=by
 unfold pB;have q1:∀u:Int,u≠0->((u != 0)=true):=λ u h=>by simp[h]
 by_cases h1:x=0
 ·subst h1;by_cases h2:y=0
  ·subst h2;go_enter func47,ntmps47;go_wp2;refine wp_loop_rounds 3 ?_;iterate 3 (rw[rounds_succ];go_wp2)
   exact ZbH
  have:=q1 y h2;go_enter func47,ntmps47;go_wp2;refine wp_loop_rounds 3 ?_;iterate 2 (rw[rounds_succ];go_wp2)
  exact ZbH
 have:=q1 x h1;go_enter func47,ntmps47;go_wp2;refine wp_loop_rounds 3 ?_;rw[rounds_succ];exact Zgq
theorem cE.free{w:t_}{p:Nat}{s:St}(h:cE w p s)(i:Nat):w.frozen? ⟨p,i,none⟩=false:=aB.frozen h i
variable{W:t_}
theorem tN{p:Nat}{s:St}{a b:Val}(h:cE W p s):cE ((((((((W.setCell ⟨p,5,none⟩ (ag a.k)).setCell ⟨p,6,none⟩ (af a.n)).setCell ⟨p,7,none⟩ (.string a.s)).setCell ⟨p,8,none⟩ (ag b.k)).setCell ⟨p,9,none⟩ (af b.n)).setCell ⟨p,10,none⟩ (.string b.s)).setCell ⟨p,11,none⟩ (.bool true)).drew) p {s with a:=a,b:=b,found:=true}:=by
 have h1:=(((((((aB.aW h 5 (ag a.k)).aW 6 (af a.n)).aW 7 (.string a.s)).aW 8 (ag b.k)).aW 9 (af b.n)).aW 10 (.string b.s)).aW 11 (.bool true)).drew;have e:(((((((s.cells.setIfInBounds 5 (ag a.k)).setIfInBounds 6 (af a.n)).setIfInBounds 7 (.string a.s)).setIfInBounds 8 (ag b.k)).setIfInBounds 9 (af b.n)).setIfInBounds 10 (.string b.s)).setIfInBounds 11 (.bool true))=St.cells {s with a:=a,b:=b,found:=true}:=by simp[St.cells]
 rw[e]at h1;exact h1
variable{v5 v6 v7 v8 v9 v10 v11:Value}
theorem pR{w:t_}{p:Nat}(h:w.grownBy W (some p)):w.grownBy (((((((W.setCell ⟨p,5,none⟩ v5).setCell ⟨p,6,none⟩ v6).setCell ⟨p,7,none⟩ v7).setCell ⟨p,8,none⟩ v8).setCell ⟨p,9,none⟩ v9).setCell ⟨p,10,none⟩ v10).setCell ⟨p,11,none⟩ v11) (some p):=
 aF (aF (aF (aF (aF (aF (aF h 5 _) 6 _) 7 _) 8 _) 9 _) 10 _) 11 _
theorem My(p:Nat)(s:St)(a b:Val)(w:t_)(h:cE w p s):
  ar 194 #[aw p,.agg (aC a),.agg (aC b)] w λ e w'=>
   e=.returned (.tuple #[])/\cE w' p (s.take a b)/\w.grownBy w' (some p):=by
 have HT:fy (s.take a b=if s.better a b then {s with a:=a,b:=b,found:=true} else s):=rfl;have hr:=Jv b s.b;have hr2:=Jv a s.a;have hcv: -1<=s.rank a b/\s.rank a b<=1:=by unfold St.rank pB;split<;>assumption
 obtain⟨op,all,count,sum,sa,sb,found⟩:=s;go_enter func194,ntmps194;go_wp2_with fail;have hS:cE ((w.alloc (.cells (aC a) 44)).alloc (.cells (aC b) 44)) p _:=(aB.alloc h _).alloc _;have hA:=(aB.new w 44 (aC a)).alloc (.cells (aC b) 44);have hB:=aB.new (w.alloc (.cells (aC a) 44)) 44 (aC b);have hg:w.grownBy ((w.alloc (.cells (aC a) 44)).alloc (.cells (aC b) 44)) (some p):=kR (kR (aQ cX) _) _;rw[World.size_alloc]at hB;have hp1:p≠w.heap.size:=by have:=aB.lt h;omega
 have Fo:p≠w.heap.size+1:=by have:=aB.lt h;omega
 clear h;generalize (w.alloc (.cells (aC a) 44)).alloc (.cells (aC b) 44)=W at*;have cS:=λ y2:Ext W.heap.size W=>cE.ix (aB.later hS y2.h);have cA:=λ y2:Ext W.heap.size W=>aI (hA.later y2.h);have cB:=λ y2:Ext W.heap.size W=>aI (hB.later y2.h);refine aR 12 W.heap.size W cX Taa Taa Taa Taa ?_;simp only[Uab];repeat (go_big_quiet_step (first
  |(go_at_call_of 18 b.k;exact aN aE (dQ b sb _))
  |(go_at_call_of 18 a.k;exact aN aE (dQ a sa _))))
 refine wpQuiet_nil ?_;rintro W4 ⟨y2,fq⟩;have hL:=y2.h;rw[<-fq]at hL;clear cS cA cB fq y2;have TR:=aB.later hS hL;have uJ:=hA.later hL;have ez:=hB.later hL;have hg2:=ba hg (aQ (p:=p) hL);clear hS hA hB hg hL;go_wp2_with fail;refine(aif _ _ _).mono ?_;rintro e w' ⟨rfl,rfl⟩;have hS:=aB.alloc TR (.cells #[af (bC b sb),af (bC a sa)] 3);have hA:=aB.alloc uJ (.cells #[af (bC b sb),af (bC a sa)] 3);have hB:=aB.alloc ez (.cells #[af (bC b sb),af (bC a sa)] 3);have hg:=kR hg2 (.cells #[af (bC b sb),af (bC a sa)] 3);clear TR uJ ez hg2;have HR:=aa (show St.rank ⟨op,all,count,sum,sa,sb,found⟩ a b=pB (bC b sb) (bC a sa)from rfl);rw[HR.ae]at hcv;generalize W4.alloc (.cells #[af (bC b sb),af (bC a sa)] 3)=W3 at*;generalize pB (bC b sb) (bC a sa)=rk at*;have cS:=cE.ix hS;have cA:=aI hA;have cB:=aI hB;have fr:=cE.free hS;have HB:=aa (show St.better ⟨op,all,count,sum,sa,sb,found⟩ a b=(!found||decide ((if op=25\/op=28 then -(St.rank ⟨op,all,count,sum,sa,sb,found⟩ a b)else St.rank ⟨op,all,count,sum,sa,sb,found⟩ a b)< 0))from rfl);by_cases hop:op=25\/op=28
 ·have hor:((op==25)=true)\/((op==25)=false/\(op==28)=true):=by by_cases h25:op=25;exact .inl (by rw[h25];rfl);exact .inr ⟨by rw[beq_eq_false_iff_ne];exact h25,by rw[beq_iff_eq];omega⟩
  cases found
  ·rcases hor with o1|⟨o1,o2⟩;all_goals
    go_wp2_with fail;go_region;go_wp2_with fail;go_end0;rw[HT.ae,if_pos (by rw[HB.ae];rfl)];exact⟨rfl,tN hS,jX (pR hg)⟩
  by_cases zr: -rk<0
  ·have e1:decide (-rk<0)=true:=by simpa using zr
   rcases hor with o1|⟨o1,o2⟩;all_goals
    go_wp2_with fail;go_region;go_wp2_with fail;go_end0;rw[HT.ae,if_pos (by rw[HB.ae,HR.ae,if_pos hop,e1];rfl)];exact⟨rfl,tN hS,jX (pR hg)⟩
  have e1:decide (-rk<0)=false:=by simpa using zr
  rcases hor with o1|⟨o1,o2⟩;all_goals
   go_wp2_with fail;go_end0;rw[HT.ae,if_neg (by rw[HB.ae,HR.ae,if_pos hop,e1];decide)];exact⟨rfl,hS,hg⟩
 have o1:(op==25)=false:=by rw[beq_eq_false_iff_ne];omega
 have o2:(op==28)=false:=by rw[beq_eq_false_iff_ne];omega
 cases found
 ·go_wp2_with fail;go_region;go_wp2_with fail;go_end0;rw[HT.ae,if_pos (by rw[HB.ae];rfl)];exact⟨rfl,tN hS,jX (pR hg)⟩
 by_cases zr:rk<0
 ·have e1:decide (rk<0)=true:=by simpa using zr
  go_wp2_with fail;go_region;go_wp2_with fail;go_end0;rw[HT.ae,if_pos (by rw[HB.ae,HR.ae,if_neg hop,e1];rfl)];exact⟨rfl,tN hS,jX (pR hg)⟩
 have e1:decide (rk<0)=false:=by simpa using zr
 go_wp2_with fail;go_end0;rw[HT.ae,if_neg (by rw[HB.ae,HR.ae,if_neg hop,e1];decide)];exact⟨rfl,hS,hg⟩
theorem acY{p:Nat}{s:St}(h:cE W p s)(n:Int):cE (W.setCell ⟨p,1,none⟩ (af n)) p {s with all:=n}:=by
 have h1:=aB.aW h 1 (af n);have e:s.cells.setIfInBounds 1 (af n)=St.cells {s with all:=n}:=by simp[St.cells]
 rw[e]at h1;exact h1
theorem GN{p:Nat}{s:St}(h:cE W p s)(n:Int):cE (W.setCell ⟨p,2,none⟩ (af n)) p {s with count:=n}:=by
 have h1:=aB.aW h 2 (af n);have e:s.cells.setIfInBounds 2 (af n)=St.cells {s with count:=n}:=by simp[St.cells]
 rw[e]at h1;exact h1
theorem acZ{p:Nat}{s:St}(h:cE W p s)(n:Int):cE ((W.setCell ⟨p,3,none⟩ (.int .u64 (hi n))).setCell ⟨p,4,none⟩ (.int .u64 (lo n))) p {s with sum:=n}:=by
 have h1:=(aB.aW h 3 (.int .u64 (hi n))).aW 4 (.int .u64 (lo n));have e:(s.cells.setIfInBounds 3 (.int .u64 (hi n))).setIfInBounds 4 (.int .u64 (lo n))=St.cells {s with sum:=n}:=by simp[St.cells]
 rw[e]at h1;exact h1
def boxed(w:t_)(a b:Val):t_:=(w.alloc (.cells (aC a) 44)).alloc (.cells (aC b) 44)
theorem oU{w:t_}{p:Nat}{s:St}(h:cE w p s)(a b:Val):cE (boxed w a b) p s:=(aB.alloc h _).alloc _
theorem xa(w:t_)(a b:Val):aB (boxed w a b) w.heap.size 44 (aC a):=(aB.new w _ _).alloc _
theorem TS(w:t_)(a b:Val):aB (boxed w a b) (w.heap.size+1) 44 (aC b):=by have:=aB.new (w.alloc (.cells (aC a) 44)) 44 (aC b);rw[World.size_alloc]at this;exact this
theorem jn(w:t_)(a b:Val)(p:Nat):w.grownBy (boxed w a b) (some p):=kR (kR (aQ cX) _) _
theorem Mz(p:Nat)(s:St)(a b:Val)(w:t_)(h:cE w p s):
  ar 156 #[aw p,.agg (aC a),.agg (aC b)] w λ e w'=>
   e=.returned (.tuple #[])/\cE w' p s/\w.grownBy w' (some p):=by go_enter func156,ntmps156;go_wp2;go_end0;exact⟨rfl,oU h a b,jn w a b p⟩
theorem C2(p:Nat)(s:St)(a b:Val)(w:t_)(h:cE w p s)(h0:0<=s.count)(h1:s.count<4611686018427387904):
  ar 158 #[aw p,.agg (aC a),.agg (aC b)] w λ e w'=>
   e=.returned (.tuple #[])/\cE w' p (s.some_ a)/\w.grownBy w' (some p):=by
 have hS:=oU h a b;have hA:=xa w a b;have cS:=(cE.ix hS).2.2.1;have cA:=(aI hA).1;have fr:=cE.free hS 2;have hg:=jn w a b p;by_cases hk:a.k=0
 ·have HT:=aa (show s.some_ a=s from if_pos hk);have t1:(a.k != 0)=false:=by simp[hk]
  unfold boxed at*;have HS:=aa hS;have HG:=aa hg;clear hS hA hg hk h;go_enter func158,ntmps158;go_wp2;exact Zf9
 have HT:=aa (show s.some_ a= {s with count:=s.count+1} from if_neg hk);have t1:(a.k != 0)=true:=by simp[hk]
 unfold boxed at*;have HS:=aa hS;have HG:=aa hg;clear hS hA hg hk h;go_enter func158,ntmps158;go_wp2;go_end0;rw[HT.ae];exact⟨rfl,GN HS.ae _,aF HG.ae 2 _⟩
theorem ada(p:Nat)(s:St)(a b:Val)(w:t_)(h:cE w p s)(h0:0<=s.count)(h1:s.count<4611686018427387904)(hs0:0<=s.sum)(hs1:s.sum<M*M)(LD: -9223372036854775808<=a.n)(wV:a.n<=9223372036854775807):
  ar 160 #[aw p,.agg (aC a),.agg (aC b)] w λ e w'=>
   e=.returned (.tuple #[])/\cE w' p (s.put a)/\w.grownBy w' (some p):=by
 have hS:=oU h a b;have hA:=xa w a b;have cS:=(cE.ix hS).2.2.1;have cA:=(aI hA).1;have fr:=cE.free hS 2;have hg:=jn w a b p;by_cases hk:a.k=2
 ·have HT:=aa (show s.put a= {s with count:=s.count+1,sum:=mG s.sum (gH a.n)} from if_pos hk);have t1:(a.k==2)=true:=by simp[hk]
  have TR:=GN hS (s.count+1);have uJ:=aB.far hA (p:=⟨p,2,none⟩) (λ e=>by have:=aB.lt h;simp at e;omega) (af (s.count+1));have hg2:=aF hg 2 (af (s.count+1));unfold boxed at*;have HS:=aa TR;have HA:=aa uJ;have HG:=aa hg2;clear hS hA hg hk h TR uJ hg2;go_enter func160,ntmps160;go_wp2_with fail;have hS:=HS.ae;have hA:=HA.ae;have hg:=HG.ae;clear HS HA HG cS cA fr;generalize (World.setCell _ ⟨p,2,none⟩ (af (s.count+1)))=W at*;have cS:=λ y2:Ext W.heap.size W=>cE.ix (aB.later hS y2.h);have cA:=λ y2:Ext W.heap.size W=>aI (hA.later y2.h);have wb:=B8 0 a.n;have hw0:0<=gH a.n:=by unfold gH M;omega
  have hw1:gH a.n<M*M:=by unfold gH M;omega
  refine aR 9 W.heap.size W cX Taa Taa Taa Taa ?_;simp only[Uab];repeat (go_big_quiet_step (first
   |(go_at_call 191;exact aN aE (GD a.n LD wV _))
   |(go_at_call 190;exact aN aE (C1 s.sum (gH a.n) hs0 hs1 hw0 hw1 _))))
  refine wpQuiet_nil ?_;rintro W4 ⟨y2,fq⟩;have hL:=y2.h;rw[<-fq]at hL;clear cS cA fq y2;have TR:=aB.later hS hL;have hg2:=ba hg (aQ (p:=p) hL);have fr:=cE.free TR;have cS:=cE.ix TR;unfold wv;go_wp2_with fail;go_end0;rw[HT.ae];exact⟨rfl,acZ TR _,aF (aF hg2 3 _) 4 _⟩
 have HT:=aa (show s.put a=s from if_neg hk);have t1:(a.k==2)=false:=by simp[hk]
 unfold boxed at*;have HS:=aa hS;have HG:=aa hg;clear hS hA hg hk h;go_enter func160,ntmps160;go_wp2_with fail;exact Zf9
theorem VY(p:Nat)(s:St)(a b:Val)(w:t_)(h:cE w p s):
  ar 163 #[aw p,.agg (aC a),.agg (aC b)] w λ e w'=>
   e=.returned (.tuple #[])/\cE w' p (s.alone a)/\w.grownBy w' (some p):=by
 have hS:=oU h a b;have hA:=xa w a b;have cA:=aI hA;have hg:=jn w a b p;by_cases hk:a.k=0
 ·have HT:=aa (show s.alone a=s from if_pos hk);have t1:(a.k != 0)=false:=by simp[hk]
  unfold boxed at*;have HS:=aa hS;have HG:=aa hg;clear hS hA hg hk h;go_enter func163,ntmps163;go_wp2_with fail;exact Zf9
 have HT:=aa (show s.alone a=s.take a aM from if_neg hk);have t1:(a.k != 0)=true:=by simp[hk]
 unfold boxed at*;have HS:=aa hS;have HG:=aa hg;clear hS hA hg hk h;go_enter func163,ntmps163;go_wp2_with fail;refine(My p s a aM _ HS.ae).mono ?_;exact ZgV
theorem VZ(p:Nat)(s:St)(a b:Val)(w:t_)(h:cE w p s):
  ar 165 #[aw p,.agg (aC a),.agg (aC b)] w λ e w'=>
   e=.returned (.tuple #[])/\cE w' p (s.CI a b)/\w.grownBy w' (some p):=by
 have hS:=oU h a b;have hA:=xa w a b;have hB:=TS w a b;have cA:=aI hA;have cB:=aI hB;have hg:=jn w a b p;by_cases hk:b.k=2
 ·have HT:=aa (show s.CI a b=s.take a b from if_pos hk);have t1:(b.k==2)=true:=by simp[hk]
  unfold boxed at*;have HS:=aa hS;have HG:=aa hg;clear hS hA hB hg hk h;go_enter func165,ntmps165;go_wp2_with fail;refine(My p s a b _ HS.ae).mono ?_;exact ZgV
 have HT:=aa (show s.CI a b=s from if_neg hk);have t1:(b.k==2)=false:=by simp[hk]
 unfold boxed at*;have HS:=aa hS;have HG:=aa hg;clear hS hA hB hg hk h;go_enter func165,ntmps165;go_wp2_with fail;exact Zf9
theorem Qp(w:t_):(zeroValue 192).run prog w=.ok (.agg #[.nilFunc,.nilFunc,af 0]) w:=by exact Zhr
theorem GQ(w:t_)(g:Nat)(es:Array MapEntry)(c:Nat)(hg:w.heap[g]?=some (.map es c))(k:Int)(ok:Bool)(hf:Instr.findNow (.int .u8) (ag k) es.toList 0=some none):
  (Instr.lookup 193 (.map (some g)) (ag k) ok).run prog w=.ok (if ok then .tuple #[.agg #[.nilFunc,.nilFunc,af 0],.bool false] else .agg #[.nilFunc,.nilFunc,af 0]) w:=by unfold Instr.lookup;simp only[Sem.run_bind,run_underlying underlying193,Result.andThen_ok,MapKept.run_getObj_map hg,yI,Instr.findKey,run_underlying underlying5,hf,Sem.run_pure,Qp]
theorem MA(op:Int)(h:op<21\/28<op):Instr.findNow (.int .u8) (ag op) AW.toList 0=some none:=by
 simp only[AW,Instr.findNow,Instr.sameNow];have q:∀k:Int,21<=k->k<=28->(op==k)=false:=λ k h1 h2=>by rw[beq_eq_false_iff_ne];omega
 simp[q 21,q 22,q 23,q 24,q 25,q 26,q 27,q 28]
theorem yQ(op:Int)(w:t_):ar 146 #[ag op] w λ e w'=>e=.returned (.bool (isAgg op))/\ai w w':=by
 have hg:(w.alloc (.map AW 8)).heap[w.heap.size]?=some (.map AW 8):=heap_alloc_new w _;by_cases h:21<=op/\op<=28
 ·obtain⟨i,hi⟩:=BN op h.1 h.2;have hl:=BM _ _ _ _ hg op true i _ hi;have HT:=aa (show isAgg op=true by simp[isAgg,h.1,h.2]);unfold bZ fn at hl;simp only[if_true]at hl;generalize qX op=f1 at*;generalize wW op=f2 at*;generalize Jw op=f3 at*;clear hg hi h;go_enter func146,ntmps146;exact Zcn
 have hl:=GQ _ _ _ _ hg op true (MA op WC);have HT:=aa (show isAgg op=false by simp[isAgg];omega);simp only[if_true]at hl;clear hg h;go_enter func146,ntmps146;exact Zcn
theorem aih(x y z:Value)(w:t_):(Instr.field 192 (.agg #[x,y,z]) 0).run prog w=.ok x w:=by exact Zhr
theorem C3(x y z:Value)(w:t_):(Instr.field 192 (.agg #[x,y,z]) 2).run prog w=.ok z w:=by exact Zhr
def iR(op:Int):Int:=if isAgg op then Jw op else 0
theorem C4(op:Int)(w:t_):ar 187 #[ag op] w λ e w'=>e=.returned (af (iR op))/\ai w w':=by
 have hg:(w.alloc (.map AW 8)).heap[w.heap.size]?=some (.map AW 8):=heap_alloc_new w _;by_cases h:21<=op/\op<=28
 ·obtain⟨i,hi⟩:=BN op h.1 h.2;have hl:=BM _ _ _ _ hg op false i _ hi;have HT:=aa (show iR op=Jw op by unfold iR;rw[if_pos (by simp[isAgg,h.1,h.2])]);unfold bZ fn at hl;simp only[Bool.false_eq_true,if_false]at hl;generalize qX op=f1 at*;generalize wW op=f2 at*;generalize Jw op=f3 at*;clear hg hi h;have f2':=C3;go_enter func187,ntmps187;exact Zcn
 have hl:=GQ _ _ _ _ hg op false (MA op WC);have HT:=aa (show iR op=0 by unfold iR;rw[if_neg (by simp[isAgg];omega)]);simp only[Bool.false_eq_true,if_false]at hl;clear hg h;have f2':=C3;go_enter func187,ntmps187;exact Zcn
theorem Wc(op:Int):(fC op).cells= #[ag op,af 0,af 0,.int .u64 0,.int .u64 0,ag 0,af 0,.string ByteArray.empty,ag 0,af 0,.string ByteArray.empty,.bool false]:=by simp[fC,St.cells,aM,hi,lo]
def adb(op:Int)(w:t_)(e:Ending)(w':t_):Prop:=∃p,w.heap.size<=p/\e=.returned (.tuple #[aw p,af 0])/\cE w' p (fC op)/\ai w w'
theorem ade(op:Int)(w:t_)(h:isAgg op=true):ar 100 #[ag op] w (adb op w):=by have H:=aa h;clear h;go_enter func100,ntmps100;go_wp2_with (go_at_call 146;refine(yQ _ _).mono ?_;rintro e w1 ⟨rfl,b1⟩;rw[H.ae]);go_ret2;exact⟨w1.heap.size,b1.size,rfl,by unfold cE;rw[Wc];exact aB.new w1 _ _,b1.alloc b1.size _⟩
theorem C5(p:Nat)(s:St)(a b:Val)(w:t_)(h:cE w p s)(ok:s.Ok)(ha:a.Ok):
  ar (qX s.op) #[aw p,.agg (aC a),.agg (aC b)] w λ e w'=>
   e=.returned (.tuple #[])/\cE w' p (s.does a b)/\w.grownBy w' (some p):=by
 unfold qX St.does;by_cases h1:s.op=21;rw[if_pos h1,if_pos h1];exact Mz p s a b w h;rw[if_neg h1,if_neg h1];by_cases h2:s.op=22;rw[if_pos h2,if_pos h2];exact C2 p s a b w h ok.yM ok.Jy;rw[if_neg h2,if_neg h2];by_cases h3:s.op=23\/s.op=26;rw[if_pos h3,if_pos h3];exact ada p s a b w h ok.yM ok.Jy ok.acS ok.acT ha.1 ha.2;rw[if_neg h3,if_neg h3];by_cases h4:s.op=24\/s.op=25;rw[if_pos h4,if_pos h4];exact VY p s a b w h;rw[if_neg h4,if_neg h4];exact VZ p s a b w h
theorem FD(args:x_)(w:t_):(callFunc 156 args).run prog w=.ok (.enter 156 args) w:=by exact Zhr
theorem Qq(args:x_)(w:t_):(callFunc 158 args).run prog w=.ok (.enter 158 args) w:=by exact Zhr
theorem We(args:x_)(w:t_):(callFunc 160 args).run prog w=.ok (.enter 160 args) w:=by exact Zhr
theorem MB(args:x_)(w:t_):(callFunc 163 args).run prog w=.ok (.enter 163 args) w:=by exact Zhr
theorem MC(args:x_)(w:t_):(callFunc 165 args).run prog w=.ok (.enter 165 args) w:=by exact Zhr
theorem Qr(op:Int)(args:x_)(w:t_):(callFunc (qX op) args).run prog w=.ok (.enter (qX op) args) w:=by unfold qX;split;exact FD args w;split;exact Qq args w;split;exact We args w;split;exact MB args w;exact MC args w
def TU(p:Nat)(op:Int)(a b:Val):Nat->t_->Value->Prop
 |0=>λ w v=>∃g,v=.map (some g)/\w.heap[g]?=some (.map AW 8)
 |1=>λ _ v=>v=aw p
 |2=>λ _ v=>v=aw p
 |3=>λ _ v=>v=aw p
 |4=>λ _ v=>v=ag op
 |5=>λ _ v=>v=bZ op
 |6=>λ _ v=>v=fn (qX op)
 |7=>λ _ v=>v=aw p
 |8=>λ _ v=>v=.agg (aC a)
 |9=>λ _ v=>v=.agg (aC b)
 |_=>λ _ _=>True
theorem MD(p:Nat)(op:Int)(a b:Val)(i:Nat)(w w':t_)(v:Value)(h:TU p op a b i w v)(hl:aj w w'):TU p op a b i w' v:=by unfold TU at*;exact ZdH
theorem C6(p:Nat)(s:St)(a b:Val)(w:t_)(h:cE w p s)(ok:s.Ok)(hall:s.all<4611686018427387904)(ha:a.Ok):
  ar 103 #[aw p,.agg (aC a),.agg (aC b)] w λ e w'=>
   e=.returned (.tuple #[])/\cE w' p (s.feed a b)/\w.grownBy w' (some p):=by
 have hS:=oU h a b;have hA:=xa w a b;have hB:=TS w a b;have hg:=jn w a b p;have cS:=(cE.ix hS).2.1;have fr:=cE.free hS 1;have q0:=ok.anm;have q1:=hall;have hp:=aB.lt h;have TR:=acY hS (s.all+1);have uJ:=aB.far hA (p:=⟨p,1,none⟩) (λ e=>by simp at e;omega) (af (s.all+1));have ez:=aB.far hB (p:=⟨p,1,none⟩) (λ e=>by simp at e;omega) (af (s.all+1));have hg2:=aF hg 1 (af (s.all+1));unfold boxed at*;have HS:=aa TR;have HA:=aa uJ;have HB:=aa ez;have HG:=aa hg2;clear hS hA hB hg h TR uJ ez hg2 hp;go_enter func103,ntmps103;go_wp2_with fail;have hS:=HS.ae;have hA:=HA.ae;have hB:=HB.ae;have hg:=HG.ae;clear HS HA HB HG cS fr;generalize (World.setCell _ ⟨p,1,none⟩ (af (s.all+1)))=W at*;refine bD 10 (TU p s.op a b) (MD p s.op a b) Taa Taa Taa ?_ ?_
 ·simp only[take_succ_cons,take_zero];refine⟨Zdk,?_,?_,?_,?_,?_,?_,?_,?_,?_,trivial⟩
  ·intro ρ W4 hc hL hr;have h1:_=_:=hr.1;exact Zgl
  intro ρ W4 hc hL hr;have h1:_=_:=hr.1;exact Zda;intro ρ W4 hc hL hr;have h1:_=_:=hr.1;exact Zda;intro ρ W4 hc hL hr;have h1:_=_:=hr.1;have c0:=(cE.ix (aB.later hS hL)).1;exact Zel;intro ρ W4 hc hL hr;obtain⟨g,h1,hgm⟩:∃g,ρ (.tmp 15)=.map (some g)/\W4.heap[g]?=some (.map AW 8):=hr.1;have h2:_=_:=hr.2.1;obtain⟨i,hi⟩:=BN s.op ok.op0 ok.op1;exact Zgv;intro ρ W4 hc hL hr;have h1:_=_:=hr.1;have hf:=aih (fn (qX s.op)) (fn (wW s.op)) (af (Jw s.op)) W4;exact Zio;intro ρ W4 hc hL hr;have h1:_=_:=hr.1;exact Zgl;intro ρ W4 hc hL hr;have h1:_=_:=hr.1;have c0:=aI (hA.later hL);exact Zel;intro ρ W4 hc hL hr;have h1:_=_:=hr.1;have c0:=aI (hB.later hL);exact Zel
 intro W4 hL;simp only[Uab];rintro _ ⟨g,rfl,hgm⟩ _ rfl _ rfl _ rfl _ rfl _ rfl _ rfl _ rfl _ rfl _ rfl;have TR:cE W4 p {s with all:=s.all+1}:=aB.later hS hL;have hg2:=ba hg (aQ (p:=p) hL);have ok2:St.Ok {s with all:=s.all+1}:=⟨ok.op0,ok.op1,by show 0<=s.all+1;omega,by show s.all+1<4611686018427387905;omega,ok.yM,ok.Jy,ok.acS,ok.acT⟩;have hen:=Qr s.op;simp only[bw,Act.put,Uac,fn];go_wp2_with fail;refine(C5 p {s with all:=s.all+1} a b _ TR ok2 ha).mono ?_;rintro e w2 ⟨rfl,hs3,hg3⟩;go_wp2_with fail;go_end0;exact⟨rfl,hs3,ba hg2 hg3⟩
def gI:List Bool->Int
 |[]=> -1
 |b::l=>if b=true then 0 else if gI l<0 then -1 else gI l+1
theorem xd:∀l:List Bool, -1<=gI l
 |[]=>by simp[gI]
 |b::l=>by have:=xd l;unfold gI;split;omega;split<;>omega
theorem yR:∀(l:List Bool) (k:Nat),(∀j,j<k->l.getD j false=false)->(gI l<0↔gI (l.drop k)< 0)/\(0<=gI (l.drop k)->gI l=k+gI (l.drop k))
 |l,0,_=>by simp
 |[],k+1,_=>by simp[gI]
 |b::l,k+1,h=>by
   have h0:b=false:=h 0 WC;obtain⟨h1,h2⟩:=yR l k λ j hj=>h (j+1) WC;have h3:=xd l;rw[drop_succ_cons];subst h0;have e:gI (false::l)=if gI l<0 then -1 else gI l+1:=rfl
   rw[e];constructor;rw[<-h1];split<;>omega;intro h4;have h5:=h2 h4;rw[if_neg WC];omega
theorem xe{l:List Bool}{k:Nat}(h:∀j,j<k->l.getD j false=false)(hk:l[k]?=some true):gI l=k:=by
 obtain⟨h1,h2⟩:=yR l k h;obtain⟨hlt,he⟩:=List.getElem?_eq_some_iff.1 hk;have e:gI (l.drop k)=0:=by rw[drop_eq_getElem_cons hlt,he];rfl
 have:=h2 WC;omega
theorem oV{l:List Bool}(h:∀j,j<l.length->l.getD j false=false):gI l= -1:=by obtain⟨h1,h2⟩:=yR l l.length h;rw[drop_length]at h1;have:=xd l;have:gI l<0:=h1.2 (by simp[gI]);omega
theorem xf(l:List Bool):l.any id=decide (0<=gI l):=by
 induction l with
 |nil=>rfl
 |cons b l ih=>
   rw[any_cons,ih];have h:=xd l;cases b
   ·show decide (0<=gI l)=decide (0<=if gI l<0 then -1 else gI l+1);split
    ·rw[decide_eq_false WC,decide_eq_false WC]
    rw[decide_eq_true WC,decide_eq_true WC]
   rfl
theorem RE.later{w:t_}{A:xP}{l:v_}(h:RE w w.heap.size A l)(hb:ai w w'):RE w' w'.heap.size A l:=(h.below hb).more hb.size
variable{α:Type}
theorem CP{l:List (α×Bool)}{k:Nat}(h:k<l.length):(l.map (·.2)).getD k false=l[k].2:=by rw[getD_eq_getElem?_getD,getElem?_map,getElem?_eq_getElem h];rfl
theorem JE(A:xP)(c:Nat)(args:List (Ex×Bool))(w:t_)(hl:args.length<=1599289640356)(hA:RE w w.heap.size A (args.map (·.1)))(hE:∀a∈args,∀W,ai w W->ar 93 #[.agg (ay a.1)] W λ e w'=>e=.returned (.bool a.2)/\ai W w'):
  ar 150 #[.slice A args.length c,.func (.func 93) #[] #[]] w λ e w'=>e=.returned (af (gI (args.map (·.2))))/\ai w w':=by exact ZaS
theorem AY(A:xP)(c:Nat)(args:List (Ex×Bool))(w:t_)(hl:args.length<=1599289640356)(hA:RE w w.heap.size A (args.map (·.1)))(hE:∀a∈args,∀W,ai w W->ar 93 #[.agg (ay a.1)] W λ e w'=>e=.returned (.bool a.2)/\ai W w'):
  ar 147 #[.slice A args.length c,.func (.func 93) #[] #[]] w λ e w'=>e=.returned (.bool ((args.map (·.2)).any id))/\ai w w':=by have hi:=JE A c args w hl hA hE;rw[xf];clear hA hE;go_enter func147,ntmps147;exact Za5
def zgg.KbC(h:p:=by
 rw[<-hg]at HX⊢;clear hg;have iB:=HX.cell 0;simp only[Uaa]at iB;cases hag:isAgg op
 ·have HI:=aa (yQ op);have HG:=aa hag;clear hag;go_wp2_with fail;refine(HI.ae _).mono ?_;rintro e w1 ⟨rfl,Kx⟩;rw[HG.ae];have c10:=(HX.later Kx).cell 6;simp only[Uaa]at c10;clear iB;go_wp2_with fail;refine(AY A c args w1 hl (HA.ae.later Kx) (λ a ha W hW=>HE.ae a ha W (aj.then Kx hW))).mono ?_;rintro e w2 ⟨rfl,b2⟩;go_wp2_with fail;go_ret;exact⟨by rw[HG.ae,Bool.false_or,any_map];rfl,aj.then (aj.then HB.ae Kx) b2⟩
 have HI:=aa (yQ op);have HG:=aa hag;clear hag;go_wp2_with fail;refine(HI.ae _).mono ?_;rintro e w1 ⟨rfl,Kx⟩;rw[HG.ae];go_wp2_with fail;go_ret;exact⟨by rw[HG.ae,Bool.true_or];rfl,aj.then HB.ae Kx⟩):=h
theorem C7(op:Int)(v:Val)(name:u_)(width:Int)(A:xP)(c:Nat)(args:List (Ex×Bool))(w:t_)(hl:args.length<=1599289640356)(hA:RE w w.heap.size A (args.map (·.1)))(hE:∀a∈args,∀W,ai w W->ar 93 #[.agg (ay a.1)] W λ e w'=>e=.returned (.bool a.2)/\ai W w'):
  ar 93 #[.agg #[ag op,ag v.k,af v.n,.string v.s,.string name,af width,.slice A args.length c]] w λ e w'=>e=.returned (.bool (isAgg op||(args.map (·.2)).any id))/\ai w w':=by
 have bb:=ah w (.cells #[.int .u8 op,.int .u8 v.k,.int .i64 v.n,.string v.s,.string name,.int .i64 width,.slice A args.length c] 46);have HX:=aB.new w 46 #[.int .u8 op,.int .u8 v.k,.int .i64 v.n,.string v.s,.string name,.int .i64 width,.slice A args.length c];have Wf:=hA.later bb;have hE1:=λ a (ha:a∈args) W (hW:Below (w.alloc (.cells #[.int .u8 op,.int .u8 v.k,.int .i64 v.n,.string v.s,.string name,.int .i64 width,.slice A args.length c] 46)).heap.size (w.alloc (.cells #[.int .u8 op,.int .u8 v.k,.int .i64 v.n,.string v.s,.string name,.int .i64 width,.slice A args.length c] 46)) W)=>hE a ha W (aj.then bb hW);have HA:=aa Wf;have HE:=aa hE1;clear hA hE Wf hE1;go_enter func93,ntmps93;have HB:=aa bb;clear bb;open zgg in exact ZeH
mutual
def Tr.has:Tr->Bool
 |.mk op v name width args=>isAgg op||Tr.FE args
def Tr.FE:vI->Bool
 |[]=>false
 |t::ts=>t.has||Tr.FE ts
end
theorem xg:∀ts:vI,(ts.map Tr.has).any id=Tr.FE ts
 |[]=>by simp[Tr.FE]
 |t::ts=>by unfold Tr.FE;rw[map_cons,any_cons,xg ts];rfl
def zY(w:t_)(y:Ex)(b:Bool):Prop:=ar 93 #[nt y] w λ e w'=>e=.returned (.bool b)/\ai w w'
theorem Tr.aii(t:Tr)(y:Ex)(w:t_)(bc:t.ok)(hat:t.at_ w (Old w) y):∀W,ai w W->zY W y t.has:=
 Tr.tell Tr.has (λ _=>True) zY (λ _ _ _ _ _ _ _ _=>trivial) (λ op v name width ts A c args w bc _ hlen hm hA hall hE=>by have B7:=bc;unfold Tr.ok at B7;have h:=C7 op v name width A c args w (by rw[hlen];exact B7.2.1) hA (λ a ha W hW=>hE a ha W hW);rw[hm,xg]at h;unfold zY nt Tr.has;exact h) t y w bc trivial hat
theorem JF(A:xP)(c:Nat)(args:List ((Ex×Value)×Bool))(w:t_)(hl:args.length<=1599289640356)(hA:RI w w.heap.size A (args.map (·.1)))(hE:∀a∈args,∀W,ai w W->ar 92 #[.agg #[ag a.1.1.op,ag a.1.1.v.k,af a.1.1.v.n,.string a.1.1.v.s,.string a.1.1.name,af a.1.1.width,.slice a.1.1.A a.1.1.n a.1.1.c,a.1.2]] W λ e w'=>e=.returned (.bool a.2)/\ai W w'):
  ar 145 #[.slice A args.length c,.func (.func 92) #[] #[]] w λ e w'=>e=.returned (af (gI (args.map (·.2))))/\ai w w':=by have HA:=aa hA;have HE:=aa hE;clear hA hE;go_enter func145,ntmps145;exact ZaX
theorem AZ(A:xP)(c:Nat)(args:List ((Ex×Value)×Bool))(w:t_)(hl:args.length<=1599289640356)(hA:RI w w.heap.size A (args.map (·.1)))(hE:∀a∈args,∀W,ai w W->ar 92 #[.agg #[ag a.1.1.op,ag a.1.1.v.k,af a.1.1.v.n,.string a.1.1.v.s,.string a.1.1.name,af a.1.1.width,.slice a.1.1.A a.1.1.n a.1.1.c,a.1.2]] W λ e w'=>e=.returned (.bool a.2)/\ai W w'):
  ar 91 #[.slice A args.length c,.func (.func 92) #[] #[]] w λ e w'=>e=.returned (.bool ((args.map (·.2)).any id))/\ai w w':=by have hi:=JF A c args w hl hA hE;rw[xf];clear hA hE;go_enter func91,ntmps91;exact Za5
def zbl.Kae(h:p:=by go_wp2_with fail;refine HH.ae.mono ?_;exact Zew):=h
theorem Qs(y:Ex)(z:Value)(b:Bool)(w:t_)(h:∀W,ai w W->zY W y b):
  ar 92 #[.agg #[ag y.op,ag y.v.k,af y.v.n,.string y.v.s,.string y.name,af y.width,.slice y.A y.n y.c,z]] w λ e w'=>e=.returned (.bool b)/\ai w w':=by have bb:=ah w (.cells #[ag y.op,ag y.v.k,af y.v.n,.string y.v.s,.string y.name,af y.width,.slice y.A y.n y.c,z] 48);have k1:=aB.new w 48 #[ag y.op,ag y.v.k,af y.v.n,.string y.v.s,.string y.name,af y.width,.slice y.A y.n y.c,z];have hh:=h _ bb;have CQ:=aa bb;clear bb;unfold zY nt at hh;have HH:=aa hh;clear h hh;go_enter func92,ntmps92;go_upto_region 1 with fail;generalize Oe:w.alloc _=W1 at*;obtain⟨g,iJ⟩:∃g,g=w.heap.size:=⟨_,rfl⟩;rw[<-iJ]at k1⊢;clear iJ Oe;open zbl in exact Zay
theorem JG(A:xP)(c:Nat)(args:List ((Ex×Value)×Bool))(w:t_)(hl:args.length<=1599289640356)(hA:RI w w.heap.size A (args.map (·.1)))(hE:∀a∈args,∀W,ai w W->ar 95 #[.agg #[ag a.1.1.op,ag a.1.1.v.k,af a.1.1.v.n,.string a.1.1.v.s,.string a.1.1.name,af a.1.1.width,.slice a.1.1.A a.1.1.n a.1.1.c,a.1.2]] W λ e w'=>e=.returned (.bool a.2)/\ai W w'):
  ar 148 #[.slice A args.length c,.func (.func 95) #[] #[]] w λ e w'=>e=.returned (af (gI (args.map (·.2))))/\ai w w':=by have HA:=aa hA;have HE:=aa hE;clear hA hE;go_enter func148,ntmps148;exact ZaX
theorem Bb(A:xP)(c:Nat)(args:List ((Ex×Value)×Bool))(w:t_)(hl:args.length<=1599289640356)(hA:RI w w.heap.size A (args.map (·.1)))(hE:∀a∈args,∀W,ai w W->ar 95 #[.agg #[ag a.1.1.op,ag a.1.1.v.k,af a.1.1.v.n,.string a.1.1.v.s,.string a.1.1.name,af a.1.1.width,.slice a.1.1.A a.1.1.n a.1.1.c,a.1.2]] W λ e w'=>e=.returned (.bool a.2)/\ai W w'):
  ar 94 #[.slice A args.length c,.func (.func 95) #[] #[]] w λ e w'=>e=.returned (.bool ((args.map (·.2)).any id))/\ai w w':=by have hi:=JG A c args w hl hA hE;rw[xf];clear hA hE;go_enter func94,ntmps94;exact Za5
def zbm.Kae(h:p:=by go_wp2_with fail;refine HH.ae.mono ?_;exact Zew):=h
theorem Qt(y:Ex)(z:Value)(b:Bool)(w:t_)(h:∀W,ai w W->zY W y b):
  ar 95 #[.agg #[ag y.op,ag y.v.k,af y.v.n,.string y.v.s,.string y.name,af y.width,.slice y.A y.n y.c,z]] w λ e w'=>e=.returned (.bool b)/\ai w w':=by have bb:=ah w (.cells #[ag y.op,ag y.v.k,af y.v.n,.string y.v.s,.string y.name,af y.width,.slice y.A y.n y.c,z] 117);have k1:=aB.new w 117 #[ag y.op,ag y.v.k,af y.v.n,.string y.v.s,.string y.name,af y.width,.slice y.A y.n y.c,z];have hh:=h _ bb;have CQ:=aa bb;clear bb;unfold zY nt at hh;have HH:=aa hh;clear h hh;go_enter func95,ntmps95;go_upto_region 1 with fail;generalize Oe:w.alloc _=W1 at*;obtain⟨g,iJ⟩:∃g,g=w.heap.size:=⟨_,rfl⟩;rw[<-iJ]at k1⊢;clear iJ Oe;open zbm in exact Zay
structure Qy where
 items:List (Tr×u_)
 bU:u_
 only:Bool
 bQ:vI
 aG:vI
 fE:vI
 ord:List (Tr×Bool)
 lim:List Int
structure Sl where
 A:xP
 n:Nat
 c:Nat
structure QL where
 i:Sl
 w:Sl
 g:Sl
 h:Sl
 o:Sl
 l:Sl
def oF(q:Qy)(L:QL):Value:=.agg #[.slice L.i.A L.i.n L.i.c,.string q.bU,.bool q.only,.slice L.w.A L.w.n L.w.c,.slice L.g.A L.g.n L.g.c,.slice L.h.A L.h.n L.h.c,.slice L.o.A L.o.n L.o.c,.slice L.l.A L.l.n L.l.c]
def ft(q:Qy)(L:QL):x_:= #[.slice L.i.A L.i.n L.i.c,.string q.bU,.bool q.only,.slice L.w.A L.w.n L.w.c,.slice L.g.A L.g.n L.g.c,.slice L.h.A L.h.n L.h.c,.slice L.o.A L.o.n L.o.c,.slice L.l.A L.l.n L.l.c]
def Wh(w:t_)(B:Nat)(A:xP)(l:List Int):Prop:=l=[]\/∃b off,A=some ⟨b,off,none⟩/\b<B/\∀i x,l[i]?=some x->w.cell? ⟨b,off+i,none⟩=some (af x)
theorem Wh.later{w:t_}{A:xP}{l:List Int}(h:Wh w w.heap.size A l)(hb:ai w w'):Wh w' w'.heap.size A l:=by rcases h with h|⟨b,off,h1,h2,h3⟩;exact Zis;exact .inr ⟨b,off,h1,eS h2 hb.size,λ i x hx=>(hb.cell (p:=⟨b,off+i,none⟩) h2).trans (h3 i x hx)⟩
structure su (W:t_) (q:Qy) (L:QL):Prop where
 i:fh W (q.items.map λ x=>(x.1,.string x.2)) L.i.A L.i.n
 w:ib W q.bQ L.w.A L.w.n
 g:ib W q.aG L.g.A L.g.n
 h:ib W q.fE L.h.A L.h.n
 o:fh W (q.ord.map λ x=>(x.1,.bool x.2)) L.o.A L.o.n
 l:L.l.n=q.lim.length/\Wh W W.heap.size L.l.A q.lim
theorem su.later{w:t_}{q:Qy}{L:QL}(h:su w q L)(hb:ai w w'):su w' q L:=
 ⟨h.i.later hb,h.w.later hb,h.g.later hb,h.h.later hb,h.o.later hb,h.l.1,h.l.2.later hb⟩
structure Qy.Ok (q:Qy):Prop where
 i:Tr.cO (q.items.map (·.1))
 w:Tr.cO q.bQ
 g:Tr.cO q.aG
 h:Tr.cO q.fE
 o:Tr.cO (q.ord.map (·.1))
 ni:q.items.length<=1599289640356
 nw:q.bQ.length<=1599289640356
 ng:q.aG.length<=1599289640356
 nh:q.fE.length<=1599289640356
 no:q.ord.length<=1599289640356
def Qy.aJ(q:Qy):Bool:=decide (0<q.aG.length+q.fE.length)||Tr.FE (q.items.map (·.1))||Tr.FE (q.ord.map (·.1))
theorem JH:∀(ts:vI) (ys:List (Ex×Value)) (w:t_),Tr.cO ts->Tr.aO w (Old w) ts (ys.map (·.1))->∃args:List ((Ex×Value)×Bool),args.map (·.1)=ys/\args.map (·.2)=ts.map Tr.has/\∀a∈args,∀W,ai w W->zY W a.1.1 a.2
 |[],ys,w,_,hat=>by
   unfold Tr.aO at hat;have:ys=[]:=by simpa using hat
   subst this;exact⟨[],rfl,rfl,by simp⟩
 |t::ts,ys,w,bc,hat=>by
   unfold Tr.aO at hat;unfold Tr.cO at bc;obtain⟨y,ys',h1,h2,h3⟩:=hat;cases ys with
   |nil=>cases h1
   |cons z ys=>
     rw[map_cons]at h1;injection h1 with e1 e2;subst e1 e2;obtain⟨l,fI,hl2,uW⟩:=JH ts ys w bc.2 h3;refine⟨(z,t.has)::l,by simp[fI],by simp[hl2],λ a ha W hW=>?_⟩;rcases List.mem_cons.1 ha with rfl|ha;exact Tr.aii t z.1 w bc.1 h2 W hW;exact uW a ha W hW
theorem C8{l:List (Tr×Value)}{A:xP}{n:Nat}(c:Nat){w:t_}(h:fh w l A n)(bc:Tr.cO (l.map (·.1)))(hl:l.length<=1599289640356):
  ar 91 #[.slice A n c,.func (.func 92) #[] #[]] w λ e w'=>e=.returned (.bool (Tr.FE (l.map (·.1))))/\ai w w':=by
 obtain⟨rfl,ys,h2,h3,h4⟩:=h;obtain⟨args,a1,a2,a3⟩:=JH _ ys w bc h4;have hlen:args.length=l.length:=by have:=congrArg List.length a2;simpa using this
 have h:=AZ A c args w WC (by rw[a1];exact h2) (λ a ha W hW=>Qs a.1.1 a.1.2 a.2 W (λ W2 hW2=>a3 a ha W2 (aj.then hW hW2)));rw[hlen,a2,xg]at h;exact h
theorem C9{l:List (Tr×Value)}{A:xP}{n:Nat}(c:Nat){w:t_}(h:fh w l A n)(bc:Tr.cO (l.map (·.1)))(hl:l.length<=1599289640356):
  ar 94 #[.slice A n c,.func (.func 95) #[] #[]] w λ e w'=>e=.returned (.bool (Tr.FE (l.map (·.1))))/\ai w w':=by
 obtain⟨rfl,ys,h2,h3,h4⟩:=h;obtain⟨args,a1,a2,a3⟩:=JH _ ys w bc h4;have hlen:args.length=l.length:=by have:=congrArg List.length a2;simpa using this
 have h:=Bb A c args w WC (by rw[a1];exact h2) (λ a ha W hW=>Qt a.1.1 a.1.2 a.2 W (λ W2 hW2=>a3 a ha W2 (aj.then hW hW2)));rw[hlen,a2,xg]at h;exact h
def zgh.KbC(h:p:=by
 rw[<-hg]at HX⊢;clear hg;have iB:=HX.cell 0;have x4:=HX.cell 4;have x5:=HX.cell 5;have c10:=HX.cell 6;simp only[Uaa]at iB x4 x5 c10;rw[NG.ae]at x4;rw[NH.ae]at x5;by_cases h1:0<q.aG.length+q.fE.length
 ·have t1:=decide_eq_true (show(0:Int)<(q.aG.length:Int)+(q.fE.length:Int) by omega);have t2:=decide_eq_true h1;have HT:=aa (show(decide (0<q.aG.length+q.fE.length))=true from t2);clear h1 t2;go_wp2_with fail;go_ret;exact⟨by unfold Qy.aJ;rw[HT.ae,Bool.true_or,Bool.true_or];rfl,HB.ae⟩
 have t1:=decide_eq_false (show¬(0:Int)<(q.aG.length:Int)+(q.fE.length:Int) by omega);have HT:=aa (decide_eq_false h1);clear h1;have hi:=C8 L.i.c HQ.ae.i (by rw[map_map];exact iT.ae.i) (by rw[length_map];exact iT.ae.ni);have e1:((q.items.map λ x=>(x.1,Value.string x.2)).map (·.1))=q.items.map (·.1):=by rw[map_map];rfl
 have e2:((q.ord.map λ x=>(x.1,Value.bool x.2)).map (·.1))=q.ord.map (·.1):=by rw[map_map];rfl
 rw[e1]at hi;obtain⟨bi,hbi⟩:∃b,b=Tr.FE (q.items.map (·.1)):=⟨_,rfl⟩;rw[<-hbi]at hi;have HI:=aa hi;have HBI:=aa hbi;have E2:=aa e2;clear hi hbi e1 e2;go_wp2_with fail;refine HI.ae.mono ?_;rintro e KK ⟨rfl,Kx⟩;cases bi
 ·have ho:=C9 L.o.c (HQ.ae.o.later Kx) (by rw[E2.ae];exact iT.ae.o) (by rw[length_map];exact iT.ae.no);rw[E2.ae]at ho;have HH:=aa ho;clear ho;have c10:=(HX.later Kx).cell 6;simp only[Uaa]at c10;clear iB x4 x5;go_wp2_with fail;refine HH.ae.mono ?_;rintro e w1 ⟨rfl,b1⟩;go_wp2_with fail;go_ret;exact⟨by unfold Qy.aJ;rw[HT.ae,<-HBI.ae,Bool.false_or,Bool.false_or];rfl,aj.then (aj.then HB.ae Kx) b1⟩
 go_wp2_with fail;go_ret;exact⟨by unfold Qy.aJ;rw[HT.ae,<-HBI.ae,Bool.false_or,Bool.true_or];rfl,aj.then HB.ae Kx⟩):=h
theorem ME(q:Qy)(L:QL)(w:t_)(hq:su w q L)(bc:q.Ok):ar 54 #[oF q L] w λ e w'=>e=.returned (.bool q.aJ)/\ai w w':=by have bb:=ah w (.cells (ft q L) 27);have HX:=aB.new w 27 (ft q L);have LC:=hq.later bb;have NG:=aa hq.g.n;have NH:=aa hq.h.n;have kg:=bc.ng;have kh:=bc.nh;have HQ:=aa LC;have iT:=aa bc;clear hq LC bc;unfold oF;unfold ft at HX bb HQ;go_enter func54,ntmps54;have HB:=aa bb;clear bb;open zgh in exact ZeH
def D4(u:Nat->Value)(ch:List Nat)(vs:xr)(i:Nat)(_:t_)(v:Value):Prop:=
 match ch.idxOf? i with
 |some k=>vs[k]?=some v
 |none=>v=u i
def lZ(l:List Oper):List Nat->Bool
 |a::b::r=>(match l[b]? with|some o=>iM o a|none=>false)&&lZ l (b::r)
 |_=>true
def TV(P:Program)(l:List Oper)(u:Nat->Value)(ch:List Nat)(G:xr->t_->Prop)(a0:Act)(i:Nat)(o:Oper):Prop:=
 ∀ρ w vs,gD ρ->G vs w->dW l (D4 u ch vs) a0.eval ρ w o (tmpsOf o)->o.guard=none/\
  match ch.idxOf? i with
  |none=>(execOp ρ o).run P w=.ok (.value (u i)) w
  |some k=>vs.length=k->uj P o ρ w λ v w'=>G (vs++[v]) w'
def Qv(P:Program)(l:List Oper)(u:Nat->Value)(ch:List Nat)(G:xr->t_->Prop)(a0:Act):List Oper->Nat->Prop
 |[],_=>True
 |o::rest,i=>TV P l u ch G a0 i o/\Qv P l u ch G a0 rest (i+1)
variable{P:Program}{L:List Oper}{ch:List Nat}{a0:Act}
theorem GR{u:Nat->Value}{G:xr->t_->Prop}:∀{l:List Oper}{k:Nat},Qv P L u ch G a0 l k->∀i o,l[i]?=some o->TV P L u ch G a0 (k+i) o
 |[],_,_,i,o,h=>by simp at h
 |x::l,k,hs,0,o,h=>by simp at h;subst h;exact hs.1
 |x::l,k,hs,i+1,o,h=>by have:=GR hs.2 i o Taj;rwa [show k+1+i=k+(i+1) by omega]at this
theorem MF{i k:Nat}(h:ch.idxOf? i=some k):ch[k]?=some i:=by rw[List.idxOf?,findIdx?_eq_some_iff_getElem]at h;obtain⟨hk,h1,_⟩:=h;rw[getElem?_eq_getElem hk];simpa using h1
theorem MG{i:Nat}(h:ch.idxOf? i=none):i∉ch:=by intro hm;rw[List.idxOf?,findIdx?_eq_none_iff]at h;have:=h i hm;simp at this
theorem aij(hn:ch.Nodup){i k:Nat}(h:ch[k]?=some i):ch.idxOf? i=some k:=by
 obtain⟨hk,he⟩:=List.getElem?_eq_some_iff.1 h;cases hc:ch.idxOf? i with
 |none=>exact absurd (mem_of_getElem? h) (MG hc)
 |some k'=>have h2:=MF hc;obtain⟨TC,he'⟩:=List.getElem?_eq_some_iff.1 h2;congr 1;exact(getElem_inj hn).1 (he'.trans he.symm)
theorem GU{l:List Oper}:∀{ch:List Nat}{k a b:Nat},lZ l ch=true->ch[k]?=some a->ch[k+1]?=some b->∃o,l[b]?=some o/\iM o a=true
 |[],_,_,_,_,h,_=>by simp at h
 |[x],0,_,_,_,_,h=>by simp at h
 |[x],_+1,_,_,_,h,_=>by simp at h
 |x::y::r,0,a,b,hc,h1,h2=>by simp at h1 h2;subst h1 h2;simp only[lZ,Bool.and_eq_true]at hc;have:=hc.1;split at this;rename_i o ho;exact⟨o,ho,this⟩;cases this
 |x::y::r,k+1,a,b,hc,h1,h2=>by simp only[lZ,Bool.and_eq_true]at hc;exact GU hc.2 Ta9 Ta8
variable{V V':Nat->t_->Value->Prop}{R:t_->t_->Prop}{listed:Array Bool}
theorem Inv.imp{l:List Oper}{a:Act}{w:t_}(I:Inv l V R a0 w0 m listed a w)(h:∀i w v,V i w v->V' i w v):Inv l V' R a0 w0 m listed a w:=
 ⟨I.r,I.defers,I.size,I.old,λ i o d h1 h2 h3=>h _ _ _ (I.new i o d h1 h2 h3),I.closed,I.len,I.tail⟩
variable{vs:xr}
theorem D5{u:Nat->Value}(v:Value)(i:Nat)(w:t_)(x:Value)(h:D4 u ch vs i w x):D4 u ch (vs++[v]) i w x:=by
 unfold D4 at*;cases hk:ch.idxOf? i with
 |some k=>rw[hk]at h;simp only at h⊢;obtain⟨hlt,_⟩:=List.getElem?_eq_some_iff.1 h;rw[getElem?_append_left hlt];exact h
 |none=>rw[hk]at h;exact h
section
variable{P:Program}{l zs:List Oper}{Q:y_}{u:Nat->Value}{ch:List Nat}{G:xr->t_->Prop}{a0:Act}{w0:t_}
def zb3.Kal(h:p:=by
 have hK:=yH (V:=D4 u ch vs) (λ d=>a.eval (.tmp d)) l 0 a0 (λ i o d hi hd=>by
  rw[Nat.zero_add];have qQ:i<l.length:=by rcases gR i l.length with h'|h';exact h';rw[getElem?_eq_none h']at hi;cases hi
  exact I.new i o d hi (hall i qQ) hd) hf
 rw[<-ha]at hK;exact Zbq):=h
theorem GV{N:Nat}(vs:xr)(bc:dC l N l 0=true)(hz:eD (l++zs) zs l.length=true){listed:Array Bool}{a:Act}{w:t_}(hf:bw (D4 u ch vs) (λ a w=>wpList P (l++zs).toArray Q zs a w) l 0 a0 w)(I:Inv l (D4 u ch vs) (λ _ _=>True) a0 w0 (l++zs).length listed a w)
  (h0:bB l.length listed=0):wpAny P .any (l++zs).toArray Q zs.length listed a w:=by
 open zb3 in exact ZaG
def zfo.Kbf(h:p:=by
 cases Pp:ch.idxOf? i with
 |none=>
   simp only[Pp]at hstep;refine jV (T:=λ v w'=>v=u i/\w'=w) (aq hstep ⟨rfl,rfl⟩) ?_;rintro v w' ⟨rfl,rfl⟩;refine ih _ _ _ vs (I.step bc (λ _ _ _ _ h _=>h) (λ _ _ _ _ _=>trivial) wE AJ Cl fw trivial ?_) hg ?_ hvl D8;unfold D4;simp only[Pp];intro k i' hk;have hne:i'≠i:=λ e=>MG Pp (e▸mem_of_getElem? hk);rw[eR _ _ _ D7,if_neg hne];exact cj k i' hk
 |some k=>
   simp only[Pp]at hstep;have hck:=MF Pp;have hvk:vs.length=k:=by
    have h1:¬k<vs.length:=λ h=>by have:=(cj k i hck).2 h;rw[Cl]at this;cases this
    match k,hck,h1 with
    |0,_,h1=>omega
    |k+1,hck,h1=>obtain⟨BJ,_⟩:=List.getElem?_eq_some_iff.1 hck;have hp:ch[k]?=some ch[k]:=getElem?_eq_getElem WC;obtain⟨o',Cn,he⟩:=GU hch hp hck;rw[wE]at Cn;injection Cn with Cn;subst Cn;have:=(cj k _ hp).1 (fw _ (cM.1 he));omega
   refine jV (hstep hvk) ?_;intro v w' Tz;have I':=(I.imp (λ Kx w x h=>D5 (ch:=ch) (u:=u) v Kx w x h));refine ih _ _ _ (vs++[v]) (I'.step bc (λ _ _ _ _ h _=>h) (λ _ _ _ _ _=>trivial) wE AJ Cl fw trivial ?_) Tz ?_ ?_ D8;unfold D4;simp only[Pp];rw[<-hvk];simp
   ·intro k' i' TC;rw[eR _ _ _ D7,length_append,length_singleton];by_cases kE:i'=i
    ·subst kE;have:=aij Po TC;rw[Pp]at this;injection this with this;simp only[if_true,true_iff];omega
    rw[if_neg kE,cj k' i' TC];have hne:k'≠k:=λ e=>kE (by rw[e,hck]at TC;injection TC with TC;exact TC.symm);omega
   obtain⟨BJ,_⟩:=List.getElem?_eq_some_iff.1 hck;simp;omega):=h
def zam.Kb(h:p:=by have hst:=GR hs i oj wE;rw[Nat.zero_add]at hst;have YH:=Inv.reads bc I wE Cl fw (tmpsOf oj) (λ _ h=>h);obtain⟨hgd,hstep⟩:=hst a.eval w vs (nG a) hg YH;open zfo in exact Zdz):=h
theorem pS{id:Nat}{ops:List Oper}(zs:List Oper)(l:List Oper)(jN:ops=l++zs)(u:Nat->Value)(ch:List Nat)(G:xr->t_->Prop)(oJ:∀vs w,G vs w->G vs w.drew)(hG:G [] w0)
  (hm:P.follows .mixedOrders=true) (bc:dC l a0.tmps.size l 0=true) (hz:eD (l++zs) zs l.length=true) (hch:lZ l ch=true) (Po:ch.Nodup) (LO:ch.all (λ Kx=>decide (Kx<l.length))=true)
  (hs:Qv P l u ch G a0 l 0) (hf:∀vs w,vs.length=ch.length->G vs w->bw (D4 u ch vs) (λ a w=>wpList P ops.toArray Q zs a w) l 0 a0 w):(Code.region id ops.toArray true).wp P Q a0 w0:=by
 subst jN;have main:∀(fuel:Nat) (listed:Array Bool) (a:Act) (w:t_) (vs:xr),Inv l (D4 u ch vs) (λ _ _=>True) a0 w0 (l++zs).length listed a w->G vs w->(∀k Kx,ch[k]?=some Kx->(listed.getD Kx false=true↔k<vs.length))->vs.length<=ch.length->fuel=bB l.length listed+zs.length->wpAny P .any (l++zs).toArray Q fuel listed a w:=by
  intro fuel
  induction fuel with
  |zero=>
    intro listed a w vs I hg cj hvl hfu;have h0:bB l.length listed=0:=WC;have hz0:zs.length=0:=WC;have hall:=eh h0;have hvs:vs.length=ch.length:=by exact Zdx
    have:=GV vs bc hz (hf vs w hvs hg) I h0;rwa [hz0]at this
  |succ fuel ih=>
    intro listed a w vs I hg cj hvl hfu;by_cases h0:bB l.length listed=0
    ·have hall:=eh h0;have hvs:vs.length=ch.length:=by exact Zdx
     have:=GV vs bc hz (hf vs w hvs hg) I h0;exact Zf8
    open zam in exact Zad
 refine wp_region_any hm ?_;have:=main (l++zs).toArray.size (Array.replicate (l++zs).toArray.size false) a0 w0.drew [] ⟨trivial,rfl,rfl,λ _ _=>rfl,(λ Kx o d _ h=>by rw[br]at h;cases h),(λ Kx o _ h=>by rw[br]at h;cases h),by simp,λ Kx _=>br _ _⟩ (oJ _ _ hG) (λ k Kx _=>by rw[br];simp) Tad (by
  have:bB l.length (Array.replicate (l++zs).toArray.size false)=l.length:=by unfold bB;rw[List.filter_eq_self.2 (λ Kx _=>by rw[br];rfl),length_range]
  rw[this];simp)
 exact this
end
section
variable{α:Type}{c:α->α->Int}
theorem Good.agk(h:Good c){x y z:α}(h1:c x y<0)(h2:c y z<=0):c x z<0:=by rcases Int.lt_or_le (c x z) 0 with h3|h3;exact h3;have:=h.jq x z;have:=h.trans y z x h2 WC;have:=h.jq x y;omega
def iU(c:α->α->Int)(k:α):List α->List α
 |[]=>[k]
 |x::xs=>if c x k<0 then x::iU c k xs else if c x k=0 then x::xs else k::x::xs
def zZ(c:α->α->Int)(l:List α):List α:=l.foldl (λ ks k=>iU c k ks) []
theorem MH(hz:∀x y,c x y=0->x=y)(k y:α):∀l,y∈iU c k l↔y=k\/y∈l
 |[]=>by simp[iU]
 |x::xs=>by
   unfold iU;split
   ·rw[mem_cons,MH hz k y xs,mem_cons];constructor
    ·rintro(h|h|h)
     ·exact .inr (.inl h)
     exact .inl h;exact .inr (.inr h)
    rintro(h|h|h);exact .inr (.inl h);exact .inl h;exact .inr (.inr h)
   split;rename_i h;have:=hz _ _ h;subst this;simp;simp
theorem TW(hg:Good c)(k z:α):∀l:List α,c z k<0->(∀y∈l,c z y<0)->∀y∈iU c k l,c z y<0
 |[],h,_,y,hy=>by simp[iU]at hy;rw[hy];exact h
 |x::xs,h,ha,y,hy=>by
   unfold iU at hy;split at hy
   ·rcases List.mem_cons.1 hy with rfl|hy
    ·exact ha _ (mem_cons_self ..)
    exact TW hg k z xs h (λ y hy=>ha y (mem_cons_of_mem _ hy)) y hy
   split at hy;exact ha y hy;rcases List.mem_cons.1 hy with rfl|hy;exact h;exact ha y hy
theorem Aa(hg:Good c)(k:α):∀l:List α,l.Pairwise (λ a b=>c a b<0)->(iU c k l).Pairwise (λ a b=>c a b<0)
 |[],_=>by simp[iU]
 |x::xs,h=>by
   rw[pairwise_cons]at h;unfold iU;split;rename_i h1;rw[pairwise_cons];exact⟨TW hg k x xs h1 h.1,Aa hg k xs h.2⟩;split;rw[pairwise_cons];exact h;rename_i h1 h2;have h3:c k x<0:=by have:=hg.jq x k;omega
   rw[pairwise_cons,pairwise_cons];refine⟨λ y hy=>?_,h⟩;rcases List.mem_cons.1 hy with rfl|hy;exact h3;exact hg.agk h3 (by have:=h.1 y hy;omega)
theorem CS(hg:Good c)(hz:∀x y,c x y=0->x=y):∀(l s:List α),s.Pairwise (λ a b=>c a b<0)->(l.foldl (λ ks k=>iU c k ks) s).Pairwise (λ a b=>c a b<0)/\∀y,y∈l.foldl (λ ks k=>iU c k ks) s↔y∈l\/y∈s
 |[],s,h=>⟨h,λ y=>by simp⟩
 |x::l,s,h=>by
   obtain⟨h1,h2⟩:=CS hg hz l (iU c x s) (Aa hg x s h);refine⟨h1,λ y=>?_⟩;rw[foldl_cons,h2 y,MH hz,mem_cons];constructor
   ·rintro(h|h|h)
    ·exact .inl (.inr h)
    exact .inl (.inl h);exact .inr h
   rintro((h|h)|h);exact .inr (.inl h);exact .inl h;exact .inr (.inr h)
theorem oX(hg:Good c)(hz:∀x y,c x y=0->x=y)(l:List α):(zZ c l).Pairwise (λ a b=>c a b<0)/\∀y,y∈zZ c l↔y∈l:=by have:=CS hg hz l [] .nil;exact⟨this.1,λ y=>by rw[zZ,this.2 y];simp⟩
theorem CT(hg:Good c):∀(l m:List α),l.Pairwise (λ a b=>c a b<0)->m.Pairwise (λ a b=>c a b<0)->(∀y,y∈l↔y∈m)->l=m
 |[],[],_,_,_=>rfl
 |[],y::m,_,_,h=>by have:=(h y).2 (mem_cons_self ..);cases this
 |x::l,[],_,_,h=>by have:=(h x).1 (mem_cons_self ..);cases this
 |x::l,y::m,h1,h2,h=>by
   rw[pairwise_cons]at h1 h2;have hr:∀a:α,c a a=0:=λ a=>by have:=hg.jq a a;omega
   have e:x=y:=by rcases List.mem_cons.1 ((h x).1 (mem_cons_self ..))with e|e;exact e;rcases List.mem_cons.1 ((h y).2 (mem_cons_self ..))with e2|e2;exact e2.symm;have a:=h2.1 x e;have b:=h1.1 y e2;have:=hg.jq x y;omega
   subst e;congr 1;refine CT hg l m h1.2 h2.2 λ z=>⟨λ hz=>?_,λ hz=>?_⟩
   ·rcases List.mem_cons.1 ((h z).1 (mem_cons_of_mem _ hz))with e|e
    ·subst e;have:=h1.1 z hz;rw[hr]at this;omega
    exact e
   rcases List.mem_cons.1 ((h z).2 (mem_cons_of_mem _ hz))with e|e;subst e;have:=h2.1 z hz;rw[hr]at this;omega;exact e
def Qw(c:α->α->Int)(x:α):List α->List α
 |[]=>[x]
 |y::ys=>if c x y<=0 then x::y::ys else y::Qw c x ys
def D9(c:α->α->Int)(l:List α):List α:=l.foldr (Qw c) []
theorem yS(c:α->α->Int)(x:α):∀l:List α,(Qw c x l).Perm (x::l)
 |[]=>.refl _
 |y::ys=>by unfold Qw;split;exact .refl _;exact((yS c x ys).cons y).trans (.swap x y ys)
theorem iV(c:α->α->Int):∀l:List α,(D9 c l).Perm l
 |[]=>.refl _
 |x::l=>(yS c x _).trans ((iV c l).cons x)
theorem Ab(hg:Good c)(x:α):∀l:List α,l.Pairwise (λ a b=>c a b<=0)->(Qw c x l).Pairwise (λ a b=>c a b<=0)
 |[],_=>by simp[Qw]
 |y::ys,h=>by
   have h':=h;rw[pairwise_cons]at h;unfold Qw;split
   ·rename_i h1;rw[pairwise_cons];refine⟨λ z hz=>?_,h'⟩;rcases List.mem_cons.1 hz with rfl|hz
    ·exact h1
    exact hg.trans _ _ _ h1 (h.1 z hz)
   rename_i h1;rw[pairwise_cons];refine⟨λ z hz=>?_,Ab hg x ys h.2⟩;rcases List.mem_cons.1 ((yS c x ys).mem_iff.1 hz)with rfl|hz;have:=hg.jq z y;omega;exact h.1 z hz
theorem pT(hg:Good c):∀l:List α,(D9 c l).Pairwise (λ a b=>c a b<=0)
 |[]=>.nil
 |x::l=>Ab hg x _ (pT hg l)
theorem Qx{β:Type}(hg:Good c)(f:α->β)(hf:∀x y,c x y=0->f x=f y):∀(l m:List α),l.Perm m->l.Pairwise (λ a b=>c a b<=0)->m.Pairwise (λ a b=>c a b<=0)->l.map f=m.map f:=by
 have hr:∀a:α,c a a=0:=λ a=>by have:=hg.jq a a;omega
 intro l
 induction l with
 |nil=>intro m h _ _;rw[h.nil_eq]
 |cons x l ih=>
   intro m h h1 h2;rw[pairwise_cons]at h1;cases m with
   |nil=>exact absurd h.symm.nil_eq Tad
   |cons y m=>
     have Fk:=h2;rw[pairwise_cons]at h2;have hxy:c x y=0:=by
      have a:c x y<=0:=by rcases List.mem_cons.1 (h.mem_iff.2 (mem_cons_self ..):y∈x::l)with e|e;rw[e,hr];omega;exact h1.1 y e
      have b:c y x<=0:=by rcases List.mem_cons.1 (h.mem_iff.1 (mem_cons_self ..):x∈y::m)with e|e;rw[e,hr];omega;exact h2.1 x e
      have:=hg.jq x y;omega
     rcases List.mem_cons.1 (h.mem_iff.1 (mem_cons_self ..):x∈y::m)with e|e;subst e;rw[map_cons,map_cons,ih m (List.Perm.cons_inv h) h1.2 h2.2];obtain⟨m1,m2,rfl⟩:=append_of_mem e;have hp:l.Perm (y::(m1++m2)):=by refine List.Perm.cons_inv (h.trans ?_) (a:=x);exact(List.perm_middle.cons y).trans (.swap x y _)
     have Js:∀z∈m1,c z x=0:=λ z hz=>by
      have a:=h2.1 z (List.mem_append.2 (.inl hz));have b:c z x<=0:=by have:=h2.2;rw[pairwise_append]at this;exact this.2.2 z hz x (mem_cons_self ..)
      have d:=hg.trans x y z WC a;have:=hg.jq z x;omega
     have hs:(y::(m1++m2)).Pairwise (λ a b=>c a b<=0):=by refine Fk.sublist ?_;exact List.Sublist.cons_cons y ((List.Sublist.refl m1).append (sublist_cons_self x m2))
     rw[map_cons,ih _ hp h1.2 hs];have key:∀(m1:List α) (y:α),c y x=0->(∀z∈m1,c z x=0)->f x::(y::(m1++m2)).map f=(y::(m1++x::m2)).map f:=by
      intro m1;induction m1 with
      |nil=>intro y hy _;simp[hf y x hy]
      |cons z m1 ih2=>intro y hy hz;have:=ih2 z (hz z (mem_cons_self ..)) (λ w hw=>hz w (mem_cons_of_mem _ hw));rw[map_cons,hf y x hy];show f x::f x::((z::(m1++m2)).map f)=_;rw[this];simp[hf y x hy]
     exact key m1 y (by have:=hg.jq x y;omega) Js
end
def jO(b e:Int):Int:=if e≠0/\(b=0\/e<b)then e else b
def bX(l:List Int):Int:=l.foldl jO 0
def kS(u:Nat->Value)(M:List Nat)(σ:Nat->Option Value)(i:Nat)(_:t_)(v:Value):Prop:=if i∈M then σ i=some v else v=u i
def jr(σ:Nat->Option Value)(i:Nat)(v:Value):Nat->Option Value:=λ j=>if j=i then some v else σ j
theorem ko(σ:Nat->Option Value)(i:Nat)(v:Value):jr σ i v i=some v:=by simp[jr]
theorem dF(σ:Nat->Option Value){i:Nat}(v:Value)(h:j≠i):jr σ i v j=σ j:=by simp[jr,h]
def E0(P:Program)(l:List Oper)(u:Nat->Value)(M:List Nat)(G:(Nat->Option Value)->t_->Prop)(a0:Act)(i:Nat)(o:Oper):Prop:=
 ∀ρ w σ,gD ρ->G σ w->dW l (kS u M σ) a0.eval ρ w o (tmpsOf o)->(∀e∈eL o,e∈M->(σ e).isSome=true)->(i∈M->σ i=none)->o.guard=none/\
  if i∈M then uj P o ρ w λ v w'=>G (jr σ i v) w' else(execOp ρ o).run P w=.ok (.value (u i)) w
def JI(P:Program)(l:List Oper)(u:Nat->Value)(M:List Nat)(G:(Nat->Option Value)->t_->Prop)(a0:Act):List Oper->Nat->Prop
 |[],_=>True
 |o::rest,i=>E0 P l u M G a0 i o/\JI P l u M G a0 rest (i+1)
variable{G:(Nat->Option Value)->t_->Prop}
theorem GX{u:Nat->Value}{M:List Nat}:∀{l:List Oper}{k:Nat},JI P L u M G a0 l k->∀i o,l[i]?=some o->E0 P L u M G a0 (k+i) o
 |[],_,_,i,o,h=>by simp at h
 |x::l,k,hs,0,o,h=>by simp at h;subst h;exact hs.1
 |x::l,k,hs,i+1,o,h=>by have:=GX hs.2 i o Taj;rwa [show k+1+i=k+(i+1) by omega]at this
section
variable{P:Program}{l zs:List Oper}{Q:y_}{u:Nat->Value}{M:List Nat}{G:(Nat->Option Value)->t_->Prop}{a0:Act}{w0:t_}{V:Nat->t_->Value->Prop}
def zb4.Kal(h:p:=by
 have hK:=yH (V:=V) (λ d=>a.eval (.tmp d)) l 0 a0 (λ i o d hi hd=>by
  rw[Nat.zero_add];have qQ:i<l.length:=by rcases gR i l.length with h'|h';exact h';rw[getElem?_eq_none h']at hi;cases hi
  exact I.new i o d hi (hall i qQ) hd) hf
 rw[<-ha]at hK;exact Zbq):=h
theorem GY{N:Nat}(bc:dC l N l 0=true)(hz:eD (l++zs) zs l.length=true){listed:Array Bool}{a:Act}{w:t_}(hf:bw V (λ a w=>wpList P (l++zs).toArray Q zs a w) l 0 a0 w)(I:Inv l V (λ _ _=>True) a0 w0 (l++zs).length listed a w)
  (h0:bB l.length listed=0):wpAny P .any (l++zs).toArray Q zs.length listed a w:=by
 open zb4 in exact ZaG
def zfp.Kbf(h:p:=by
 by_cases hjm:i∈M
 ·rw[if_pos hjm]at hstep;refine jV hstep ?_;intro v w' Tz;have hne:∀Kx,Kx≠i->jr σ i v Kx=σ Kx:=λ Kx hi=>dF σ v hi
  have I':Inv l (kS u M (jr σ i v)) (λ _ _=>True) a0 w0 (l++zs).length listed a w:=I.imp (λ Kx w x h=>by
   unfold kS at*;by_cases zQ:Kx∈M
   ·rw[if_pos zQ]at h⊢
    rw[hne Kx (λ e=>by subst e;rw[hnone zQ]at h;cases h)];exact h
   rw[if_neg zQ]at h⊢;exact h)
  refine ih _ _ _ (jr σ i v) (I'.step bc (λ _ _ _ _ h _=>h) (λ _ _ _ _ _=>trivial) wE AJ Cl fw trivial ?_) Tz ?_ D8;unfold kS;rw[if_pos hjm];exact ko σ i v;intro k hk;rw[eR _ _ _ D7];by_cases hkj:k=i;subst hkj;rw[ko];simp;rw[if_neg hkj,hne k hkj];exact cj k hk
 rw[if_neg hjm]at hstep;refine jV (T:=λ v w'=>v=u i/\w'=w) (aq hstep ⟨rfl,rfl⟩) ?_;rintro v w' ⟨rfl,rfl⟩;refine ih _ _ _ σ (I.step bc (λ _ _ _ _ h _=>h) (λ _ _ _ _ _=>trivial) wE AJ Cl fw trivial ?_) hg ?_ D8;unfold kS;rw[if_neg hjm];intro k hk;rw[eR _ _ _ D7,if_neg (λ e:k=i=>hjm (by rw[<-e];exact hk))];exact cj k hk):=h
def zan.Kb(h:p:=by
 have hst:=GX hs i oj wE;rw[Nat.zero_add]at hst;have YH:=Inv.reads bc I wE Cl fw (tmpsOf oj) (λ _ h=>h);have hnone:i∈M->σ i=none:=λ hjm=>by
  cases kW:σ i with
  |none=>rfl
  |some v=>have:=(cj i hjm).2 (by rw[kW];rfl);rw[Cl]at this;cases this
 obtain⟨hgd,hstep⟩:=hst a.eval w σ (nG a) hg YH (λ e he hem=>(cj e hem).1 (fw e he)) hnone;open zfp in exact Zdz):=h
theorem kU{id:Nat}{ops:List Oper}(zs:List Oper)(l:List Oper)(jN:ops=l++zs)(u:Nat->Value)(M:List Nat)(G:(Nat->Option Value)->t_->Prop)(oJ:∀σ w,G σ w->G σ w.drew)(hG:G (λ _=>none) w0)
  (hm:P.follows .mixedOrders=true) (bc:dC l a0.tmps.size l 0=true) (hz:eD (l++zs) zs l.length=true) (LO:M.all (λ Kx=>decide (Kx<l.length))=true)
  (hs:JI P l u M G a0 l 0) (hf:∀σ w,(∀Kx∈M,(σ Kx).isSome=true)->G σ w->bw (kS u M σ) (λ a w=>wpList P ops.toArray Q zs a w) l 0 a0 w):(Code.region id ops.toArray true).wp P Q a0 w0:=by
 subst jN;have main:∀(fuel:Nat) (listed:Array Bool) (a:Act) (w:t_) (σ:Nat->Option Value),Inv l (kS u M σ) (λ _ _=>True) a0 w0 (l++zs).length listed a w->G σ w->(∀Kx∈M,(listed.getD Kx false=true↔(σ Kx).isSome=true))->fuel=bB l.length listed+zs.length->wpAny P .any (l++zs).toArray Q fuel listed a w:=by
  intro fuel
  induction fuel with
  |zero=>
    intro listed a w σ I hg cj hfu;have h0:bB l.length listed=0:=WC;have hz0:zs.length=0:=WC;have hall:=eh h0;have:=GY bc hz (hf σ w (λ Kx hi=>(cj Kx hi).1 (hall Kx (of_decide_eq_true (List.all_eq_true.1 LO Kx hi)))) hg) I h0;rwa [hz0]at this
  |succ fuel ih=>
    intro listed a w σ I hg cj hfu;by_cases h0:bB l.length listed=0;have hall:=eh h0;have:=GY bc hz (hf σ w (λ Kx hi=>(cj Kx hi).1 (hall Kx (of_decide_eq_true (List.all_eq_true.1 LO Kx hi)))) hg) I h0;exact Zf8
    open zan in exact Zad
 refine wp_region_any hm ?_;have:=main (l++zs).toArray.size (Array.replicate (l++zs).toArray.size false) a0 w0.drew (λ _=>none) ⟨trivial,rfl,rfl,λ _ _=>rfl,(λ Kx o d _ h=>by rw[br]at h;cases h),(λ Kx o _ h=>by rw[br]at h;cases h),by simp,λ Kx _=>br _ _⟩ (oJ _ _ hG) (λ Kx _=>by rw[br];simp) (by
  have:bB l.length (Array.replicate (l++zs).toArray.size false)=l.length:=by unfold bB;rw[List.filter_eq_self.2 (λ Kx _=>by rw[br];rfl),length_range]
  rw[this];simp)
 exact this
end
structure qY where
 i:Nat
 T:TypeId
 c:x_
 s:Nat
 d:x_
def qY.now(x:qY)(B:Nat)(σ:Nat->Option Value)(w:t_):Prop:=
 match σ x.i with
 |none=>σ x.s=none
 |some v=>∃g,v=aw g/\B<=g/\aB w g x.T (if (σ x.s).isSome=true then x.d else x.c)
def fY(X:List qY)(i:Nat):Bool:=X.any λ x=>x.i==i||x.s==i
def E1(X:List qY)(CL:List Nat)(n:Nat):Bool:=
 decide (X.map (·.i)++X.map (·.s)++CL).Nodup&&X.all (λ x=>decide (x.i<n))&&CL.all (λ i=>decide (i<n))
structure aim (B n:Nat) (w0:t_) (u:Nat->Value) (X:List qY) (σ:Nat->Option Value) (w:t_):Prop where
 b:Below B w0 w
 now:∀x∈X,x.now B σ w
 apart:∀x∈X,∀y∈X,x.i≠y.i->∀v,σ x.i=some v->σ y.i≠some v
 u:∀i v,σ i=some v->fY X i=false->v=u i
 far:∀i,n<=i->σ i=none
def pU(P:Program)(l:List Oper)(u:Nat->Value)(X:List qY)(CL:List Nat)(a0:Act)(B:Nat)(w0:t_)(i:Nat)(o:Oper):Prop:=
 o.guard=none/\
 match X.find? (λ x=>x.i==i)with
 |some x=>∀ρ w,gD ρ->(execOp ρ o).run P w=.ok (.value (aw w.heap.size)) (w.alloc (.cells x.c x.T))
 |none=>match X.find? (λ x=>x.s==i)with
   |some x=>(eL o).contains x.i=true/\∀ρ w g,gD ρ->aB w g x.T x.c->dW l (λ j _ v=>if j=x.i then v=aw g else fY X j=false->v=u j) a0.eval ρ w o (tmpsOf o)->
      ∃w',(execOp ρ o).run P w=.ok .skip w'/\aB w' g x.T x.d/\w.grownBy w' (some g)
   |none=>∀ρ w,gD ρ->Below B w0 w->dW l (λ j _ v=>fY X j=false->v=u j) a0.eval ρ w o (tmpsOf o)->
      if CL.contains i=true then uj P o ρ w λ v w'=>v=u i/\ai w w' else(execOp ρ o).run P w=.ok (.value (u i)) w
def xh(P:Program)(l:List Oper)(u:Nat->Value)(X:List qY)(CL:List Nat)(a0:Act)(B:Nat)(w0:t_):List Oper->Nat->Prop
 |[],_=>True
 |o::rest,i=>pU P l u X CL a0 B w0 i o/\xh P l u X CL a0 B w0 rest (i+1)
variable{ρ0 ρ:Operand->Value}
theorem pV{l:List Oper}{w:t_}{o:Oper}(h:∀j v,V j w v->V' j w v):∀{ts:List Tmp},dW l V ρ0 ρ w o ts->dW l V' ρ0 ρ w o ts
 |[],_=>trivial
 |t::ts,hr=>by
   unfold dW at hr⊢;refine⟨?_,pV h hr.2⟩;have h1:=hr.1;cases hs:cY l o t with
   |none=>rw[hs]at h1;exact h1
   |some j=>rw[hs]at h1;exact h _ _ h1
theorem yT{K:Act->t_->Prop}{w:t_}(h:∀j v,V j w v->V' j w v):∀{l:List Oper}{i:Nat}{a:Act},bw V' K l i a w->bw V K l i a w
 |[],_,_,hf=>hf
 |o::l,i,a,hf=>by
   unfold bw at hf⊢;cases ho:o.dst with
   |none=>rw[ho]at hf;exact yT h hf
   |some d=>rw[ho]at hf;exact λ v hv=>yT h (hf v (h _ _ hv))
variable{X:List qY}{σ:Nat->Option Value}
theorem vg{n:Nat}{w:t_}{u:Nat->Value}(hB:B<=w0.heap.size)(h:aim B n w0 u X σ w)(hl:ai w w'):aim B n w0 u X σ w':=
 ⟨h.b.trans (hl.mono (fK hB h.b.size)),λ x hx=>by
   have:=h.now x hx;unfold qY.now at this⊢;cases he:σ x.i with
   |none=>rw[he]at this;exact this
   |some v=>
     rw[he]at this;obtain⟨g,h1,h2,h3⟩:=this;exact⟨g,h1,h2,h3.later hl⟩,h.apart,h.u,h.far⟩
theorem pW{x:qY}(h:x∈X):fY X x.i=true:=by unfold fY;exact List.any_eq_true.2 ⟨x,h,by simp⟩
theorem xi{x:qY}(h:x∈X):fY X x.s=true:=by unfold fY;exact List.any_eq_true.2 ⟨x,h,by simp⟩
variable{CL:List Nat}
theorem Ac{u:Nat->Value}:∀{l:List Oper}{k:Nat},xh P L u X CL a0 B w0 l k->∀i o,l[i]?=some o->pU P L u X CL a0 B w0 (k+i) o
 |[],_,_,i,o,h=>by simp at h
 |x::l,k,hs,0,o,h=>by simp at h;subst h;exact hs.1
 |x::l,k,hs,i+1,o,h=>by have:=Ac hs.2 i o Taj;rwa [show k+1+i=k+(i+1) by omega]at this
theorem GZ{u:Nat->Value}{M:List Nat}:∀(l:List Oper) (k:Nat),(∀i o,l[i]?=some o->E0 P L u M G a0 (k+i) o)->JI P L u M G a0 l k
 |[],_,_=>trivial
 |x::l,k,h=>⟨h 0 x rfl,GZ l (k+1) λ i o hi=>by
    have:=h (i+1) o Tay
    rwa [show k+(i+1)=k+1+i by omega]at this⟩
theorem map_inj{f:qY->Nat}:∀{X:List qY},(X.map f).Nodup->∀x∈X,∀y∈X,f x=f y->x=y
 |[],_,x,hx,_,_,_=>by cases hx
 |a::X,h,x,hx,y,hy,e=>by
   rw[map_cons,nodup_cons]at h;rcases List.mem_cons.1 hx with rfl|hx2
   ·rcases List.mem_cons.1 hy with rfl|fq
    ·rfl
    exact absurd (e▸mem_map_of_mem fq) h.1
   rcases List.mem_cons.1 hy with rfl|fq;exact absurd (e▸mem_map_of_mem hx2) h.1;exact map_inj h.2 x hx2 y fq e
variable{T':Value->t_->Prop}
theorem E3{o:Oper}{w:t_}{T:Value->t_->Prop}(h:uj P o ρ w T)(k:∀v w',T v w'->T' v w'):uj P o ρ w T':=by unfold uj at h⊢;split at h;exact k _ _ h;exact k _ _ h;exact h.mono λ e w'' ⟨v,h1,h2⟩=>⟨v,h1,k _ _ h2⟩;exact h.elim
theorem MI{p:qY->Bool}{x:qY}(h:X.find? p=some x):x∈X/\p x=true:=⟨mem_of_find?_eq_some h,find?_some h⟩
theorem Qz{i:Nat}(h:fY X i=true):(∃x,X.find? (λ x=>x.i==i)=some x)\/(X.find? (λ x=>x.i==i)=none/\∃x,X.find? (λ x=>x.s==i)=some x):=by
 cases h1:X.find? (λ x=>x.i==i)with
 |some x=>exact .inl ⟨x,rfl⟩
 |none=>
   refine .inr ⟨rfl,?_⟩;cases h2:X.find? (λ x=>x.s==i)with
   |some x=>exact⟨x,rfl⟩
   |none=>
     exfalso;obtain⟨x,hx,hp⟩:=List.any_eq_true.1 h;rw[find?_eq_none]at h1 h2;have a1:=h1 x hx;have a2:=h2 x hx;rw[Bool.or_eq_true]at hp;rcases hp with hp|hp;exact a1 hp;exact a2 hp
def QA(X:List qY)(CL:List Nat)(n:Nat):List Nat:=(X.map (·.i)++X.map (·.s)).filter (λ i=>decide (i<n))++CL
def Ad(σ:Nat->Option Value)(i:Nat):Nat:=match σ i with|some (.pointer (some p))=>p.block|_=>0
section
variable{P:Program}{Q:y_}{a0:Act}{w0:t_}
theorem JJ{id:Nat}{ops:List Oper}(k:Nat)(u:Nat->Value)(X:List qY)(CL:List Nat)(hm:P.follows .mixedOrders=true)(bc:dC (ops.take k) a0.tmps.size (ops.take k) 0=true)(hz:eD ops (ops.drop k) (ops.take k).length=true)
  (hX:E1 X CL (ops.take k).length=true) (hs:xh P (ops.take k) u X CL a0 w0.heap.size w0 (ops.take k) 0)
  (hf:∀w (g:Nat->Nat),ai w0 w->(∀x∈X,w0.heap.size<=g x.i/\aB w (g x.i) x.T (if x.s <(ops.take k).length then x.d else x.c))->(∀x∈X,∀y∈X,x.i≠y.i->g x.i≠g y.i)->
    bw (λ j _ v=>if X.any (λ x=>x.i==j)=true then v=aw (g j) else fY X j=false->v=u j) (λ a w=>wpList P ops.toArray Q (ops.drop k) a w) (ops.take k) 0 a0 w):
  (Code.region id ops.toArray true).wp P Q a0 w0:=by
 obtain⟨ps,hl⟩:∃ps,ps=ops.take k:=⟨_,rfl⟩;rw[<-hl]at bc hz hX hs hf;simp only[E1,Bool.and_eq_true,decide_eq_true_eq,all_eq_true]at hX;obtain⟨⟨Po,hxi⟩,cj⟩:=hX;have E4:∀x∈X,∀y∈X,x.i=y.i->x=y:=map_inj (List.nodup_append.1 (List.nodup_append.1 Po).1).1;have Vn:∀x∈X,∀y∈X,x.s=y.s->x=y:=map_inj (List.nodup_append.1 (List.nodup_append.1 Po).1).2.1;have vZ:∀x∈X,∀y∈X,x.i≠y.s:=λ x hx y hy=>(List.nodup_append.1 (List.nodup_append.1 Po).1).2.2 x.i (mem_map_of_mem hx) y.s (mem_map_of_mem hy);have hCL:∀i∈CL,fY X i=false:=by
  intro i BL;cases hc:fY X i with
  |false=>rfl
  |true=>
    exfalso;obtain⟨x,hx,hp⟩:=List.any_eq_true.1 hc;rw[Bool.or_eq_true,beq_iff_eq,beq_iff_eq]at hp;rcases hp with rfl|rfl;exact(List.nodup_append.1 Po).2.2 x.i (List.mem_append.2 (.inl (mem_map_of_mem hx))) x.i BL rfl;exact(List.nodup_append.1 Po).2.2 x.s (List.mem_append.2 (.inr (mem_map_of_mem hx))) x.s BL rfl
 have hM:∀i,i∈QA X CL ps.length↔(i<ps.length/\fY X i=true)\/i∈CL:=by
  intro i;unfold QA fY;rw[mem_append,mem_filter,mem_append,mem_map,mem_map,any_eq_true,decide_eq_true_eq];constructor
  ·rintro(⟨⟨x,hx,rfl⟩|⟨x,hx,rfl⟩,h2⟩|h)
   ·exact .inl ⟨h2,x,hx,by simp⟩
   exact .inl ⟨h2,x,hx,by simp⟩;exact .inr h
  rintro(⟨h2,x,hx,hp⟩|h)
  ·rw[Bool.or_eq_true,beq_iff_eq,beq_iff_eq]at hp;rcases hp with rfl|rfl
   ·exact .inl ⟨.inl ⟨x,hx,rfl⟩,h2⟩
   exact .inl ⟨.inr ⟨x,hx,rfl⟩,h2⟩
  exact .inr h
 have jN:ops=ps++ops.drop k:=by rw[hl];exact(take_append_drop k ops).symm
 refine kU (ops.drop k) ps jN u (QA X CL ps.length) (aim w0.heap.size ps.length w0 u X) (λ σ w h=>vg aE h (cX.drew)) ⟨cX,λ _ _=>rfl,λ _ _ _ _ _ _ h=>Tae,λ _ _ h=>Tae,λ _ _=>rfl⟩ hm bc (by rw[<-jN];exact hz) ?_ ?_ ?_
 ·rw[all_eq_true];intro i BL;rw[decide_eq_true_eq];rcases(hM i).1 BL with h|h
  ·exact h.1
  exact cj i h
 ·refine GZ ps 0 λ i o BL=>?_
  have hst:=Ac hs i o BL;rw[Nat.zero_add]at hst⊢;have qQ:i<ps.length:=by exact ZgR
  obtain⟨hg,hst⟩:=hst;intro ρ w σ hc hG hr he hn;refine⟨hg,?_⟩;have agl:∀j v,kS u (QA X CL ps.length) σ j w v->fY X j=false->v=u j:=by intro j v hv hj;unfold kS at hv;split at hv;exact hG.u j v hv hj;exact hv
  cases hX1:X.find? (λ x=>x.i==i)with
  |some x=>
    rw[hX1]at hst;obtain⟨hx,Wi⟩:=MI hX1;have Wi:x.i=i:=by simpa using Wi
    subst Wi;have zQ:x.i∈QA X CL ps.length:=(hM _).2 (.inl ⟨qQ,pW hx⟩);rw[if_pos zQ];refine aq (hst ρ w hc) ?_;have hl2:ai w (w.alloc (.cells x.c x.T)):=(cX.alloc aE _);have hG2:=vg aE hG hl2;have auz:=hn zQ;refine⟨hG2.b,λ y hy=>?_,λ y hy z hz hyz v hv hv2=>?_,λ j v hv hj=>?_,λ j hj=>?_⟩
    ·by_cases TX:y=x
     ·subst TX;unfold qY.now;rw[ko];refine⟨_,rfl,hG.b.size,?_⟩;have hs0:σ y.s=none:=by have:=hG.now y hy;unfold qY.now at this;rw[auz]at this;exact this
      rw[dF _ _ (λ e=>vZ y hy y hy e.symm),hs0];exact aB.new _ _ _
     have:=hG2.now y hy;unfold qY.now at this⊢;rw[dF _ _ (λ e=>TX (E4 y hy x hx e)),dF _ _ (λ e=>vZ x hx y hy e.symm)];exact this
    ·by_cases TX:y.i=x.i
     ·have hzx:z.i≠x.i:=λ e=>hyz (by rw[TX,e])
      rw[TX,ko]at hv;rw[dF _ _ hzx]at hv2;injection hv with hv;subst hv;have:=hG.now z hz;unfold qY.now at this;rw[hv2]at this;exact ZfE
     rw[dF _ _ TX]at hv;by_cases hzx:z.i=x.i;rw[hzx,ko]at hv2;injection hv2 with hv2;subst hv2;have:=hG.now y hy;unfold qY.now at this;rw[hv]at this;exact ZfE;rw[dF _ _ hzx]at hv2;exact Zil
    ·have FH:j≠x.i:=λ e=>by subst e;rw[pW hx]at hj;cases hj
     rw[dF _ _ FH]at hv;exact hG.u j v hv hj
    have FH:j≠x.i:=λ e=>by omega
    rw[dF _ _ FH];exact hG.far j hj
  |none=>
    rw[hX1]at hst;cases bz:X.find? (λ x=>x.s==i)with
    |some x=>
      rw[bz]at hst;obtain⟨hx,Wi⟩:=MI bz;have Wi:x.s=i:=by simpa using Wi
      subst Wi;obtain⟨hed,hst⟩:=hst;have zQ:x.s∈QA X CL ps.length:=(hM _).2 (.inl ⟨qQ,xi hx⟩);have Tx:x.i∈QA X CL ps.length:=(hM _).2 (.inl ⟨hxi x hx,pW hx⟩);rw[if_pos zQ];have MJ:=hn zQ;have hsome:=he x.i (by simpa using hed) Tx;have ain:=hG.now x hx;unfold qY.now at ain;cases kW:σ x.i with
      |none=>rw[kW]at hsome;cases hsome
      |some v0=>
        rw[kW]at ain;obtain⟨g,rfl,hgB,hblk⟩:=ain;rw[MJ]at hblk;obtain⟨w',hrun,hd,hgr⟩:=hst ρ w g hc hblk (pV (λ j v hv=>by
         by_cases hj:j=x.i
         ·rw[if_pos hj]
          unfold kS at hv;rw[if_pos (by rw[hj];exact Tx),hj,kW]at hv;injection hv with hv;exact hv.symm
         rw[if_neg hj];exact agl j v hv) hr)
        refine Co hrun ?_;have hl2:Below w0.heap.size w w':=⟨hgr.os,hgr.tape,hgr.output,hgr.size,λ k hk=>hgr.block k (eS hk hG.b.size) (λ e=>by injection e with e;omega)⟩;refine⟨hG.b.trans hl2,λ y hy=>?_,λ y hy z hz hyz v hv hv2=>?_,λ j v hv hj=>?_,λ j hj=>?_⟩
        ·by_cases TX:y=x
         ·subst TX;unfold qY.now;rw[dF _ _ (vZ y hy y hy),kW,ko];exact⟨g,rfl,hgB,hd⟩
         have:=hG.now y hy;unfold qY.now at this⊢;rw[dF _ _ (vZ y hy x hx),dF _ _ (λ e=>TX (Vn y hy x hx e))];cases fq:σ y.i with
         |none=>rw[fq]at this;exact this
         |some v1=>rw[fq]at this;obtain⟨g1,rfl,h2,h3⟩:=this;refine⟨g1,rfl,h2,h3.grown hgr λ e=>?_⟩;injection e with e;subst e;exact hG.apart x hx y hy (λ e=>TX (E4 y hy x hx e.symm)) _ kW fq
        rw[dF _ _ (vZ y hy x hx)]at hv;rw[dF _ _ (vZ z hz x hx)]at hv2;exact Zil
        ·have FH:j≠x.s:=λ e=>by subst e;rw[xi hx]at hj;cases hj
         rw[dF _ _ FH]at hv;exact hG.u j v hv hj
        have FH:j≠x.s:=λ e=>by omega
        rw[dF _ _ FH];exact hG.far j hj
    |none=>
      rw[bz]at hst;have Pp:fY X i=false:=by
       cases hc2:fY X i with
       |false=>rfl
       |true=>
         rcases Qz hc2 with⟨x,hx⟩|⟨_,x,hx⟩
         rw[hx]at hX1;cases hX1;rw[hx]at bz;cases bz
      have hrun:=hst ρ w hc hG.b (pV agl hr);by_cases uo:i∈CL
      ·rw[if_pos (by simpa using uo)]at hrun;rw[if_pos ((hM i).2 (.inr uo))];refine E3 hrun ?_;rintro v w' ⟨rfl,hb⟩;have hG2:=vg aE hG hb;have hcs:∀y∈X,y.i≠i/\y.s≠i:=λ y hy=>⟨λ e=>(by subst e;rw[pW hy]at Pp;cases Pp),λ e=>(by subst e;rw[xi hy]at Pp;cases Pp)⟩
       refine⟨hG2.b,λ y hy=>?_,λ y hy z hz hyz v hv hv2=>?_,λ j v hv hj=>?_,λ j hj=>?_⟩;have:=hG2.now y hy;unfold qY.now at this⊢;rw[dF _ _ (hcs y hy).1,dF _ _ (hcs y hy).2];exact this;rw[dF _ _ (hcs y hy).1]at hv;rw[dF _ _ (hcs z hz).1]at hv2;exact Zil
       ·by_cases Pj:j=i
        ·subst Pj;rw[ko]at hv;injection hv with hv;exact hv.symm
        rw[dF _ _ Pj]at hv;exact hG.u j v hv hj
       rw[dF _ _ (show j≠i by omega)];exact hG.far j hj
      rw[if_neg (by simpa using uo)]at hrun;rw[if_neg (λ h=>by rcases(hM i).1 h with h|h;rw[Pp]at h;cases h.2;exact uo h)]
      exact hrun
 intro σ w hall hG;have hsome:∀x∈X,∃g,σ x.i=some (aw g)/\w0.heap.size<=g/\aB w g x.T (if x.s<ps.length then x.d else x.c):=by
  intro x hx;have h1:=hall x.i ((hM _).2 (.inl ⟨hxi x hx,pW hx⟩));have h2:=hG.now x hx;unfold qY.now at h2;cases kW:σ x.i with
  |none=>rw[kW]at h1;cases h1
  |some v=>
    rw[kW]at h2;obtain⟨g,rfl,h3,h4⟩:=h2;refine⟨g,rfl,h3,?_⟩;by_cases hlt:x.s<ps.length;rw[if_pos (hall x.s ((hM _).2 (.inl ⟨hlt,xi hx⟩)))]at h4;rw[if_pos hlt];exact h4;rw[hG.far x.s WC]at h4;rw[if_neg hlt];exact h4
 refine yT ?_ (hf w (Ad σ) hG.b ?_ ?_)
 ·intro j v hv;by_cases hj:X.any (λ x=>x.i==j)=true
  ·rw[if_pos hj];obtain⟨x,hx,he⟩:=List.any_eq_true.1 hj;have he:x.i=j:=by simpa using he
   subst he;obtain⟨g,h1,_⟩:=hsome x hx;unfold kS at hv;rw[if_pos ((hM _).2 (.inl ⟨hxi x hx,pW hx⟩)),h1]at hv;injection hv with hv;rw[<-hv];simp only[Ad,h1]
  rw[if_neg hj];intro hc;unfold kS at hv;split at hv;exact hG.u j v hv hc;exact hv
 ·intro x hx;obtain⟨g,h1,h2,h3⟩:=hsome x hx;have:Ad σ x.i=g:=by simp only[Ad,h1]
  rw[this];exact⟨h2,h3⟩
 intro x hx y hy hxy e;obtain⟨g,h1,h2,h3⟩:=hsome x hx;obtain⟨g',vY,Fk,h3'⟩:=hsome y hy;have e1:Ad σ x.i=g:=by simp only[Ad,h1]
 have e2:Ad σ y.i=g':=by simp only[Ad,vY]
 rw[e1,e2]at e;subst e;exact hG.apart x hx y hy hxy _ h1 vY
def Wj(f:Nat->Value):List Oper->Nat->Act->Act
 |[],_,a=>a
 |o::l,i,a=>Wj f l (i+1) (a.put o.dst (f i))
theorem yU{V:Nat->t_->Value->Prop}{K:Act->t_->Prop}{w:t_}{f:Nat->Value}:∀{l:List Oper}{i:Nat}{a:Act},(∀j o v,l[j]?=some o->o.dst.isSome=true->V (i+j) w v->v=f (i+j))->K (Wj f l i a) w->bw V K l i a w
 |[],_,_,_,h=>h
 |o::l,i,a,hv,h=>by
   unfold bw;unfold Wj at h;have hr:∀j o v,l[j]?=some o->o.dst.isSome=true->V (i+1+j) w v->v=f (i+1+j):=λ j o' v ho hd hx=>by have:=hv (j+1) o' v (by simpa using ho) hd (by rwa [show i+(j+1)=i+1+j by omega]);rwa [show i+(j+1)=i+1+j by omega]at this
   cases hd:o.dst with
   |none=>rw[hd]at h;exact yU hr h
   |some d=>rw[hd]at h;intro v hx;have:v=f i:=hv 0 o v rfl (by rw[hd];rfl) hx;subst this;exact yU hr h
def aio(X:List qY)(l:List Oper):Bool:=(List.range l.length).all λ j=>match l[j]? with|some o=>o.dst.isNone||X.any (λ x=>x.i==j)|| !fY X j|none=>true
theorem uK{id:Nat}{ops:List Oper}(k:Nat)(u:Nat->Value)(X:List qY)(CL:List Nat)(hm:P.follows .mixedOrders=true)(bc:dC (ops.take k) a0.tmps.size (ops.take k) 0=true)(hz:eD ops (ops.drop k) (ops.take k).length=true)
  (hX:E1 X CL (ops.take k).length=true) (hD:aio X (ops.take k)=true) (hs:xh P (ops.take k) u X CL a0 w0.heap.size w0 (ops.take k) 0)
  (hf:∀w (g:Nat->Nat),ai w0 w->(∀x∈X,w0.heap.size<=g x.i/\aB w (g x.i) x.T (if x.s <(ops.take k).length then x.d else x.c))->(∀x∈X,∀y∈X,x.i≠y.i->g x.i≠g y.i)->
    wpList P ops.toArray Q (ops.drop k) (Wj (λ j=>if X.any (λ x=>x.i==j)=true then aw (g j) else u j) (ops.take k) 0 a0) w):
  (Code.region id ops.toArray true).wp P Q a0 w0:=
 JJ k u X CL hm bc hz hX hs λ w g h1 h2 h3=>yU (λ j o v ho hd hx=>by
  rw[Nat.zero_add]at hx⊢;by_cases hj:X.any (λ x=>x.i==j)=true;rw[if_pos hj]at hx⊢;exact hx;rw[if_neg hj]at hx⊢;refine hx ?_;have hlt:j <(ops.take k).length:=(List.getElem?_eq_some_iff.1 ho).1;have:=List.all_eq_true.1 hD j (List.mem_range.2 hlt);rw[ho]at this;simp only[Bool.or_eq_true]at this;rcases this with (h|h)|h
  rw[Option.isNone_iff_eq_none]at h;rw[h]at hd;cases hd;exact absurd h hj;simpa using h) (hf w g h1 h2 h3)
end
section
variable{P:Program}{l:List Oper}{u:Nat->Value}{X:List qY}{CL:List Nat}{a0:Act}{B:Nat}{w0:t_}{i:Nat}{o:Oper}
theorem uL(x:qY)(hg:o.guard=none)(hf:X.find? (λ x=>x.i==i)=some x)(h:∀ρ w,gD ρ->(execOp ρ o).run P w=.ok (.value (aw w.heap.size)) (w.alloc (.cells x.c x.T))):pU P l u X CL a0 B w0 i o:=by refine⟨hg,?_⟩;rw[hf];exact h
theorem FI(x:qY)(hg:o.guard=none)(hf:X.find? (λ x=>x.i==i)=none)(hs:X.find? (λ x=>x.s==i)=some x)(he:(eL o).contains x.i=true)
  (h:∀ρ w g,gD ρ->aB w g x.T x.c->dW l (λ j _ v=>if j=x.i then v=aw g else fY X j=false->v=u j) a0.eval ρ w o (tmpsOf o)->∃w',(execOp ρ o).run P w=.ok .skip w'/\aB w' g x.T x.d/\w.grownBy w' (some g)):pU P l u X CL a0 B w0 i o:=by refine⟨hg,?_⟩;rw[hf];dsimp only;rw[hs];exact⟨he,h⟩
theorem E5{ty:TypeId}{x y:Operand}{ρ:Operand->Value}{w:t_}{g:Nat}{T:TypeId}{c d:x_}(ho:o.op=.store ty x y)(hx:ρ x=aw g)(hy:ρ y=.agg d)(hg:aB w g T c)(hi:(P.info? ty).map (·.size)=some d.size)(hold:c.size=d.size)(h1:d.all (·.oneCell')=true):
  (execOp ρ o).run P w=.ok .skip (w.setRow g d):=by unfold execOp;simp only[ho,hx,hy,Instr.storeAt,Instr.sureAddr,Sem.run_bind,Sem.run_pure,Result.andThen_ok,run_storeVar_row w g T ty c d hg hi hold h1]
theorem xj(x:qY)(ty:TypeId)(p y:Operand)(hg:o.guard=none)(ho:o.op=.store ty p y)(hf:X.find? (λ x=>x.i==i)=none)(hs:X.find? (λ x=>x.s==i)=some x)(he:(eL o).contains x.i=true)
  (hi:(P.info? ty).map (·.size)=some x.d.size) (hold:x.c.size=x.d.size) (h1:x.d.all (·.oneCell')=true)
  (h:∀ρ w g,gD ρ->dW l (λ j _ v=>if j=x.i then v=aw g else fY X j=false->v=u j) a0.eval ρ w o (tmpsOf o)->ρ p=aw g/\ρ y=.agg x.d):pU P l u X CL a0 B w0 i o:=
 FI x hg hf hs he λ ρ w g hc hb hr=>⟨_,E5 ho (h ρ w g hc hr).1 (h ρ w g hc hr).2 hb hi hold h1,setRow_heap w g x.c x.d x.T (0,0) hb,
  ⟨rfl,rfl,rfl,by simp,λ i hi hne=>setRow_other w g i x.d (λ e=>hne Ta5)⟩⟩
theorem ma(hn:fY X i=false):X.find? (λ x=>x.i==i)=none/\X.find? (λ x=>x.s==i)=none:=by
 constructor
 ·rw[find?_eq_none];intro x hx h;have:x.i=i:=by simpa using h
  subst this;rw[pW hx]at hn;cases hn
 rw[find?_eq_none];intro x hx h;have:x.s=i:=by simpa using h
 subst this;rw[xi hx]at hn;cases hn
theorem bp(hg:o.guard=none)(hn:fY X i=false)(hc:CL.contains i=false)(h:∀ρ w,gD ρ->Below B w0 w->dW l (λ j _ v=>fY X j=false->v=u j) a0.eval ρ w o (tmpsOf o)->(execOp ρ o).run P w=.ok (.value (u i)) w):pU P l u X CL a0 B w0 i o:=Zf4
theorem xl(hg:o.guard=none)(hn:fY X i=false)(hc:CL.contains i=true)(h:∀ρ w,gD ρ->Below B w0 w->dW l (λ j _ v=>fY X j=false->v=u j) a0.eval ρ w o (tmpsOf o)->uj P o ρ w λ v w'=>v=u i/\ai w w'):pU P l u X CL a0 B w0 i o:=Zf4
theorem Ha{ρ:Operand->Value}{w:t_}{f:FuncId}{args:x_}{v:Value}(h:(execOp ρ o).run P w=.ok (.enter f args) w)(hc:Calls P f args w λ e w'=>e=.returned v/\ai w w'):uj P o ρ w λ x w'=>x=v/\ai w w':=
 bu h (hc.mono λ e w' ⟨h1,h2⟩=>⟨v,h1,rfl,h2⟩)
end
variable{q:Nat}{old:x_}
theorem aip{w:t_}{T:TypeId}(h:aB w q T old)(cs:x_):aB (w.setRow q cs) q T cs:=setRow_heap w q old cs T (0,0) h
theorem E6{w:t_}(h:Below B w w')(hq:B<=q)(cs:x_):Below B w (w'.setRow q cs):=below_setRow h hq cs
def Bc(w:t_):Prop:=Lib.TabIs prog w "internal/strconv.uint64pow10" .u64 Lib.pow10Tab
theorem Bc.later{w:t_}(h:Bc w)(hb:ai w w'):Bc w':=by
 unfold Bc Lib.TabIs World.var? at*;cases hg:prog.globalNamed "internal/strconv.uint64pow10" with
 |none=>rw[hg]at h;simp at h
 |some g=>
   rw[hg]at h;simp only[Option.bind_some]at h⊢;have:g<w.heap.size:=by rcases gR g w.heap.size with hlt|wI;exact hlt;rw[Array.getElem?_eq_none wI]at h;simp at h
   rw[hb.block g this];exact h
theorem nQ(w:t_):∀k,ai w (w.drewN k)
 |0=>Below.refl _ _
 |k+1=>(nQ w k).drew
theorem QB(w:t_)(k:Nat)(os:Array Obj):ai w («Sort».grow (w.drewN k) os):=by have h:=nQ w k;refine⟨h.os,h.tape,h.output,?_,λ i hi=>?_⟩;have:=h.size;simp[«Sort».grow];rw[<-h.block i hi];have:=h.size;simp only[«Sort».grow];rw[Array.getElem?_append_left WC]
theorem yV(a b:Int)(w:t_):ar 97 #[ag a,ag b] w λ e w'=>e=.returned (.bool (ck a b))/\ai w w':=by
 have hb:=Below.refl w.heap.size w;unfold ck;by_cases h1:a=0
 ·subst h1;go_enter func97,ntmps97;exact Zfm
 have t1:(a==0)=false:=by simp[h1]
 have t1':decide (a=0)=false:=by simp[h1]
 have T1:=aa t1;by_cases h2:b=0
 ·subst h2;clear h1;go_enter func97,ntmps97;go_wp2_with fail;go_ret;exact⟨by rw[T1.ae];rfl,hb⟩
 have t2:(b==0)=false:=by simp[h2]
 have t2':decide (b=0)=false:=by simp[h2]
 have T2:=aa t2;clear h1 h2;go_enter func97,ntmps97;go_wp2_with fail;go_ret;exact⟨by rw[T1.ae,T2.ae];simp,hb⟩
def ou(r:Int×Int):Int:=if r.2=0/\ck r.1 1=false then 40 else r.2
variable{t:Int}
theorem Hb:ou (t,0)=if ck t 1=false then 40 else 0:=by unfold ou;by_cases h:ck t 1=false;rw[if_pos h,if_pos ⟨rfl,h⟩];rw[if_neg h,if_neg (λ h2=>h h2.2)]
variable{e:Int}
theorem CU(h:e≠0):ou (t,e)=e:=if_neg (λ h2=>h h2.1)
theorem vh(t e:Int)(w:t_):ar 58 #[ag t,af e] w λ e_ w'=>e_=.returned (af (ou (t,e)))/\ai w w':=by
 obtain⟨r,hr⟩:∃r,r=ou (t,e):=⟨_,rfl⟩;rw[<-hr];by_cases h1:e=0
 ·subst h1;rw[Hb]at hr;have hg:=yV t 1;cases hv:ck t 1
  ·rw[hv]at hg hr;have hr2:r=40:=hr;exact ZfR
  rw[hv]at hg hr;have hr2:r=0:=hr;exact ZfR
 rw[CU h1]at hr;subst hr;have t1:(r==0)=false:=by simp[h1]
 have t1':decide (r=0)=false:=by simp[h1]
 have hb:=Below.refl w.heap.size w;clear h1;go_enter func58,ntmps58;exact Zfm
def jD(k:Int):u_:=⟨#[35]⟩++⟨(Lib.itoa k).toArray⟩
def MK(k:Int):Ex:=⟨2,⟨0,0,⟨#[]⟩⟩,jD k,0,none,0,0⟩
def zbn.Kae(h:p:=by exact bodyPost_ret (v:=.agg #[ag 2,ag 0,af 0,au,.string (({data:= #[35]}:u_)++{data:=(Lib.itoa k).toArray}),af 0,az]) (by simp[results,results60,go_sem,z0,z1,x2,x3,x4,x5,x6];done) rfl ⟨rfl,hb3⟩):=h
def zgi.KbC(h:p:=by
 rw[<-hg]at HX⊢;have xF:=aa hg;clear hg;go_wp2_with fail;refine(Tryz.strconv_Itoa k HK.ae.1 HK.ae.2 W1 HE.ae).mono ?_;rintro e w1 ⟨rfl,kk,os,rfl⟩;have b1:=QB W1 kk os;generalize «Sort».grow (W1.drewN kk) os=Kx at*;have H2:=aa (HX.later b1);have HB:=aa (aj.then bb b1);have hgb:w.heap.size<=g:=TaV;have Ae:=aa hgb;have EXI:(prog.info? 46).map (·.size)=some 7:=Taa;have HEX:=aa EXI;clear HX bb b1 hgb EXI;go_wp2_with (refine wpList_store_row rfl 46 (.tmp 2) (.tmp 6) rfl g #[ag 2,ag 0,af 0,au,.string (({data:= #[35]}:u_)++{data:=(Lib.itoa k).toArray}),af 0,az] rfl rfl 46 dn H2.ae HEX.ae rfl Taa ?_);rotate_left;simp only[Act.put];have k1:=aip H2.ae #[ag 2,ag 0,af 0,au,.string (({data:= #[35]}:u_)++{data:=(Lib.itoa k).toArray}),af 0,az];have hb3:=E6 HB.ae Ae.ae #[ag 2,ag 0,af 0,au,.string (({data:= #[35]}:u_)++{data:=(Lib.itoa k).toArray}),af 0,az];generalize World.setRow _ _ _=W2 at*;open zbn in exact Zay
 exfalso;have:=Lib.itoa_length_le k HK.ae.1 HK.ae.2;omega):=h
theorem pX(k:Int)(h0: -9223372036854775808<=k)(h1:k<=9223372036854775807)(w:t_)(hE:Bc w):ar 60 #[af k] w λ e w'=>e=.returned (nt (MK k))/\ai w w':=by have bb:=ah w (.cells dn 46);have HX:=aB.new w 46 dn;have HE:=aa (hE.later bb);have HK:=aa (And.intro h0 h1);clear hE h0 h1;go_enter func60,ntmps60;open zgi in exact ZeH
mutual
def Tr.depth:Tr->Int
 |.mk op v name width args=>RowKit.wrap64 (Tr.iX args+1)
def Tr.iX:vI->Int
 |[]=>0
 |t::ts=>max t.depth (Tr.iX ts)
end
def air(f:FuncId)(w:t_)(y:Ex)(b:Int):Prop:=∀W,ai w W->ar f #[.agg (ay y)] W λ e w'=>e=.returned (af b)/\ai W w'
def Bd:List Int->Int
 |[]=>0
 |a::l=>max a (Bd l)
theorem yX:∀(l:List Int) (a:Int),Bd (l++[a])=max (Bd l) a
 |[],a=>by simp only[nil_append,Bd];omega
 |b::l,a=>by simp only[cons_append,Bd,yX l a];omega
theorem Af:∀ts:vI,Tr.iX ts=Bd (ts.map Tr.depth)
 |[]=>by simp[Tr.iX,Bd]
 |t::ts=>by simp[Tr.iX,Bd,Af ts]
def zcP.Kaw(h:p:=by generalize hm:Bd ((args.take i).map (·.2))=m;have HM:=aa hm;clear hm;by_cases hmd:m<v;exact Zcq;exact Zcq):=h
def zgR.KbP(h:p:=by
 clear x6;go_loopw [3,9] (λ m iv wr=>∃i:Nat,i<=args.length/\iv=af i/\m=af (Bd ((args.take i).map (·.2)))/\ai W wr) (λ _ iv _=>args.length-(intOf iv).toNat);case atStart=>exact Zg6
 case round=>
  obtain⟨i,hi,rfl,rfl,hW⟩:=hrel;have x6:=(HX.later hW).cell 6;simp only[Uaa]at x6;by_cases hlt:i<args.length
  ·obtain⟨b,off,rfl,ly,hex⟩:=(HA.ae.below (aj.then Bf.ae hW)).at_ (show i <(args.map (·.1)).length by simpa using hlt);have jR:(args.map (·.1))[i]' Tao=args[i].1:=by simp
   open zcP in exact Zbg
  obtain rfl:i=args.length:=by omega
  have mC:args.take args.length=args:=take_length;rw[mC];generalize hmx:Bd (args.map (·.2))=m;have HMX:=aa hmx;clear hmx;exact Zh6):=h
theorem QC(Lx:Int)(Kx:Val)(lR:u_)(ir:Int)(A:xP)(c:Nat)(args:List (Ex×Int))(w:t_)(hl:args.length<=1599289640356)(hA:RE w w.heap.size A (args.map (·.1)))(hE:∀a∈args,air 57 w a.1 a.2):ar 57 #[.agg #[ag Lx,ag Kx.k,af Kx.n,.string Kx.s,.string lR,af ir,.slice A args.length c]] w λ e w'=>e=.returned (af (wrap64 (Bd (args.map (·.2))+1)))/\ai w w':=by have HA:=aa hA;have HE:=aa hE;clear hA hE;have HX:=aB.new w 46 #[ag Lx,ag Kx.k,af Kx.n,.string Kx.s,.string lR,af ir,.slice A args.length c];have hb0:=ah w (.cells #[ag Lx,ag Kx.k,af Kx.n,.string Kx.s,.string lR,af ir,.slice A args.length c] 46);go_enter func57,ntmps57;go_upto_region 1 with fail;generalize w.alloc _=W at*;have Bf:=aa hb0;clear hb0;open zgR in exact Ze4
theorem Tr.E7(t:Tr)(y:Ex)(w:t_)(bc:t.ok)(hat:t.at_ w (Old w) y):∀W,ai w W->ar 57 #[nt y] W λ e w'=>e=.returned (af t.depth)/\ai W w':=by refine Tr.tell Tr.depth (λ _=>True) (λ W y r=>ar 57 #[nt y] W λ e w'=>e=.returned (af r)/\ai W w') (λ _ _ _ _ _ _ _ _=>trivial) ?_ t y w bc trivial hat;intro op v name width ts A c args w bc _ hlen hm hA _ hE;have k:=QC op v name width A c args w (by unfold Tr.ok at bc;rw[hlen];exact bc.2.1) hA hE;unfold Tr.depth;rw[Af,<-hm];exact k
def t5V(y:Ex)(gp:Nat)(cV:Value)(t e:Int):Nat->t_->Value->Prop
 |0,_,v=>v=.agg (ay y)
 |1,_,v=>v=aw gp
 |2,_,v=>v=aw gp
 |3,_,v=>v=aY gp 8
 |4,_,v=>v=cV
 |5,_,v=>v=.tuple #[ag t,af e]
 |6,_,v=>v=.tuple #[ag t,af e]
 |7,_,v=>v=ag t
 |8,_,v=>v=af e
 |9,_,v=>v=ag t
 |10,_,v=>v=af e
 |_,_,_=>False
theorem yY(y:Ex)(gp:Nat)(cV:Value)(t e:Int):∀i w w' v,t5V y gp cV t e i w v->aj w w'->t5V y gp cV t e i w' v:=by exact ZdT
def zhZ.Kcf(h:p:=by
 replace q5: .tuple #[ag bt,af er]=a5:=Eq.symm q5;subst q5;replace q6: .tuple #[ag bt,af er]=a6:=Eq.symm q6;subst q6;replace q7: ag bt=a7:=Eq.symm q7;subst q7;replace q8: af er=a8:=Eq.symm q8;subst q8;replace q3: ag bt=a9:=Eq.symm q3;subst q3;replace Wm: af er=Hc:=Eq.symm Wm;subst Wm;simp only[bw,Act.put,Uac];have ez:=aj.then hB (aj.then hb (aj.then Oe hL));have t1:(er != 0)=true:=by have:=PW.ae;simpa using this
 have t2:decide (er=0)=false:=by have:=PW.ae;simpa using this
 clear yC k1 Pw Sh Oe hL hb hB;go_wp2_with fail;exact bodyPost_ret (v:=.tuple #[ag 0,af er]) Tap rfl ⟨rfl,ez⟩):=h
def zgf.KbB(h:p:=by
 refine bD 11 (t5V y gp cV bt er) (yY _ _ _ _ _) Taa Taa Taa ?_ ?_;exact Za0
 open zhZ in exact Zgt):=h
def zfh.Kbb(h:p:=by clear Jo;generalize bad=y at*;unfold cC at hex;open zgf in exact ZeG):=h
def zdi.KaB(h:p:=by
 go_loopw [6,15] (λ kv Kx wr=>∃i:Nat,i<=args.length/\Kx=af i/\aH dS 5 1 wr W1.heap.size kv ((args.take i).map (·.2))/\ai W1 wr) (λ _ Kx _=>args.length-(intOf Kx).toNat);case atStart=>exact Zc2
 case round=>
  obtain⟨i,hk,rfl,hp,hb⟩:=hrel;have HP:=aa hp;clear hp;rcases gR i args.length with hlt|wI
  ·have AV:i<n:=by have:=HN.ae;omega
   obtain⟨b,off,rfl,ly,hex⟩:=(HA.ae.below hb).at_ (show i <(args.map (·.1)++bad::post).length by simp;omega);have jR:(args.map (·.1)++bad::post)[i]' Tac=args[i].1:=by rw[getElem_append_left Tao];simp
   exact Zaw
  open zfh in exact Zdg):=h
theorem Wk(gp:Nat)(cV:Value)(op:Int)(xv:Val)(name:u_)(width:Int)(A:xP)(n c:Nat)(args:List (Ex×Int))(bad:Ex)(bt er:Int)(post:v_)(w:t_)(qZ:gp<w.heap.size)(E8:w.cell? ⟨gp,8,none⟩=some cV)(hn:args.length+1+post.length=n)(hl:n<=1599289640356)(hA:RE w w.heap.size A (args.map (·.1)++bad::post))(hE:∀a∈args,pL w cV a.1 a.2 0)(kN:pL w cV bad bt er)(her:er≠0):
  ar 153 #[aw gp,.agg #[ag op,ag xv.k,af xv.n,.string xv.s,.string name,af width,.slice A n c]] w λ en w'=>en=.returned (.tuple #[ag 0,af er])/\ai w w':=by have HN:=aa hn;have Jo:=aa kN;have PW:=aa her;clear hn kN her;open zdi in exact Zbp
def RK(w:t_)(B:Nat)(A:xP)(l:List Int):Prop:=l=[]\/∃g,A=some ⟨g,0,none⟩/\g<B/\∀(i:Nat) x,l[i]?=some x->w.cell? ⟨g,i,none⟩=some (ag x)
theorem F4{w:t_}{A:xP}{l:List Int}(h:l=[]\/∃g,A=some ⟨g,0,none⟩/\g<w.heap.size/\∀i x j u,l[i]?=some x->j<1->(dS x)[j]?=some u->w.cell? ⟨g,i*1+j,none⟩=some u):RK w w.heap.size A l:=by rcases h with h|⟨g,h1,h2,h3⟩;exact Zis;exact .inr ⟨g,h1,h2,λ i x hx=>by have:=h3 i x 0 _ hx WC rfl;simpa using this⟩
theorem RK.at_{w:t_}{A:xP}{l:List Int}(h:RK w B A l){k:Nat}(hk:k<l.length):∃g,A=some ⟨g,0,none⟩/\g<B/\w.cell? ⟨g,k,none⟩=some (ag l[k]):=by rcases h with h|⟨g,h1,h2,h3⟩;subst h;simp at hk;exact⟨g,h1,h2,h3 k _ (getElem?_eq_getElem hk)⟩
def kq(op:Int)(ks:List Int):Int×Int:=
 if (ks.length:Int)≠iR op then(0,21)
 else if (op=23\/op=26)/\ck (ks.getD 0 0) 2=false then(0,40)
 else if ks.length=2/\ck (ks.getD 1 0) 2=false then(0,40)
 else if ks.length=0\/op=23\/op=26\/op=22 then(2,0)
 else(ks.getD 0 0,0)
theorem ML{op:Int}:iR op=0\/iR op=1\/iR op=2:=by
 unfold iR Jw;repeat' split
 all_goals simp
theorem MM{op:Int}(h:op=23\/op=26):iR op=1:=by rcases h with rfl|rfl<;>rfl
theorem QD:iR 22=1:=rfl
def zio.Kcq(h:p:=by clear iB;exact Zfw):=h
def ziq.Kcq(h:p:=by have c0':=(b3.cell (p:=⟨g0,0,none⟩) hg0).trans HC0.ae;clear iB;go_wp2_with fail;exact bodyPost_ret (v:=.tuple #[ag k0,af 0]) Tap rfl ⟨rfl,aj.then fT.ae b3⟩):=h
def zdj.KaB(h:p:=by
 go_loopw [6,15] (λ kv Kx wr=>∃i:Nat,i<=args.length/\Kx=af i/\aH dS 5 1 wr W1.heap.size kv ((args.take i).map (·.2))/\ai W1 wr) (λ _ Kx _=>args.length-(intOf Kx).toNat);case atStart=>exact Zc2
 case round=>
  obtain⟨i,hk,rfl,hp,hb⟩:=hrel;have HP:=aa hp;clear hp;rcases gR i args.length with hlt|wI
  ·have AV:i<n:=by have:=HN.ae;omega
   obtain⟨b,off,rfl,ly,hex⟩:=(HA.ae.below hb).at_ (show i <(args.map (·.1)).length by simpa using hlt);have jR:(args.map (·.1))[i]' Tao=args[i].1:=Tad;exact Zaw
  have mC:args.take i=args:=take_of_length_le wI;have AV:¬i<n:=by have:=HN.ae;omega
  rw[mC]at HP;obtain⟨A9,c9,hu9,hKC⟩:=ey (f:=dS) (size:=1) (λ _=>rfl) HP.ae;have BJ:(args.map (·.2)).length=n:=by rw[length_map];exact HN.ae
  rw[BJ]at hu9;have HRK:=aa (F4 hKC);subst hu9;have bz:=HX.later hb;have ez:=aj.then hB hb;have fT:=aa ez;generalize qV:args.map (·.2)=ks at*;have YL:=aa BJ;clear hKC hB HX qV BJ ez HP F2 CV HA HE mC wI;have iB:=bz.cell 0;simp only[Uaa]at iB;go_upto_region 10 with fail;obtain⟨sb,hsb⟩:∃sb:Bool,(sb=true->op=23\/op=26)/\(sb=false->op≠23/\op≠26):=by by_cases h:op=23\/op=26;exact Zhx;exact⟨false,λ h=>Tae,λ _=>⟨λ h2=>h (.inl h2),λ h2=>h (.inr h2)⟩⟩
  have um:=aa hsb;clear hsb;go_cut [11] (λ sv wx=>sv=.bool sb/\wx=wr)
  case first=>
   cases sb
   ·obtain⟨h1,h2⟩:=um.ae.2 rfl;have s1:(op==23)=false:=by simp[h1]
    have s2:(op==26)=false:=by simp[h2]
    have s3:decide (op=23)=false:=by simp[h1]
    have s4:decide (op=26)=false:=by simp[h2]
    clear h1 h2;go_wp2_with fail;go_meet;exact ZfK
   rcases um.ae.1 rfl with h1|h1
   ·have s1:(op==23)=true:=by simp[h1]
    have s3:decide (op=23)=true:=by simp[h1]
    clear h1;go_wp2_with fail;go_meet;exact ZfK
   have s1:(op==23)=false:=by simp[h1]
   have s2:(op==26)=true:=by simp[h1]
   have s3:decide (op=23)=false:=by simp[h1]
   have s4:decide (op=26)=true:=by simp[h1]
   clear h1;go_wp2_with fail;go_meet;exact ZfK
  case rest=>
  obtain⟨rfl,rfl⟩:=hcut;have Wp:=C4 op;clear iB hb AV hk;by_cases VI:(n:Int)=iR op
  case neg=>
   have hr:rt=(0,21):=by rw[MN.ae];unfold kq;rw[YL.ae];exact if_pos VI
   subst hr;obtain⟨ao,hao⟩:∃ao,ao=iR op:=⟨_,rfl⟩;rw[<-hao]at Wp VI;have t1:((n:Int) != ao)=true:=by simp[VI]
   have t2:decide ((n:Int)=ao)=false:=by simp[VI]
   have t3:((n:Int)==ao)=false:=by simp[VI]
   have JL:=aa Wp;have iB:=bz.cell 0;simp only[Uaa]at iB;clear Wp VI hao;go_wp2_with fail;refine(JL.ae _).mono ?_;rintro e w2 ⟨rfl,b3⟩;go_wp2_with fail;exact bodyPost_ret (v:=.tuple #[ag 0,af 21]) Tap rfl ⟨rfl,aj.then fT.ae b3⟩
  have Wt:=YL.ae;have HNA:=aa VI;rw[<-VI]at Wp;have pY:n=0\/n=1\/n=2:=by rcases @ML op with h|h|h<;>omega
  have JL:=aa Wp;clear Wp VI;have iB:=bz.cell 0;simp only[Uaa]at iB;rcases pY with rfl|rfl|rfl
  ·have qV:ks=[]:=eq_nil_of_length_eq_zero Wt;subst qV;clear Wt;have hsb:sb=false:=by exact Zij
   subst hsb;have hr:rt=(2,0):=by rw[MN.ae];unfold kq;rw[if_neg (λ h=>h HNA.ae),if_neg (λ h=>by rcases um.ae.2 rfl with⟨a,b⟩;rcases h.1 with c|c;exact a c;exact b c),if_neg (λ h=>by cases h.1),if_pos (.inl rfl)]
   subst hr;go_wp2_with fail;refine(JL.ae _).mono ?_;rintro e w2 ⟨rfl,b3⟩;exact Zfw
  ·obtain⟨k0,rfl⟩:∃k0,ks=[k0]:=by
    match ks,Wt with
    |[k0],_=>exact⟨k0,rfl⟩
   clear Wt;obtain⟨g0,rfl,hg0,hc0⟩:=HRK.ae.at_ (show 0 < [k0].length by simp);have hc0:wc.cell? ⟨g0,0,none⟩=some (ag k0):=hc0;have HC0:=aa hc0;clear hc0;cases sb
   ·by_cases JM:op=22
    ·have hr:rt=(2,0):=by rw[MN.ae];unfold kq;rw[if_neg (λ h=>h HNA.ae),if_neg (λ h=>by rcases um.ae.2 rfl with⟨a,b⟩;rcases h.1 with c|c;exact a c;exact b c),if_neg (λ h=>by cases h.1),if_pos (.inr (.inr (.inr JM)))]
     subst hr;have s1:(op==22)=true:=by simp[JM]
     have s2:decide (op=22)=true:=by simp[JM]
     open zio in exact Zhk
    have hr:rt=(k0,0):=by rw[MN.ae];unfold kq;rw[if_neg (λ h=>h HNA.ae),if_neg (λ h=>by rcases um.ae.2 rfl with⟨a,b⟩;rcases h.1 with c|c;exact a c;exact b c),if_neg (λ h=>by cases h.1),if_neg (λ h=>by rcases um.ae.2 rfl with⟨a,b⟩;rcases h with c|c|c|c;cases c;exact a c;exact b c;exact JM c)];rfl
    subst hr;have s1:(op==22)=false:=by simp[JM]
    have s2:decide (op=22)=false:=by simp[JM]
    open ziq in exact Zhk
   have hgo:=yV k0 2;have adf:=um.ae.1 rfl;cases hv:ck k0 2
   ·have hr:rt=(0,40):=by rw[MN.ae];unfold kq;rw[if_neg (λ h=>h HNA.ae),if_pos ⟨adf,hv⟩]
    subst hr;rw[hv]at hgo;have YM:=aa hgo;clear hgo hv adf;go_wp2_with fail;refine(JL.ae _).mono ?_;rintro e w2 ⟨rfl,b3⟩;have c0':=(b3.cell (p:=⟨g0,0,none⟩) hg0).trans HC0.ae;exact Zdr
   have hr:rt=(2,0):=by rw[MN.ae];unfold kq;rw[if_neg (λ h=>h HNA.ae),if_neg (λ h=>by have:=h.2;rw[show [k0].getD 0 0=k0 from rfl,hv]at this;cases this),if_neg (λ h=>by cases h.1),if_pos (by rcases adf with h|h;exact .inr (.inl h);exact .inr (.inr (.inl h)))]
   subst hr;rw[hv]at hgo;have YM:=aa hgo;clear hgo hv adf;go_wp2_with fail;refine(JL.ae _).mono ?_;rintro e w2 ⟨rfl,b3⟩;have c0':=(b3.cell (p:=⟨g0,0,none⟩) hg0).trans HC0.ae;clear iB;go_wp2_with fail;refine(YM.ae _).mono ?_;rintro e KK ⟨rfl,b2⟩;go_wp2_with fail;exact bodyPost_ret (v:=.tuple #[ag 2,af 0]) Tap rfl ⟨rfl,aj.then (aj.then fT.ae b3) b2⟩
  obtain⟨k0,Lw,rfl⟩:∃k0 Lw,ks=[k0,Lw]:=by
   match ks,Wt with
   |[k0,Lw],_=>exact⟨k0,Lw,rfl⟩
  clear Wt;have hsb:sb=false:=by exact Zij
  subst hsb;have JM:op≠22:=λ h=>by have h1:=HNA.ae;rw[h,QD]at h1;omega
  obtain⟨g0,rfl,hg0,hc0⟩:=HRK.ae.at_ (show 0 < [k0,Lw].length by simp);obtain⟨g1,hg1,_,hc1⟩:=HRK.ae.at_ (show 1 < [k0,Lw].length by simp);injection hg1 with hg1;injection hg1 with hg1 _ _;subst hg1;have hc0:wc.cell? ⟨g0,0,none⟩=some (ag k0):=hc0;have hc1:wc.cell? ⟨g0,1,none⟩=some (ag Lw):=hc1;have HC0:=aa hc0;have Qa:=aa hc1;have s1:(op==22)=false:=by simp[JM]
  have s2:decide (op=22)=false:=by simp[JM]
  have H22:=aa JM;clear hc0 hc1 JM;have hgo:=yV Lw 2;cases hv:ck Lw 2
  ·have hr:rt=(0,40):=by rw[MN.ae];unfold kq;rw[if_neg (λ h=>h HNA.ae),if_neg (λ h=>by rcases um.ae.2 rfl with⟨a,b⟩;rcases h.1 with c|c;exact a c;exact b c),if_pos ⟨rfl,hv⟩]
   subst hr;rw[hv]at hgo;have YM:=aa hgo;clear hgo hv;go_wp2_with fail;refine(JL.ae _).mono ?_;rintro e w2 ⟨rfl,b3⟩;have c1':=(b3.cell (p:=⟨g0,1,none⟩) hg0).trans Qa.ae;exact Zdr
  have hr:rt=(k0,0):=by rw[MN.ae];unfold kq;rw[if_neg (λ h=>h HNA.ae),if_neg (λ h=>by rcases um.ae.2 rfl with⟨a,b⟩;rcases h.1 with c|c;exact a c;exact b c),if_neg (λ h=>by have:=h.2;rw[show [k0,Lw].getD 1 0=Lw from rfl,hv]at this;cases this),if_neg (λ h=>by rcases um.ae.2 rfl with⟨a,b⟩;rcases h with c|c|c|c;cases c;exact a c;exact b c;exact H22.ae c)];rfl
  subst hr;rw[hv]at hgo;have YM:=aa hgo;clear hgo hv;go_wp2_with fail;refine(JL.ae _).mono ?_;rintro e w2 ⟨rfl,b3⟩;have c1':=(b3.cell (p:=⟨g0,1,none⟩) hg0).trans Qa.ae;clear iB;go_wp2_with fail;refine(YM.ae _).mono ?_;rintro e KK ⟨rfl,b2⟩;have c10:=((bz.later b3).later b2).cell 0;simp only[Uaa]at c10;have c0':=(b2.cell (p:=⟨g0,0,none⟩) (eS hg0 b3.size)).trans ((b3.cell (p:=⟨g0,0,none⟩) hg0).trans HC0.ae);clear c1';go_wp2_with fail;exact bodyPost_ret (v:=.tuple #[ag k0,af 0]) Tap rfl ⟨rfl,aj.then (aj.then fT.ae b3) b2⟩):=h
theorem Wo(gp:Nat)(cV:Value)(op:Int)(xv:Val)(name:u_)(width:Int)(A:xP)(n c:Nat)(args:List (Ex×Int))(w:t_)(qZ:gp<w.heap.size)(E8:w.cell? ⟨gp,8,none⟩=some cV)(hn:args.length=n)(hl:n<=1599289640356)(hA:RE w w.heap.size A (args.map (·.1)))(hE:∀a∈args,pL w cV a.1 a.2 0):
  ar 153 #[aw gp,.agg #[ag op,ag xv.k,af xv.n,.string xv.s,.string name,af width,.slice A n c]] w λ en w'=>en=.returned (.tuple #[ag (kq op (args.map (·.2))).1,af (kq op (args.map (·.2))).2])/\ai w w':=by have HN:=aa hn;clear hn;obtain⟨rt,hrt⟩:∃rt,rt=kq op (args.map (·.2)):=⟨_,rfl⟩;rw[<-hrt];have MN:=aa hrt;clear hrt;open zdj in exact Zbp
def gJ(cols:List aZ)(op:Int)(args:vI):Int×Int:=
 if iu (Tr.types cols args)≠0 then(0,iu (Tr.types cols args))else kq op ((Tr.types cols args).map (·.1))
variable{CA:xP}{cc:Nat}
theorem Tr.MO{cols:List aZ}(cj:cols.length<=140737488355328)(gp:Nat):∀(t:Tr) (y:Ex) (w:t_),t.ok->t.at_ w (Old w) y->RC w w.heap.size CA cols->gp<w.heap.size->w.cell? ⟨gp,8,none⟩=some (.slice CA cols.length cc)->
  ar 153 #[aw gp,nt y] w λ e w'=>e=.returned (.tuple #[ag (gJ cols t.op t.args).1,af (gJ cols t.op t.args).2])/\ai w w'
 |.mk op v name width ts,y,w,bc,hat,hC,qZ,E8=>by
   unfold Tr.at_ at hat;obtain⟨h1,h2,h3,h4,h5,ys,h6,h7⟩:=hat;unfold Tr.ok at bc;obtain⟨l,fI,hl2,uW⟩:=Tr.CD cols CA cc cj ts ys w bc.2.2.2.2.2 h7 hC;obtain⟨Lx,yv,lR,ir,yA,yn,yc⟩:=y;dsimp only at h1 h2 h3 h4 h5 h6;subst h1 h2 h3 h4 h5;have hlen:l.length=ts.length:=by
    have:(l.map (·.1)).length=ys.length:=by rw[fI]
    rw[length_map,h7.length]at this;exact this
   have hA:RE w w.heap.size yA (l.map (·.1)):=Tbf;have hn:=bc.2.1;show ar 153 #[aw gp,.agg #[ag Lx,ag yv.k,af yv.n,.string yv.s,.string lR,af ir,.slice yA ts.length yc]] w λ e w'=>e=.returned (.tuple #[ag (gJ cols Lx ts).1,af (gJ cols Lx ts).2])/\ai w w';unfold gJ;rw[<-hl2];rcases pN l with h0|⟨pre,bad,post,rfl,FA,kN⟩
   ·have hf:iu (l.map (·.2))=0:=se λ a ha=>by obtain⟨z,hz,rfl⟩:=List.mem_map.1 ha;exact h0 z hz
    rw[if_neg (by rw[hf];decide)];have k:=Wo gp (.slice CA cols.length cc) Lx yv lR ir yA ts.length yc (l.map λ a=>(a.1,a.2.1)) w qZ E8 (by rw[length_map];exact hlen) hn Tav (λ a ha=>by obtain⟨z,hz,rfl⟩:=List.mem_map.1 ha;have:=uW z hz;rw[h0 z hz]at this;exact this)
    have hm:(l.map λ a=>(a.1,a.2.1)).map (·.2)=(l.map (·.2)).map (·.1):=by simp[Function.comp_def]
    rw[hm]at k;exact k
   have hbE:=uW bad Tad;have hf:iu ((pre++bad::post).map (·.2))=bad.2.2:=by rw[map_append,map_cons];exact yL (λ a ha=>by obtain⟨z,hz',rfl⟩:=List.mem_map.1 ha;exact FA z hz') kN
   rw[if_pos (by rw[hf];exact kN),hf];exact Wk gp (.slice CA cols.length cc) Lx yv lR ir yA ts.length yc (pre.map λ a=>(a.1,a.2.1)) bad.1 bad.2.1 bad.2.2 (post.map (·.1)) w qZ E8 (by rw[<-hlen];simp;omega) hn Tav (λ a ha=>by obtain⟨z,hz',rfl⟩:=List.mem_map.1 ha;have:=uW z (by simp[hz']);rw[FA z hz']at this;exact this) hbE kN
def Qy.all(q:Qy):vI:=q.items.map (·.1)++(q.bQ++q.aG++q.fE)++q.ord.map (·.1)
def FJ(k:Nat):Tr:=.mk 2 aM (jD k) 0 []
structure dE where
 aD:vI
 aG:List aZ
def sw(cols:List aZ)(v:Val)(name:u_)(width:Int)(n:Nat):Int:=
 let e:=(Tr.type cols (.mk 2 v name width (List.replicate n (.mk 1 aM ByteArray.empty 0 [])))).2
 if e≠0 then e else 42
mutual
def Tr.turn(aG:vI)(cols:List aZ):Tr->dE->uC (Tr×dE)
 |.mk op v name width args,s=>
   match aG.findIdx? (λ g=>g.same (.mk op v name width args))with
   |some k=>.ok (FJ k,s)
   |none=>
     if isAgg op=true then
      if (gJ cols op args).2≠0 then .error (gJ cols op args).2
      else .ok (FJ s.aG.length,⟨s.aD++[.mk op v name width args],s.aG++[⟨jD s.aG.length,(gJ cols op args).1⟩]⟩)
     else match Tr.turns aG cols args s with
      |.error e=>.error e
      |.ok (ys,s')=>
        if op=2 then .error (sw cols v name width ys.length)
        else if ((Tr.mk op v name width ys).type s'.aG).2≠0 then .error ((Tr.mk op v name width ys).type s'.aG).2
        else .ok (.mk op v name width ys,s')
def Tr.turns(aG:vI)(cols:List aZ):vI->dE->uC (vI×dE)
 |[],s=>.ok ([],s)
 |t::ts,s=>match Tr.turn aG cols t s with
   |.error e=>.error e
   |.ok (y,s')=>match Tr.turns aG cols ts s' with
     |.error e=>.error e
     |.ok (ys,MP)=>.ok (y::ys,MP)
end
def pZ(g:Bool)(aG:vI)(cols:List aZ)(t:Tr)(s:dE):uC (Tr×Int×dE):=
 if g=false then(if (t.type cols).2≠0 then .error (t.type cols).2 else .ok (t,(t.type cols).1,s))
 else match t.turn aG cols s with
  |.error e=>.error e
  |.ok (y,s')=>if (y.type s'.aG).2≠0 then .error (y.type s'.aG).2 else .ok (y,(y.type s'.aG).1,s')
structure iY where
 aJ:Bool
 head:List aZ
 st:dE
 items:vI
 having:vI
 order:vI
def qf(cols:List aZ):vI->uC Unit
 |[]=>.ok ()
 |t::ts=>if ou (t.type cols)≠0 then .error (ou (t.type cols))else qf cols ts
def lF(cols:List aZ):vI->Nat->uC (List aZ)
 |[],_=>.ok []
 |t::ts,k=>if (t.type cols).2≠0 then .error (t.type cols).2 else match lF cols ts (k+1)with
   |.error e=>.error e
   |.ok l=>.ok (⟨jD k,(t.type cols).1⟩::l)
def iD(t:Tr)(nm:u_):u_:=if nm.size=0/\t.op=2 then t.name else nm
def dr(g:Bool)(aG:vI)(cols:List aZ):List (Tr×u_)->dE->uC (vI×List aZ×dE)
 |[],s=>.ok ([],[],s)
 |(t,nm)::l,s=>match pZ g aG cols t s with
  |.error e=>.error e
  |.ok (y,k,s')=>match dr g aG cols l s' with
    |.error e=>.error e
    |.ok (ys,hd,MP)=>.ok (y::ys,⟨iD t nm,k⟩::hd,MP)
def dt(g:Bool)(aG:vI)(cols:List aZ):vI->dE->uC (vI×dE)
 |[],s=>.ok ([],s)
 |t::l,s=>match pZ g aG cols t s with
   |.error e=>.error e
   |.ok (y,k,s')=>if ck k 1=false then .error 40 else match dt g aG cols l s' with
     |.error e=>.error e
     |.ok (ys,MP)=>.ok (y::ys,MP)
def eF(g:Bool)(aG:vI)(cols:List aZ):List (Tr×Bool)->dE->uC (vI×dE)
 |[],s=>.ok ([],s)
 |(t,_)::l,s=>match pZ g aG cols t s with
  |.error e=>.error e
  |.ok (y,_,s')=>match eF g aG cols l s' with
    |.error e=>.error e
    |.ok (ys,MP)=>.ok (y::ys,MP)
def et(q:Qy)(cols:List aZ):uC iY:=
 if 1<q.bQ.length\/1<q.fE.length\/1<q.lim.length\/(q.lim.length=1/\q.lim.getD 0 0<0)then .error 1
 else if q.all.any (λ t=>decide (32<t.depth))=true then .error 1
 else match qf cols q.bQ with
 |.error e=>.error e
 |.ok _=>match lF cols q.aG 0 with
 |.error e=>.error e
 |.ok gc=>if q.items=[]/\q.aJ=true then .error 42
 else match dr q.aJ q.aG cols q.items ⟨[],gc⟩with
 |.error e=>.error e
 |.ok (is,hd,s1)=>match dt q.aJ q.aG cols q.fE s1 with
 |.error e=>.error e
 |.ok (hs,s2)=>match eF q.aJ q.aG cols q.ord s2 with
 |.error e=>.error e
 |.ok (os,s3)=>.ok ⟨q.aJ,if q.items=[] then cols else hd,s3,is,hs,os⟩
def bA(cols:List aZ)(row:w_)(l:vI):uC (w_):=
 if cf (Tr.fN cols row l)≠0 then .error (cf (Tr.fN cols row l))else .ok ((Tr.fN cols row l).map (·.1))
def eM(cols:List aZ)(l:vI)(row:w_):Bool×Int:=match l with
 |[]=>(true,0)
 |t::_=>wS (t.eval cols row)
def cP(cols:List aZ)(l:vI)(rows:z_):z_×Int:=
 (rows.filter λ r=>(eM cols l r).2==0&&(eM cols l r).1,bX (rows.map λ r=>(eM cols l r).2))
def Hd(c:aZ)(v:Val):Bool:=good v&&(v.k==0||v.k==c.t)
def iE:List aZ->w_->Bool
 |[],[]=>true
 |c::cs,v::vs=>Hd c v&&iE cs vs
 |_,_=>false
noncomputable def gT (s:St):Val×Int:=open Classical in if h:∃r:Val×Int,gZ s r.1 r.2/\r.1.Ok then Classical.choose h else if h:∃r:Val×Int,gZ s r.1 r.2 then Classical.choose h else(aM,0)
theorem JN{s:St}(h:∃v e,gZ s v e):gZ s (gT s).1 (gT s).2:=by obtain⟨v,e,hv⟩:=h;have h':∃r:Val×Int,gZ s r.1 r.2:=⟨(v,e),hv⟩;by_cases h2:∃r:Val×Int,gZ s r.1 r.2/\r.1.Ok;unfold gT;rw[dif_pos h2];exact(Classical.choose_spec h2).1;unfold gT;rw[dif_neg h2,dif_pos h'];exact Classical.choose_spec h'
theorem adg{s:St}(h:∃v e,gZ s v e/\v.Ok):(gT s).1.Ok:=by obtain⟨v,e,hv⟩:=h;have h':∃r:Val×Int,gZ s r.1 r.2/\r.1.Ok:=⟨(v,e),hv⟩;unfold gT;rw[dif_pos h'];exact(Classical.choose_spec h').2
def fU:vI->w_->List (Val×Val)
 |[],_=>[]
 |t::ts,l=>(if 0<t.args.length then l.getD 0 aM else aM,if 1<t.args.length then l.getD 1 aM else aM)::fU ts (l.drop t.args.length)
def fZ(l:z_):z_:=zZ bT l
def ow(i:Nat)(l:List (w_×List (Val×Val)))(k:w_):List (Val×Val):=(l.filter λ r=>bT r.1 k==0).map λ r=>r.2.getD i (aM,aM)
noncomputable def cg (ops:List Int) (l:List (w_×List (Val×Val))) (k:w_):List (Val×Int):=(List.range ops.length).map λ i=>gT (lS (ops.getD i 0) (ow i l k))
noncomputable def jE (ng:Nat) (aD:vI) (l:z_):uC (z_):=
 let ps:=l.map λ r=>(r.take ng,fU aD (r.drop ng))
 let ks:=if ng=0 then [[]] else fZ (ps.map (·.1))
 let e:=bX (ks.map λ k=>cf (cg (aD.map Tr.op) ps k))
 if e≠0 then .error e else .ok (ks.map λ k=>k++(cg (aD.map Tr.op) ps k).map (·.1))
def Be(l:List (uC α)):uC (List α):=
 if bX (l.map λ|.error e=>e|.ok _=>0)≠0 then .error (bX (l.map λ|.error e=>e|.ok _=>0))else .ok (l.filterMap λ|.ok x=>some x|.error _=>none)
structure eu where
 row:w_
 keys:w_
def F5(d:Bool)(a b:Val):Int:=if d=true then -(bC a b)else bC a b
def xm:List Bool->w_->w_->Int
 |[],_,_=>0
 |d::ds,a,b=>pB (F5 d (a.headD aM) (b.headD aM)) (xm ds a.tail b.tail)
def xo(ds:List Bool)(a b:eu):Int:=pB (xm ds a.keys b.keys) (bT a.row b.row)
def iF(ds:List Bool)(l:List eu):List eu:=D9 (xo ds) l
noncomputable def xp (q:Qy) (p:iY) (cols:List aZ) (rows:z_):uC (z_):=
 if (cP cols q.bQ rows).2≠0 then .error (cP cols q.bQ rows).2
 else if p.aJ=false then .ok (cP cols q.bQ rows).1
 else match Be ((cP cols q.bQ rows).1.map λ r=>bA cols r (q.aG++p.st.aD.flatMap Tr.args))with
 |.error e=>.error e
 |.ok l=>match jE q.aG.length p.st.aD l with
   |.error e=>.error e
   |.ok gs=>if (cP p.st.aG p.having gs).2≠0 then .error (cP p.st.aG p.having gs).2 else .ok (cP p.st.aG p.having gs).1
def ie(p:iY)(cols:List aZ):List aZ:=if p.aJ=true then p.st.aG else cols
def Ag(p:iY)(r l:w_):eu:=⟨if p.items=[] then r else l.take p.items.length,l.drop p.items.length⟩
noncomputable def yZ (p:iY) (cols:List aZ) (rows:z_):uC (List eu):=
 Be (rows.map λ r=>match bA (ie p cols) r (p.items++p.order)with|.error e=>.error e|.ok l=>.ok (Ag p r l))
noncomputable def iZ (q:Qy) (cols:List aZ) (rows:z_):uC (List aZ×z_):=
 match et q cols with
 |.error e=>.error e
 |.ok p=>if rows.any (λ r=> !iE cols r)=true then .error 40
   else match xp q p cols rows with
   |.error e=>.error e
   |.ok left=>match yZ p cols left with
     |.error e=>.error e
     |.ok ls=>.ok (p.head,((match q.lim with|[]=>iF (q.ord.map λ o:Tr×Bool=>o.2) ls|n::_=>(iF (q.ord.map λ o:Tr×Bool=>o.2) ls).take n.toNat).map eu.row))
def adh(gb:Nat)(b e:Int)(w:t_)(en:Ending)(w':t_):Prop:=en=.returned (.bool (e==0))/\aB w' gb 84 #[af (jO b e)]/\w.grownBy w' (some gb)
theorem CW{b:Int}:jO b 0=b:=if_neg (λ h=>h.1 rfl)
theorem F6(h:e≠0):jO 0 e=e:=if_pos ⟨h,.inl rfl⟩
theorem Wu{b:Int}(h:e≠0)(hb:b≠0):jO b e=if e<b then e else b:=by unfold jO;by_cases h1:e<b;rw[if_pos ⟨h,.inr h1⟩,if_pos h1];rw[if_neg (λ h2=>h2.2.elim hb h1),if_neg h1]
theorem xq(gb:Nat)(b e:Int)(w:t_)(h:aB w gb 84 #[af b]):ar 36 #[aw gb,af e] w (adh gb b e w):=by
 have hg:=aQ (p:=gb) (Below.refl w.heap.size w);have hc:=h.cell 0;have hf:=h.frozen 0;simp only[getElem?_toArray,getElem?_cons_zero]at hc;by_cases h0:e=0
 ·subst h0;have H:=aa h;clear h;go_enter func36,ntmps36;go_wp2_with fail;go_ret;exact⟨rfl,by rw[CW];exact H.ae,hg⟩
 have t1:(e==0)=false:=by simp[h0]
 have t2:(e != 0)=true:=by simp[h0]
 have t3:decide (e=0)=false:=by simp[h0]
 by_cases hb:b=0;subst hb;have H:=aa h;have HP:=aa (F6 h0);have T1:=aa t1;clear h h0;exact ZfN;have u1:(b==0)=false:=by simp[hb]
 have u3:decide (b=0)=false:=by simp[hb]
 have hp:=Wu h0 hb;by_cases hl:e<b;rw[if_pos hl]at hp;have v1:=decide_eq_true hl;have H:=aa h;have HP:=aa hp;have T1:=aa t1;clear h h0 hb hp hl;exact ZfN;rw[if_neg hl]at hp;have v1:=decide_eq_false hl;have H:=aa h;have HP:=aa hp;have T1:=aa t1;clear h h0 hb hp hl;go_enter func36,ntmps36;go_wp2_with fail;go_ret;exact⟨by rw[T1.ae];rfl,by rw[HP.ae];exact H.ae,hg⟩
def bh(r:aK):xr:=[.slice r.A r.l.length r.c]
variable{base':Nat}
theorem aH.down{f:α->xr}{e:TypeId}{size:Nat}{w:t_}{v:Value}{l:List α}(h:aH f e size w base v l)(hb:base'<=base):aH f e size w base' v l:=by obtain⟨h1,h2⟩:=h;refine⟨h1,?_⟩;rcases h2 with h2|⟨g,cap,cur,h3,h4,h5⟩;exact .inl h2;exact .inr ⟨g,cap,cur,h3,fK hb h4,h5⟩
theorem iG:(prog.info? 38).map (λ i=>(i.zero,i.size,i.bytes))=some (some (az),1,24):=by exact Zhr
def jS(f:w_->Bool×Int)(rs:List aK):List aK:=rs.filter λ r=>(f r.l).2==0&&(f r.l).1
theorem QF(f:w_->Bool×Int)(rs:List aK)(r:aK):jS f (rs++[r])=jS f rs++(if ((f r.l).2==0&&(f r.l).1)=true then [r] else []):=by unfold jS;rw[filter_append];congr 1;rw[filter_cons];rfl
theorem sx(l:List Int)(e:Int):bX (l++[e])=jO (bX l) e:=by unfold bX;rw[foldl_append];rfl
variable{wr w2:t_}
theorem dz{w:t_}{g:Nat}(h:ai w wr)(hg:wr.grownBy w2 (some g))(hB:w.heap.size<=g):ai w w2:=
 h.trans ⟨hg.os,hg.tape,hg.output,hg.size,λ k hk=>hg.block k (eS hk h.size) (λ e=>by injection e with e;omega)⟩
def adi(kv:Value)(gb:Nat)(le:Int):Nat->t_->Value->Prop
 |0,_,v=>v=kv
 |1,_,v=>v=aw gb
 |2,_,v=>v=af le
 |3,_,v=>v=kv
 |4,_,v=>v=af le
 |_,_,_=>False
theorem CX(kv:Value)(gb:Nat)(le:Int):∀i w w' v,adi kv gb le i w v->aj w w'->adi kv gb le i w' v:=by exact ZhI
def zif.Kcn(h:p:=by have JO:=aj.then hb hL;have HK5:=HO.ae.later hL;go_wp2_with fail;exact bodyPost_ret (v:=.tuple #[u9,af He]) (by simp[results,results32,go_sem]) rfl ⟨_,by rw[Wv.ae],HK5.down (Nat.le_of_lt HS0.ae),JO⟩):=h
theorem F7(lV cV:Value)(f:w_->Bool×Int)(rows:List aK)(RA:xP)(rc:Nat)(w:t_)(hr:rows.length<=1000000)(hR:RR w w.heap.size RA rows)
  (hT:∀r∈rows,∀W1,ai w W1->ar 16 #[lV,cV,.slice r.A r.l.length r.c] W1 λ e w'=>e=.returned (.tuple #[.bool (f r.l).1,af (f r.l).2])/\ai W1 w'):
  ar 32 #[lV,cV,.slice RA rows.length rc] w λ e w'=>∃v,e=.returned (.tuple #[v,af (bX (rows.map λ r=>(f r.l).2))])/\aH bh 38 1 w' w.heap.size v (jS f rows)/\ai w w':=by
 have HR:=aa hR;have HT:=aa hT;clear hR hT;have HX:=aB.new w 84 #[af 0];have h2:=ah w (.cells #[af 0] 84);have HS0:=aa (show w.heap.size <(w.alloc (.cells #[af 0] 84)).heap.size by rw[World.size_alloc];omega);go_enter func32,ntmps32;go_upto_region 2 with fail;generalize w.alloc _=W1 at*;obtain⟨g,hg⟩:∃g,g=w.heap.size:=⟨_,rfl⟩;rw[<-hg]at HX⊢;have xF:=aa hg;clear hg;have H1:=aa HX;have Bf:=aa h2;clear HX h2;go_wp2_with fail;go_loopw [9,16] (λ kv i wr=>∃k:Nat,k<=rows.length/\i=af k/\aH bh 38 1 wr W1.heap.size kv (jS f (rows.take k))/\aB wr g 84 #[af (bX ((rows.take k).map λ r=>(f r.l).2))]/\ai w wr/\W1.heap.size<=wr.heap.size) (λ _ i _=>rows.length-(intOf i).toNat);case atStart=>exact⟨0,gE,rfl,aH.nil,H1.ae,Bf.ae,aE⟩
 case round=>
  clear H1 Bf;obtain⟨k,hk,rfl,hK,hL,hb,hs⟩:=hrel;have HO:=aa hK;have HK:=aa hL;clear hK hL;by_cases hlt:k<rows.length
  ·obtain⟨b,off,rfl,ly,hcell⟩:=(HR.ae.below hb).at_ hlt;have ht:=HT.ae rows[k] (getElem_mem hlt);have nx:=aa (show rows.take (k+1)=rows.take k++[rows[k]] by rw[take_add_one,getElem?_eq_getElem hlt];rfl);generalize rows[k]=r at*;have ox:=aa (show jS f (rows.take (k+1))=jS f (rows.take k)++(if ((f r.l).2==0&&(f r.l).1)=true then [r] else []) by rw[nx.ae,QF]);have MQ:=aa (show bX ((rows.take (k+1)).map λ r=>(f r.l).2)=jO (bX ((rows.take k).map λ r=>(f r.l).2)) (f r.l).2 by rw[nx.ae,map_append];exact sx _ _);have BJ:(jS f (rows.take k)).length<=1000000:=fK (length_filter_le _ _) Taz;generalize jS f (rows.take k)=ks at*;generalize bX ((rows.take k).map λ r=>(f r.l).2)=He at*;clear nx;obtain⟨is,anz⟩:∃is,is=(f r.l).1:=⟨_,rfl⟩;obtain⟨er,her⟩:∃er,er=(f r.l).2:=⟨_,rfl⟩;rw[<-anz,<-her]at ht ox;rw[<-her]at MQ;have oC:=aa ht;clear ht anz her;have F8:=hcell.1;clear hcell;go_wp2_with fail;refine(oC.ae _ hb).mono ?_;rintro e w1 ⟨rfl,b1⟩;have hb1:=aj.then hb b1;replace HO:=aa (HO.ae.later b1);replace HK:=aa (HK.ae.later b1);replace hs:=fK hs b1.size;clear b1 oC F8 hb;go_wp2_with fail;refine(xq g He er _ HK.ae).mono ?_;rintro e W2 ⟨rfl,hl2,hg2⟩;have hne:=HO.ae.other HK.ae Tab;replace HO:=aa (HO.ae.grown hg2 hne);have hb2:=dz hb1 hg2 TaV;replace hs:=fK hs hg2.size;replace HK:=aa hl2;clear hg2 hne hb1 hl2;by_cases he:er=0
   ·subst he;cases is
    ·go_wp2_with fail;go_roundw;case rel=>exact⟨k+1,hlt,by go_num,by rw[ox.ae];simpa using HO.ae,by rw[MQ.ae];exact HK.ae,hb2,hs⟩
     case measure=>exact Za2
    go_upto_region 8 with fail;have hB:=ah W2 (.cells #[.slice r.A r.l.length r.c] 38);have hG:=aB.new W2 38 #[.slice r.A r.l.length r.c];have hb3:=aj.then hb2 hB
    replace HO:=aa (HO.ae.later hB);replace HK:=aa (HK.ae.later hB);have hbase:=fK hs hB.size;have HG:=aa hG;have hne:=HO.ae.other HK.ae Tab;have oD:=aa hne;have HS:=aa hbase;clear hG hB hne;go_wp2_with (first
     |(at_builtin
       refine aV rfl (.tmp 32) (.tmp 34) 29 rfl _ 24 underlying29 iG rfl WC r rfl Tar rfl HO.ae W2.heap.size rfl HG.ae WC WC hbase ?_;intro v4 w4 o4 g4;have b4:=bj HO.ae g4 hbase;have L4:=aa (HK.ae.grown g4 (Ne.symm oD.ae));have s4:=fK HS.ae g4.size;have O4:=aa o4;clear o4 g4 HO HG HK))
    go_roundw;case rel=>exact⟨k+1,hlt,by go_num,by rw[ox.ae];simpa using O4.ae,by rw[MQ.ae];exact L4.ae,hb3.trans (b4.mono (Nat.le_of_lt HS0.ae)),s4⟩
    case measure=>exact Za2
   have t1:(er==0)=false:=by simp[he]
   have T1:=aa t1;clear he;go_wp2_with fail;go_roundw;case rel=>exact⟨k+1,hlt,by go_num,by rw[ox.ae,T1.ae];simpa using HO.ae,by rw[MQ.ae];exact HK.ae,hb2,hs⟩
   case measure=>exact Za2
  have mC:rows.take k=rows:=take_of_length_le WC;rw[mC]at HO HK;have MN:=aa (show bX (rows.map λ r=>(f r.l).2)=bX (rows.map λ r=>(f r.l).2)from rfl);generalize hle:bX (rows.map λ r=>(f r.l).2)=He at*;clear MN;have Wv:=aa hle;clear hle;go_upto_region 10 with fail;refine bD 5 (adi u9 g He) (CX _ _ _) Taa Taa Taa ?_ ?_;exact Zfj;intro W3 hL;simp only[Uab];rintro a0-a1-a2-a3 q3 Hc Wm;replace q3:u9=a3:=Eq.symm q3;open zif in exact Zhg
def bH(y:Ex):xr:=[ag y.op,ag y.v.k,af y.v.n,.string y.v.s,.string y.name,af y.width,.slice y.A y.n y.c]
theorem gh:(prog.info? 46).map (λ i=>(i.zero,i.size,i.bytes))=some (some (.agg dn),7,88):=by exact Zhr
theorem F9(n:Nat)(hn:n<=1000000)(w:t_):ar 69 #[az,af n] w λ e w'=>∃v,e=.returned v/\aH bH 46 7 w' w.heap.size v []/\ai w w':=by
 have hb:=Below.refl w.heap.size w;by_cases h0:n=0
 ·subst h0;go_enter func69,ntmps69;go_wp2_with fail;go_ret;exact⟨_,rfl,aH.nil,hb⟩
 obtain⟨i0,kB,hz0,hz1,hz2⟩:=info_parts gh;have hrun:=Lib.run_append_nil_zeros (P:=prog) w 23 3 23 46 i0 _ .i64 .i64 underlying23 underlying3 kB hz0 n WC (by rw[hz1];decide) WC (by rw[hz2];omega);have wI:=grownCap_ge w n 0 46;have hle:=grownCap_le_maxLen w n 0 46 Tam;have hown:aH bH 46 7 (w.drew.alloc (.cells (Builtin.zeroCells (Value.agg dn).cells n++Builtin.zeroCells (Value.agg dn).cells (grownCap w n 0 46-n)) 46)) w.heap.size (aL w.heap.size 0 (grownCap w n 0 46)) []:=by refine⟨by simp,.inr ⟨w.heap.size,_,_,rfl,aE,heap_alloc_new w.drew _,gE,hle,?_,by simp⟩⟩;rw[Array.size_append,size_zeroCells,size_zeroCells];have e:(Value.agg dn).cells.size=7:=Taa;rw[e,<-Nat.add_mul];congr 1;omega
 have hb2:ai w (w.drew.alloc (.cells (Builtin.zeroCells (Value.agg dn).cells n++Builtin.zeroCells (Value.agg dn).cells (grownCap w n 0 46-n)) 46)):=hb.drew.alloc aE _;generalize World.alloc w.drew _=W at*;generalize grownCap w n 0 46=cp at*;have hnp:decide ((0:Int)<(n:Int))=true:=decide_eq_true WC;have aCs:decide (0<n)=true:=decide_eq_true WC;have auC:=aa hrun;have auD:=aa hown;have fT:=aa hb2;clear hrun hown hb2 h0 hb;go_enter func69,ntmps69;go_wp2_with (first
  |(at_builtin
    refine Lib.wpList_append_run _ rfl (.tmp 20) (.tmp 21) 23 3 rfl _ _ rfl rfl _ _ auC.ae ?_))
 go_ret;exact⟨_,rfl,auD.ae,fT.ae⟩
end Go.Proofs.YtndgjggokjickaaGreatDoor
namespace Go.Proofs.YtndgjggokjickaaGreatDoor.R
open _root_.Go.Proofs.Tryz
open List
variable{p:Sort _}
set_option maxHeartbeats 90000000
set_option maxRecDepth 100000
set_option linter.unusedSimpArgs false
set_option linter.unusedVariables false
def gj(c:UInt8):Bool:=(decide (97<=c)&&decide (c<=122))||(decide (65<=c)&&decide (c<=90))||c==95
def bE(c:UInt8):Bool:=decide (48<=c)&&decide (c<=57)
def fj(c:UInt8):Bool:=gj c||bE c
def sy(c:UInt8):Bool:=c==32||c==9||c==10||c==13
def JP(c:UInt8):Bool:=decide (65<=c)&&decide (c<=90)
def xt(c:UInt8):UInt8:=if JP c then c+32 else c
def cD:Bool->xb->xb
 |_,[]=>[]
 |true,c::r=>if c=10 then cD false r else cD true r
 |false,c::r=>if sy c then cD false r else if c=45/\r.head?=some 45 then cD true r else c::r
def mb(l:xb):Nat:=l.foldl (λ v c=>v*10+(c.toNat-48)) 0
def xu(l:xb):Bool:=(decide (l.length<=1)|| !(l.head?==some 48))&&decide (mb l<=9223372036854775807)
def gu:xb->Option (xb×xb)
 |[]=>none
 |[c]=>if c=39 then some ([],[])else none
 |c::d::r=>if c=39 then(if d=39 then(gu r).map λ x=>(39::x.1,x.2)else some ([],d::r))else(gu (d::r)).map λ x=>(c::x.1,x.2)
def signs:List (xb):=[[60,62],[60,61],[62,61],[40],[41],[44],[42],[43],[45],[47],[37],[61],[60],[62],[59]]
def lG:List (xb)->xb->Option (xb)
 |[],_=>none
 |s::l,r=>if s.isPrefixOf r then some s else lG l r
structure Wd where
 k:Nat
 s:xb
 n:Int
deriving DecidableEq
structure sB where
 w:Wd
 p:Nat
deriving DecidableEq
def iH:xb->Except Nat (Wd×xb)
 |[]=>.error 30
 |c::r=>
   if gj c then(if ((c::r).takeWhile fj).length<=32 then .ok (⟨1,((c::r).takeWhile fj).map xt,0⟩,(c::r).dropWhile fj)else .error 2)
   else if bE c then(if xu ((c::r).takeWhile bE)&& !(((c::r).dropWhile bE).head?.any gj)then .ok (⟨2,[],mb ((c::r).takeWhile bE)⟩,(c::r).dropWhile bE)else .error 30)
   else if c=39 then(match gu r with
    |some (t,rest)=>.ok (⟨3,t,0⟩,rest)
    |none=>.error 30)
   else match lG signs (c::r)with
    |some s=>.ok (⟨4,s,0⟩,(c::r).drop s.length)
    |none=>.error 30
def za(n:Nat):Nat->xb->Except (Nat×Nat) (List sB)
 |0,_=>.error (0,30)
 |f+1,r=>match cD false r with
   |[]=>.ok [⟨⟨0,[],0⟩,n⟩]
   |c::r'=>match iH (c::r')with
     |.error e=>.error (n-(c::r').length,e)
     |.ok (w,rest)=>match za n f rest with
       |.error e=>.error e
       |.ok l=>.ok (⟨w,n-(c::r').length⟩::l)
def Bg(s:xb):Except (Nat×Nat) (List sB):=if 4096<s.length then .error (0,2)else za s.length (s.length+1) s
def oy:List (xb):=[[97,110,100],[97,115],[98,121],[99,97,108,108],[99,114,101,97,116,101],[100,101,108,101,116,101],[100,101,115,99],[100,114,111,112],[102,97,108,115,101],[102,114,111,109],[103,114,111,117,112],[104,97,118,105,110,103],[105,110,115,101,114,116],[105,110,116,111],[105,115],[108,105,109,105,116],[110,111,116],[110,117,108,108],[111,110,108,121],[111,114],[111,114,100,101,114],[115,101,108,101,99,116],[115,101,116],[116,114,117,101],[117,112,100,97,116,101],[118,97,108,117,101,115],[119,104,101,114,101]]
def uq(s:xb):Bool:=oy.contains s
theorem kX:∀(b:Bool) (r:xb),(cD b r).length<=r.length
 |_,[]=>by simp[cD]
 |true,c::r=>by have h1:=kX false r;have h2:=kX true r;simp only[cD];split<;>simp only[length_cons]<;>omega
 |false,c::r=>by have h1:=kX false r;have h2:=kX true r;simp only[cD];split;simp only[length_cons];omega;split<;>simp only[length_cons]<;>omega
theorem sD:∀(r:xb) (t rest:xb),gu r=some (t,rest)->∃b,r=b++rest/\b≠[]
 |[],t,rest,h=>by simp[gu]at h
 |[c],t,rest,h=>by simp only[gu]at h;split at h;rename_i hc;injection h with h;injection h with h1 h2;subst h1 h2 hc;exact⟨[39],rfl,by simp⟩;cases h
 |c::d::r,t,rest,h=>by
   simp only[gu]at h;split at h
   ·rename_i hc;subst hc;split at h
    ·rename_i hd;subst hd;cases hr:gu r with
     |none=>rw[hr]at h;cases h
     |some x=>obtain⟨t',rest'⟩:=x;rw[hr]at h;simp only[Option.map_some,Option.some.injEq,Prod.mk.injEq]at h;obtain⟨rfl,rfl⟩:=h;obtain⟨b,hb,_⟩:=sD r t' _ hr;exact⟨39::39::b,by rw[hb];rfl,by simp⟩
    injection h with h;injection h with h1 h2;subst h1 h2;exact⟨[39],rfl,by simp⟩
   cases hr:gu (d::r)with
   |none=>rw[hr]at h;cases h
   |some x=>obtain⟨t',rest'⟩:=x;rw[hr]at h;simp only[Option.map_some,Option.some.injEq,Prod.mk.injEq]at h;obtain⟨rfl,rfl⟩:=h;obtain⟨b,hb,_⟩:=sD (d::r) t' _ hr;exact⟨c::b,by rw[hb];rfl,by simp⟩
theorem sF:∀{l:List (xb)}{r s:xb},lG l r=some s->s∈l/\s <+: r
 |[],r,s,h=>by simp[lG]at h
 |x::l,r,s,h=>by simp only[lG]at h;split at h;rename_i hp;injection h with h;subst h;exact⟨mem_cons_self,by simpa using hp⟩;obtain⟨h1,h2⟩:=sF h;exact⟨mem_cons_of_mem _ h1,h2⟩
variable{r rest:xb}
theorem CY{w:Wd}(h:iH r=.ok (w,rest)):∃b,r=b++rest/\b≠[]:=by
 match r with
 |[]=>simp[iH]at h
 |c::r=>
   simp only[iH]at h;split at h
   ·rename_i hc;split at h
    ·injection h with h;injection h with h1 h2;subst h1 h2;refine⟨_,(takeWhile_append_dropWhile (p:=fj)).symm,?_⟩;have:fj c=true:=by simp[fj,hc]
     simp[takeWhile_cons,this]
    cases h
   split at h
   ·rename_i hc;split at h
    ·injection h with h;injection h with h1 h2;subst h1 h2;refine⟨_,(takeWhile_append_dropWhile (p:=bE)).symm,?_⟩;simp[takeWhile_cons,hc]
    cases h
   split at h
   ·split at h
    ·rename_i t rest' ht;injection h with h;injection h with h1 h2;subst h1 h2;obtain⟨b,hb,_⟩:=sD _ _ _ ht;exact⟨c::b,by rw[hb];rfl,by simp⟩
    cases h
   split at h
   ·rename_i s hs;injection h with h;injection h with h1 h2;subst h1 h2;obtain⟨h1,t,h2⟩:=sF hs;refine⟨s,?_,?_⟩
    ·rw[<-h2];simp
    intro e;subst e;revert h1;decide
   cases h
theorem BP{w:Wd}(h:iH r=.ok (w,rest)):rest.length<r.length:=by obtain⟨b,rfl,hb⟩:=CY h;have:0<b.length:=List.length_pos_iff.2 hb;simp;omega
theorem Hf(n:Nat):∀(f g:Nat) (r:xb),r.length<f->r.length<g->za n f r=za n g r
 |0,_,_,h,_=>by omega
 |_,0,_,_,h=>by omega
 |f+1,g+1,r,hf,hg=>by
   have hs:=kX false r;simp only[za];cases hk:cD false r with
   |nil=>rfl
   |cons c r'=>
     rw[hk]at hs;simp only;cases ho:iH (c::r')with
     |error e=>rfl
     |ok x=>obtain⟨w,rest⟩:=x;have:=BP ho;simp only;rw[Hf n f g rest WC WC]
structure Val where
 k:Int
 n:Int
 s:u_
inductive Tr where
 |mk (op:Int) (v:Val) (name:u_) (width:Int) (args:List Tr)
def kr:Val:=⟨0,0,ByteArray.empty⟩
def BQ(op:Int)(l:List Tr):Tr:=.mk op kr ByteArray.empty 0 l
def ur(v:Val):Tr:=.mk 1 v ByteArray.empty 0 []
def vk(n:u_):Tr:=.mk 2 kr n 0 []
def ait:xb:=[111,114]
def G0:xb:=[97,110,100]
def G1:xb:=[110,111,116]
def adj:xb:=[105,115]
def G3:xb:=[110,117,108,108]
def QG:xb:=[116,114,117,101]
def BR:xb:=[102,97,108,115,101]
def fF:xb:=[115,101,108,101,99,116]
def zb:xb:=[102,114,111,109]
def aiu:xb:=[111,110,108,121]
def JQ:xb:=[119,104,101,114,101]
def BS:xb:=[103,114,111,117,112]
def QH:xb:=[98,121]
def G5:xb:=[104,97,118,105,110,103]
def JR:xb:=[111,114,100,101,114]
def JS:xb:=[108,105,109,105,116]
def QI:xb:=[100,101,115,99]
def adk:xb:=[97,115]
def CZ:xb:=[98,117,99,107,101,116]
def JT:xb:=[99,111,117,110,116]
def G6:xb:=[115,117,109]
def agn:xb:=[109,105,110]
def ago:xb:=[109,97,120]
def agp:xb:=[97,118,103]
def TY:xb:=[102,105,114,115,116]
def G7:xb:=[108,97,115,116]
def dO:xb:=[44]
def eN:xb:=[40]
def eJ:xb:=[41]
def aiv:xb:=[59]
def ze:xb:=[42]
def tO:xb:=[45]
def QJ:xb:=[43]
def JU:xb:=[47]
def zg:xb:=[37]
def anA:xb:=[61]
def anB:xb:=[60,62]
def anC:xb:=[60]
def anD:xb:=[60,61]
def aiw:xb:=[62]
def anE:xb:=[62,61]
structure Qu where
 items:List (Tr×u_):=[]
 bU:u_:=ByteArray.empty
 only:Bool:=false
 bQ:List Tr:=[]
 group:List Tr:=[]
 having:List Tr:=[]
 order:List (Tr×Bool):=[]
 dA:List Int:=[]
structure St where
 kind:Int:=0
 name:u_:=ByteArray.empty
 cols:List (u_×Int):=[]
 time:u_:=ByteArray.empty
 every:Int:=0
 space:u_:=ByteArray.empty
 parts:Int:=0
 query:Qu:= {}
 what:Int:=0
 of_:u_:=ByteArray.empty
 a:Int:=0
 b:Int:=0
 rows:List (List Tr):=[]
 aix:List (u_×Tr):=[]
 bQ:List Tr:=[]
 bU:Val:=kr
 eP:Val:=kr
abbrev dI:=List Wd
def Ps(α:Type):Type:=dI->Except Nat (α×dI)
instance:Monad Ps where
 pure x:=λ l=>.ok (x,l)
 bind p f:=λ l=>match p l with
  |.error n=>.error n
  |.ok (x,r)=>f x r
def ju(s:xb)(t:Wd):Bool:=(t.k==1||t.k==4)&&t.s==s
def dL(s:xb):dI->Bool
 |[]=>false
 |t::_=>ju s t
def may(s:xb):Ps Bool:=λ l=>if dL s l then .ok (true,l.tail)else .ok (false,l)
def must(s:xb):Ps Unit:=λ l=>if dL s l then .ok ((),l.tail)else .error l.length
def xw:Ps u_
 |[]=>.error 0
 |t::r=>if t.k=1/\uq t.s=false then .ok (⟨t.s.toArray⟩,r)else .error (t::r).length
def JV:Ps Int
 |[]=>.error 0
 |t::r=>if t.k=2 then .ok (t.n,r)else .error (t::r).length
def opsL:Nat->List (xb×Int)
 |0=>[(ait,17)]
 |1=>[(G0,16)]
 |3=>[(anA,10),(anB,11),(anC,12),(anD,13),(aiw,14),(anE,15)]
 |4=>[(QJ,5),(tO,6)]
 |5=>[(ze,7),(JU,8),(zg,9)]
 |_=>[]
def G8:List (xb×Int)->dI->Option Int
 |[],_=>none
 |(s,o)::k,l=>if dL s l then some o else G8 k l
def QK:List (xb×Int):=[(CZ,20),(JT,22),(G6,23),(agn,24),(ago,25),(agp,26),(TY,27),(G7,28)]
def mL(n:u_):Option Int:=QK.lookup n.data.toList
mutual
def Tr.depth:Tr->Nat
 |.mk _ _ _ _ args=>Tr.iX args+1
def Tr.iX:List Tr->Nat
 |[]=>0
 |t::l=>max t.depth (Tr.iX l)
end
def Qu.exprs(q:Qu):List Tr:=q.items.map (·.1)++q.bQ++q.group++q.having++q.order.map (·.1)
def St.exprs(s:St):List Tr:=s.rows.flatten++s.aix.map (·.2)++s.bQ++s.query.exprs
variable{α β:Type}
theorem adl(p:Ps α)(f:α->Ps β)(l:dI):(p >>= f) l=match p l with|.error n=>.error n|.ok (x,r)=>f x r:=rfl
def Ah(l:dI):Prop:=∃x e,l=x++[e]/\e.k=0
variable{t:Wd}
theorem Ah.tail{r:dI}(h:Ah (t::r))(ht:t.k≠0):Ah r:=by
 obtain⟨x,e,hx,he⟩:=h
 match x with
 |[]=>simp at hx;exact absurd (hx.1▸he) ht
 |y::x=>simp at hx;exact⟨x,e,hx.2,he⟩
theorem Ah.pos{l:dI}(h:Ah l):0<l.length:=by obtain⟨x,e,rfl,_⟩:=h;simp
theorem anF{s:xb}(h:ju s t=true):t.k≠0:=by unfold ju at h;simp at h;omega
theorem MR{s:xb}{l:dI}(h:dL s l=true):∃t r,l=t::r/\ju s t=true:=by
 match l with
 |[]=>simp[dL]at h
 |t::r=>exact⟨t,r,rfl,h⟩
open Go.RowKit
section
variable{w w':t_}{g:Nat}{t:TypeId}{cs:x_}
theorem _root_.Go.Proofs.YtndgjggokjickaaGreatDoor.aB.drewN(h:aB w g t cs)(n:Nat):aB (w.drewN n) g t cs:=h
end
variable{B:Nat}
theorem dz{p:Nat}{a b:t_}(h:a.grownBy b (some p))(hB:B<=a.heap.size)(hp:B<=p):Below B a b:=
 ⟨h.os,h.tape,h.output,h.size,λ k hk=>h.block k WC (λ e=>by injection e with e;omega)⟩
section
variable{α:Type}{f:α->xr}{e:TypeId}{size:Nat}{w w':t_}{base:Nat}{v:Value}{l:List α}
end
section
variable{P:Program}{l zs:List Oper}{Q:y_}{R:t_->t_->Prop}{V:Nat->t_->Value->Prop}{a0:Act}{w0:t_}
end
instance (B:Nat) (w0:t_):Nonempty (Ext B w0):=⟨⟨w0,Below.refl _ _⟩⟩
section
variable{P:Program}{o:Oper}{ρ:Operand->Value}{w:t_}{T:Value->t_->Prop}
end
section
variable{α:Type}{f:α->xr}{e:TypeId}{size:Nat}{base:Nat}{lv:Value}{l:List α}{y:α}
theorem Ai{a b:t_}(h:a.grownBy b none):ai a b:=⟨h.os,h.tape,h.output,h.size,λ k hk=>h.block k hk Tad⟩
end
section
variable{P:Program}{l zs:List Oper}{Q:y_}{R:t_->t_->Prop}{V:Nat->t_->Value->Prop}{U:Nat->t_->(Operand->Value)->Prop}{a0:Act}{w0:t_}
end
open Go.ChangeShapes Go.WideShapes Go.ChangeAt
theorem kG{w:t_}{p:Addr}{v:Value}(h:w.cell? p=some v):p.block<w.heap.size:=by rcases gR p.block w.heap.size with hlt|wI;exact hlt;unfold World.cell? at h;rw[Array.getElem?_eq_none wI]at h;simp at h
def strOf(l:xb):Value:=.string ⟨l.toArray⟩
theorem zh{f:α->xr}{size:Nat}(hf:∀x,(f x).length=size):∀(l:List α) (k:Nat) (x:α),l[k]?=some x->∀r u,(f x)[r]?=some u->(l.flatMap f)[k*size+r]?=some u
 |[],k,x,h,_,_,_=>by simp at h
 |y::l,0,x,h,r,u,hu=>by
   simp at h;subst h;have hr:r <(f y).length:=by rcases gR r (f y).length with h'|h';exact h';rw[getElem?_eq_none h']at hu;cases hu
   rw[Nat.zero_mul,Nat.zero_add,flatMap_cons,getElem?_append_left hr];exact hu
 |y::l,k+1,x,h,r,u,hu=>by have:=zh hf l k x Taj r u hu;rw[flatMap_cons,getElem?_append_right (by rw[hf,Nat.succ_mul];omega),hf];rw[show(k+1)*size+r-size=k*size+r by rw[Nat.succ_mul];omega];exact this
section
variable{α:Type}{f:α->xr}{e:TypeId}{size:Nat}{w w':t_}{base:Nat}{v:Value}{l:List α}
theorem _root_.Go.Proofs.YtndgjggokjickaaGreatDoor.aH.cell(hf:∀x,(f x).length=size)(h:aH f e size w base v l){k:Nat}{x:α}(ho:l[k]?=some x):
  ∃g c,v=aL g l.length c/\base<=g/\g<w.heap.size/\∀r u,(f x)[r]?=some u->w.cell? ⟨g,k*size+r,none⟩=some u:=by
 have hk:k<l.length:=by exact ZgL
 rcases h.2 with⟨_,h0⟩|⟨g,cap,cur,rfl,hb,h2,hn,hm,hs,ht⟩
 omega;have hlt:g<w.heap.size:=by exact ZgB
 refine⟨g,cap,rfl,hb,hlt,λ r u hu=>?_⟩;have h1:=zh hf l k x ho r u hu;rw[<-ht]at h1;have Kx:cur[k*size+r]?=some u:=by rw[getElem?_take]at h1;split at h1;simpa using h1;cases h1
 unfold World.cell?;simp[h2,Kx]
theorem _root_.Go.Proofs.YtndgjggokjickaaGreatDoor.aH.form(h:aH f e size w base v l):∃A c,v=.slice A l.length c:=by obtain⟨A,c,hv,_⟩:=h.reads;exact⟨A,c,hv⟩
end
structure Ex where
 op:Int
 v:Val
 name:u_
 width:Int
 A:xP
 n:Nat
 c:Nat
def bH(y:Ex):xr:=[ag y.op,ag y.v.k,af y.v.n,.string y.v.s,.string y.name,af y.width,.slice y.A y.n y.c]
def nt(y:Ex):Value:=.agg (bH y).toArray
def RL(f:β->xr)(size:Nat)(w:t_)(S:Nat->Prop)(A:xP)(l:List β):Prop:=
 l=[]\/∃b off,A=some ⟨b,off,none⟩/\S b/\∀i y j u,l[i]?=some y->(f y)[j]?=some u->w.cell? ⟨b,off+i*size+j,none⟩=some u
variable{w':t_}{S S':Nat->Prop}
theorem RL.keep{f:β->xr}{size:Nat}{w:t_}{A:xP}{l:List β}(h:RL f size w S A l)(hk:∀b,S b->(∀o,w'.cell? ⟨b,o,none⟩=w.cell? ⟨b,o,none⟩)/\S' b):RL f size w' S' A l:=by rcases h with h|⟨b,off,h1,h2,h3⟩;exact Zis;exact .inr ⟨b,off,h1,(hk b h2).2,λ i y j u hy hu=>((hk b h2).1 _).trans (h3 i y j u hy hu)⟩
mutual
def Tr.at_(w:t_)(S:Nat->Prop):Tr->Ex->Prop
 |.mk op v name width args,y=>y.op=op/\y.v=v/\y.name=name/\y.width=width/\y.n=args.length/\∃ys,RL bH 7 w S y.A ys/\Tr.aO w S args ys
def Tr.aO(w:t_)(S:Nat->Prop):List Tr->List Ex->Prop
 |[],ys=>ys=[]
 |t::ts,ys=>∃y ys',ys=y::ys'/\Tr.at_ w S t y/\Tr.aO w S ts ys'
end
mutual
theorem Tr.at_.keep{w w':t_}{S S':Nat->Prop}(hk:∀b,S b->(∀o,w'.cell? ⟨b,o,none⟩=w.cell? ⟨b,o,none⟩)/\S' b):∀(t:Tr) (y:Ex),t.at_ w S y->t.at_ w' S' y
 |.mk op v name width args,y,h=>by unfold Tr.at_ at h⊢;obtain⟨h1,h2,h3,h4,h5,ys,h6,h7⟩:=h;exact⟨h1,h2,h3,h4,h5,ys,h6.keep hk,Tr.aO.keep hk args ys h7⟩
theorem Tr.aO.keep{w w':t_}{S S':Nat->Prop}(hk:∀b,S b->(∀o,w'.cell? ⟨b,o,none⟩=w.cell? ⟨b,o,none⟩)/\S' b):∀(ts:List Tr) (ys:List Ex),Tr.aO w S ts ys->Tr.aO w' S' ts ys
 |[],ys,h=>by unfold Tr.aO at h⊢;exact h
 |t::ts,ys,h=>by unfold Tr.aO at h⊢;obtain⟨y,ys',h1,h2,h3⟩:=h;exact⟨y,ys',h1,Tr.at_.keep hk t y h2,Tr.aO.keep hk ts ys' h3⟩
end
theorem Tr.aO.length{w:t_}:∀{ts:List Tr}{ys:List Ex},Tr.aO w S ts ys->ys.length=ts.length
 |[],ys,h=>by unfold Tr.aO at h;subst h;rfl
 |t::ts,ys,h=>by unfold Tr.aO at h;obtain⟨y,ys',rfl,_,h3⟩:=h;simp[Tr.aO.length h3]
variable{y:Ex}
theorem Tr.gw{w:t_}{t:Tr}(h:t.at_ w S y):Tr.aO w S [t] [y]:=by unfold Tr.aO;exact⟨y,[],rfl,h,by unfold Tr.aO;rfl⟩
variable{z:Ex}
theorem Tr.adm{w:t_}{t u:Tr}(h:t.at_ w S y)(k:u.at_ w S z):Tr.aO w S [t,u] [y,z]:=by unfold Tr.aO;exact⟨y,[z],rfl,h,Tr.gw k⟩
theorem Tr.all_nil{w:t_}:Tr.aO w S [] []:=by unfold Tr.aO;rfl
structure El (α:Type) where
 β:Type
 f:β->xr
 size:Nat
 hf:∀y,(f y).length=size
 rel:t_->(Nat->Prop)->α->β->Prop
 keep:∀{w w':t_}{S S':Nat->Prop}{x:α}{y:β},(∀b,S b->(∀o,w'.cell? ⟨b,o,none⟩=w.cell? ⟨b,o,none⟩)/\S' b)->rel w S x y->rel w' S' x y
inductive nA {α β:Type}(R:α->β->Prop):List α->List β->Prop
 |nil:nA R [] []
 |cons {x:α}{y:β}{l:List α}{m:List β}:R x y->nA R l m->nA R (x::l) (y::m)
variable{R R':α->β->Prop}
theorem nA.imp(h:∀x y,R x y->R' x y):∀{l:List α}{m:List β},nA R l m->nA R' l m
 |_,_,.nil=>.nil
 |_,_,.cons a b=>.cons (h _ _ a) (b.imp h)
theorem nA.len:∀{l:List α}{m:List β},nA R l m->m.length=l.length
 |_,_,.nil=>rfl
 |_,_,.cons a b=>by simp[b.len]
theorem nA.append:∀{l l':List α}{m m':List β},nA R l m->nA R l' m'->nA R (l++l') (m++m')
 |_,_,_,_,.nil,k=>k
 |_,_,_,_,.cons a b,k=>.cons a (b.append k)
variable{x:α}
theorem nA.one{y:β}(h:R x y):nA R [x] [y]:=.cons h .nil
def El.lies(E:El α)(w:t_)(S:Nat->Prop)(A:xP)(n:Nat)(l:List α):Prop:=n=l.length/\∃ys,RL E.f E.size w S A ys/\nA (E.rel w S) l ys
variable{E:El α}
theorem El.lies.keep{w:t_}{A:xP}{n:Nat}{l:List α}(h:E.lies w S A n l)(hk:∀b,S b->(∀o,w'.cell? ⟨b,o,none⟩=w.cell? ⟨b,o,none⟩)/\S' b):E.lies w' S' A n l:=by obtain⟨h1,ys,h2,h3⟩:=h;exact⟨h1,ys,h2.keep hk,h3.imp λ x y=>E.keep hk⟩
theorem El.G9(E:El α)(w:t_)(S:Nat->Prop):E.lies w S none 0 []:=⟨rfl,[],.inl rfl,.nil⟩
def JW:El Tr:=⟨Ex,bH,7,λ _=>rfl,Tr.at_,λ hk h=>Tr.at_.keep hk _ _ h⟩
def sG:El (Tr×u_):=⟨Ex×u_,λ y=>bH y.1++[.string y.2],8,λ _=>rfl,λ w S x y=>x.1.at_ w S y.1/\y.2=x.2,λ hk h=>⟨Tr.at_.keep hk _ _ h.1,h.2⟩⟩
def tP:El (Tr×Bool):=⟨Ex×Bool,λ y=>bH y.1++[.bool y.2],8,λ _=>rfl,λ w S x y=>x.1.at_ w S y.1/\y.2=x.2,λ hk h=>⟨Tr.at_.keep hk _ _ h.1,h.2⟩⟩
def TZ:El Int:=⟨Int,λ y=>[af y],1,λ _=>rfl,λ _ _ x y=>y=x,λ _ h=>h⟩
def jM(B:Nat)(w:t_):Nat->Prop:=λ b=>B<=b/\b<w.heap.size
theorem cell_of_heap{w:t_}{b:Nat}(h:w'.heap[b]?=w.heap[b]?)(o:Nat):w'.cell? ⟨b,o,none⟩=w.cell? ⟨b,o,none⟩:=by unfold World.cell?;simp only[h]
theorem mo{g:Nat}{w:t_}(h:w.grownBy w' (some g))(hg:g<B):∀b,jM B w b->(∀o,w'.cell? ⟨b,o,none⟩=w.cell? ⟨b,o,none⟩)/\jM B w' b:=λ b hb=>
 ⟨cell_of_heap (h.block b hb.2 (λ e=>by injection e with e;have:=hb.1;omega)),hb.1,eS hb.2 h.size⟩
theorem jo{w:t_}(h:ai w w'):∀b,jM B w b->(∀o,w'.cell? ⟨b,o,none⟩=w.cell? ⟨b,o,none⟩)/\jM B w' b:=λ b hb=>
 ⟨cell_of_heap (h.block b hb.2),hb.1,eS hb.2 h.size⟩
variable{q:Nat}
theorem tQ{w:t_}(hq:q<B)(i:Nat)(u:Value):∀b,jM B w b->(∀o,(w.setCell ⟨q,i,none⟩ u).cell? ⟨b,o,none⟩=w.cell? ⟨b,o,none⟩)/\jM B (w.setCell ⟨q,i,none⟩ u) b:=λ b hb=>
 ⟨cell_of_heap (Below.heap_setCell w ⟨q,i,none⟩ u b (by have:=hb.1;simp;omega)),hb.1,by simpa [World.setCell] using hb.2⟩
variable{B':Nat}
theorem jF{w:t_}(h:B'<=B):∀b,jM B w b->(∀o,w.cell? ⟨b,o,none⟩=w.cell? ⟨b,o,none⟩)/\jM B' w b:=λ b hb=>⟨λ _=>rfl,fK h hb.1,hb.2⟩
section
variable{B B' g q:Nat}{w w':t_}{t:Tr}{y:Ex}
theorem Tr.at_.grown(h:t.at_ w (jM B w) y)(hg:w.grownBy w' (some g))(hB:g<B):t.at_ w' (jM B w') y:=Tr.at_.keep (mo hg hB) t y h
theorem Tr.at_.later(h:t.at_ w (jM B w) y)(hb:ai w w'):t.at_ w' (jM B w') y:=Tr.at_.keep (jo hb) t y h
theorem Tr.at_.set(h:t.at_ w (jM B w) y)(hq:q<B)(i:Nat)(u:Value):t.at_ (w.setCell ⟨q,i,none⟩ u) (jM B (w.setCell ⟨q,i,none⟩ u)) y:=Tr.at_.keep (tQ hq i u) t y h
theorem Tr.at_.more(h:t.at_ w (jM B w) y)(hB:B'<=B):t.at_ w (jM B' w) y:=Tr.at_.keep (jF hB) t y h
end
section
variable{α:Type}{E:El α}{B B' g q:Nat}{w w':t_}{A:xP}{n:Nat}{l:List α}
theorem El.lies.more(h:E.lies w (jM B w) A n l)(hB:B'<=B):E.lies w (jM B' w) A n l:=h.keep (jF hB)
end
def Bx(B q:Nat)(w:t_):Nat->Prop:=λ b=>B<=b/\b<w.heap.size/\b≠q
section
variable{B B' g q:Nat}{w w':t_}{t:Tr}{y:Ex}
theorem xy(h:w.grownBy w' (some g))(hg:g<B):∀b,Bx B q w b->(∀o,w'.cell? ⟨b,o,none⟩=w.cell? ⟨b,o,none⟩)/\Bx B q w' b:=λ b hb=>
 ⟨cell_of_heap (h.block b hb.2.1 (λ e=>by injection e with e;have:=hb.1;omega)),hb.1,eS hb.2.1 h.size,hb.2.2⟩
theorem Da(h:ai w w'):∀b,Bx B q w b->(∀o,w'.cell? ⟨b,o,none⟩=w.cell? ⟨b,o,none⟩)/\Bx B q w' b:=λ b hb=>
 ⟨cell_of_heap (h.block b hb.2.1),hb.1,eS hb.2.1 h.size,hb.2.2⟩
theorem H7(i:Nat)(u:Value):∀b,Bx B q w b->(∀o,(w.setCell ⟨q,i,none⟩ u).cell? ⟨b,o,none⟩=w.cell? ⟨b,o,none⟩)/\Bx B q (w.setCell ⟨q,i,none⟩ u) b:=λ b hb=>
 ⟨cell_of_heap (Below.heap_setCell w ⟨q,i,none⟩ u b (λ e=>hb.2.2 e)),hb.1,by simpa [World.setCell] using hb.2.1,hb.2.2⟩
theorem QM(hB:B'<=B):∀b,Bx B q w b->(∀o,w.cell? ⟨b,o,none⟩=w.cell? ⟨b,o,none⟩)/\jM B' w b:=λ b hb=>⟨λ _=>rfl,fK hB hb.1,hb.2.1⟩
theorem QN(o:Obj)(hB:B'<=B):∀b,jM B w b->(∀i,(w.alloc o).cell? ⟨b,i,none⟩=w.cell? ⟨b,i,none⟩)/\Bx B' w.heap.size (w.alloc o) b:=λ b hb=>
 ⟨cell_of_heap (Below.heap_alloc w o b hb.2),fK hB hb.1,by have:=hb.2;simp;omega,by have:=hb.2;omega⟩
theorem anG(hq:q<B)(hB:B'<=B):∀b,jM B w b->(∀i,w.cell? ⟨b,i,none⟩=w.cell? ⟨b,i,none⟩)/\Bx B' q w b:=λ b hb=>
 ⟨λ _=>rfl,fK hB hb.1,hb.2,by have:=hb.1;omega⟩
end
variable{G:Nat}{ys:List β}
theorem QO{f:β->xr}{size:Nat}(hf:∀x,(f x).length=size){w:t_}{T:TypeId}(h:aB w G T (ys.flatMap f).toArray)(hS:S G):RL f size w S (some ⟨G,0,none⟩) ys:=by refine .inr ⟨G,0,rfl,hS,λ i y j u hy hu=>?_⟩;have:=zh hf ys i y hy j u hu;have hc:=h.cell (i*size+j);rw[Nat.zero_add,hc];exact ZfH
theorem vo(y:Ex):(bH y).length=7:=rfl
def vp:Val:=⟨0,0,⟨#[]⟩⟩
def opY(op:Int)(G n:Nat):Ex:=⟨op,vp,⟨#[]⟩,0,some ⟨G,0,none⟩,n,n⟩
variable{x2:Tr}{y2:Ex}
theorem aiz{w:t_}{T:TypeId}{x:Tr}(op:Int)(h:aB w G T (bH y++bH y2).toArray)(hS:S G)(hx:x.at_ w S y)(hx2:x2.at_ w S y2):(BQ op [x,x2]).at_ w S (opY op G 2):=by unfold BQ Tr.at_;exact⟨rfl,rfl,rfl,rfl,rfl,[y,y2],QO vo Taj hS,Tr.adm hx hx2⟩
theorem JX(w:t_)(S:Nat->Prop)(v:Val):(ur v).at_ w S ⟨1,v,⟨#[]⟩,0,none,0,0⟩:=by unfold ur Tr.at_;exact ZgP
theorem Db(w:t_)(S:Nat->Prop)(n:u_):(vk n).at_ w S ⟨2,vp,n,0,none,0,0⟩:=by unfold vk Tr.at_;exact ZgP
theorem aiA(w:t_)(S:Nat->Prop)(op:Int):(BQ op []).at_ w S ⟨op,vp,⟨#[]⟩,0,none,0,0⟩:=by unfold BQ Tr.at_;exact ZgP
inductive cw where
 |good (l:dI)
 |bad (n:Nat)
def cw.left:cw->Nat
 |.good l=>l.length
 |.bad n=>n
def cw.iy:cw->Bool
 |.good _=>true
 |.bad _=>false
def cw.words:cw->dI
 |.good l=>l
 |.bad _=>[]
def dv(p:Ps α):cw->cw
 |.bad n=>.bad n
 |.good l=>match p l with
   |.ok (_,r)=>.good r
   |.error n=>.bad n
def kY(p:Ps α):cw->α->Prop
 |.bad _,_=>True
 |.good l,x=>match p l with
   |.ok (y,_)=>x=y
   |.error _=>True
variable{σ:cw}
theorem Ww{p:Ps α}{f:α->Ps β}(h:kY p σ x):dv (p >>= f) σ=dv (f x) (dv p σ):=by
 match σ with
 |.bad n=>rfl
 |.good l=>
   simp only[dv,kY,adl]at h⊢;cases e:p l with
   |error n=>rfl
   |ok y=>obtain⟨y,r⟩:=y;rw[e]at h;simp only at h;subst h;rfl
theorem Wx(x:α)(σ:cw):dv (pure x:Ps α) σ=σ:=by cases σ<;>rfl
theorem Hg(p:Ps α)(n:Nat)(x:α):kY p (.bad n) x:=trivial
def cw.head(s:xb)(σ:cw):Bool:=dL s σ.words
theorem MS(s:xb)(σ:cw):dv (may s) σ=if σ.head s then .good σ.words.tail else σ:=by
 match σ with
 |.bad n=>rfl
 |.good l=>simp only[dv,may,cw.head,cw.words];exact Zir
theorem Hh(s:xb)(σ:cw):dv (must s) σ=if σ.head s then .good σ.words.tail else .bad σ.left:=by
 match σ with
 |.bad n=>rfl
 |.good l=>simp only[dv,must,cw.head,cw.words,cw.left];exact Zir
theorem QP(p:Ps Unit)(σ:cw):kY p σ ():=by
 match σ with
 |.bad n=>trivial
 |.good l=>simp only[kY];split<;>trivial
def cw.of(W:dI):cw->Prop
 |.good l=>l <:+ W/\Ah l
 |.bad n=>0<n/\n<=W.length
variable{W:dI}
theorem cw.QQ(h:σ.of W):0<σ.left/\σ.left<=W.length:=by
 match σ with
 |.bad n=>exact h
 |.good l=>exact⟨h.2.pos,h.1.length_le⟩
theorem cw.of_next{l:dI}(h:(cw.good l).of W):∃t r,l=t::r/\W[W.length-l.length]?=some t:=by
 obtain⟨⟨b,hb⟩,h2⟩:=h
 match l,h2.pos with
 |t::r,_=>refine⟨t,r,rfl,?_⟩;rw[<-hb,length_append,Nat.add_sub_cancel,getElem?_append_right aE,Nat.sub_self];rfl
def iI(p:UInt8->Bool)(l:xb)(k:Nat):Nat:=k+((l.drop k).takeWhile p).length
theorem adn(p:UInt8->Bool)(l:xb)(k:Nat)(hk:k<=l.length):iI p l k<=l.length:=by have:=(takeWhile_sublist (p:=p) (l:=l.drop k)).length_le;simp only[length_drop]at this;unfold iI;omega
theorem fu(s:u_)(k:Nat)(hk:k<s.size):s.data.toList[k]?=some s[k]:=by rw[getElem?_eq_getElem Ta7];simp[ByteArray.getElem_eq_getElem_data]
theorem cH{l:xb}{k:Nat}{c:UInt8}(h:l[k]?=some c):l.drop k=c::l.drop (k+1):=by
 have hk:k<l.length:=by rcases gR k l.length with h'|h';exact h';rw[getElem?_eq_none h']at h;cases h
 rw[drop_eq_getElem_cons hk];rw[getElem?_eq_getElem hk]at h;injection h with h;rw[h]
theorem Dc{p:UInt8->Bool}{l:xb}{k:Nat}{c:UInt8}(h:l[k]?=some c)(hp:p c=true):iI p l k=iI p l (k+1):=by unfold iI;rw[cH h,takeWhile_cons,if_pos hp,length_cons];omega
theorem Ua{p:UInt8->Bool}{l:xb}{k:Nat}{c:UInt8}(h:l[k]?=some c)(hp:p c=false):iI p l k=k:=by unfold iI;rw[cH h,takeWhile_cons,if_neg (by rw[hp];decide)];rfl
theorem MT{p:UInt8->Bool}{l:xb}{k:Nat}(h:l.length<=k):iI p l k=k:=by unfold iI;rw[drop_eq_nil_of_le h];rfl
theorem Ub(p:UInt8->Bool):∀r:xb,r.drop (r.takeWhile p).length=r.dropWhile p
 |[]=>rfl
 |c::r=>by rw[takeWhile_cons,dropWhile_cons];split;simpa using Ub p r;rfl
theorem ado(p:UInt8->Bool)(r:xb):r.take (r.takeWhile p).length=r.takeWhile p:=by
 induction r with
 |nil=>rfl
 |cons c r ih=>
   rw[takeWhile_cons];split;simpa using ih;rfl
theorem Dd(p:UInt8->Bool)(l:xb)(k:Nat):l.drop (iI p l k)=(l.drop k).dropWhile p:=by unfold iI;rw[<-drop_drop,Ub]
theorem MU(p:UInt8->Bool)(l:xb)(k:Nat):(l.drop k).take (iI p l k-k)=(l.drop k).takeWhile p:=by unfold iI;rw[Nat.add_sub_cancel_left,ado]
theorem kZ:∀(b:Bool) (r:xb),cD b r <:+ r
 |_,[]=>by simp[cD]
 |true,c::r=>by simp only[cD];split;exact(kZ false r).trans (suffix_cons _ _);exact(kZ true r).trans (suffix_cons _ _)
 |false,c::r=>by simp only[cD];split;exact(kZ false r).trans (suffix_cons _ _);split;exact(kZ true r).trans (suffix_cons _ _);exact suffix_refl _
theorem drop_suffix{l:xb}(h:r <:+ l):l.drop (l.length-r.length)=r:=by obtain⟨p,rfl⟩:=h;simp
theorem H8(l:xb)(c:UInt8):mb (l++[c])=mb l*10+(c.toNat-48):=by simp[mb]
theorem I0(l:xb):∀v,v<=l.foldl (λ v c=>v*10+(c.toNat-48)) v:=by
 induction l with
 |nil=>intro v;exact Nat.le_refl _
 |cons c l ih=>intro v;have:=ih (v*10+(c.toNat-48));simp only[foldl_cons];omega
theorem Uc{p:UInt8->Bool}(l:xb):∀c∈l.takeWhile p,p c=true:=λ c hc=>List.all_eq_true.1 (all_takeWhile (p:=p) (l:=l)) c hc
def anH(f:FuncId)(p:UInt8->Bool):Prop:=∀(c:UInt8) (W:t_),ar f #[ag (c.toNat:Int)] W λ e w'=>e=.returned (.bool (p c))/\W=w'
theorem mM{a b:Bool}(h:a=b):Ending.returned (.bool a)=.returned (.bool b):=by rw[h]
theorem nR{k:IntKind}{a b:Int}(h:a=b):Ending.returned (.int k a)=.returned (.int k b):=by rw[h]
theorem QR(c:UInt8):gj c=((decide ((97:Int)<=c.toNat)&&decide ((c.toNat:Int)<=122))||(decide ((65:Int)<=c.toNat)&&decide ((c.toNat:Int)<=90))||((c.toNat:Int)==95)):=by rw[Bool.eq_iff_iff];simp only[gj,UInt8.le_iff_toNat_le,<-UInt8.toNat_inj,Bool.or_eq_true,Bool.and_eq_true,decide_eq_true_eq,beq_iff_eq];simp;omega
theorem Wy(c:UInt8):bE c=(decide ((48:Int)<=c.toNat)&&decide ((c.toNat:Int)<=57)):=by rw[Bool.eq_iff_iff];simp only[bE,UInt8.le_iff_toNat_le,Bool.and_eq_true,decide_eq_true_eq];simp;omega
theorem aiB(c:UInt8)(k:UInt8):(c==k)=((c.toNat:Int)==(k.toNat:Int)):=by rw[Bool.eq_iff_iff];simp[<-UInt8.toNat_inj];omega
theorem zk(c:UInt8):sy c=(((c.toNat:Int)==32)||((c.toNat:Int)==9)||((c.toNat:Int)==10)||((c.toNat:Int)==13)):=by simp only[sy,aiB];rfl
theorem bM{w:t_}{t:TypeId}{a b c d:Value}(h:aB w q t #[a,b,c,d]):
  w.cell? ⟨q,0,none⟩=some a/\w.cell? ⟨q,1,none⟩=some b/\w.cell? ⟨q,2,none⟩=some c/\w.cell? ⟨q,3,none⟩=some d/\w.frozen? ⟨q,0,none⟩=false/\w.frozen? ⟨q,1,none⟩=false/\w.frozen? ⟨q,2,none⟩=false/\w.frozen? ⟨q,3,none⟩=false:=
 ⟨h.cell 0,h.cell 1,h.cell 2,h.cell 3,h.frozen 0,h.frozen 1,h.frozen 2,h.frozen 3⟩
theorem qj(s:u_)(a b:Nat):(s.extract a b).data.toList=(s.data.toList.take b).drop a:=by rw[ByteArray.data_extract,Array.toList_extract,extract_eq_take_drop,drop_take]
def fV(s:u_)(a:Nat):Nat:=s.size-(cD false (s.data.toList.drop a)).length
theorem nS(s:u_)(a:Nat):s.data.toList.drop (fV s a)=cD false (s.data.toList.drop a):=by have h:cD false (s.data.toList.drop a)<:+ s.data.toList:=(kZ _ _).trans (List.drop_suffix _ _);have:=drop_suffix h;simpa [fV] using this
theorem zl(s:u_)(a:Nat):fV s a<=s.size:=Nat.sub_le _ _
theorem Wz(s:u_){a b:Nat}(h:cD false (s.data.toList.drop a)=cD false (s.data.toList.drop b)):fV s a=fV s b:=by unfold fV;rw[h]
theorem nT(p:UInt8->Bool)(s:u_)(k:Nat):(s.extract k (iI p s.data.toList k)).data.toList=(s.data.toList.drop k).takeWhile p:=by rw[qj,<-MU,drop_take]
theorem adp(p:UInt8->Bool)(l:xb)(k:Nat):iI p l k-k=((l.drop k).takeWhile p).length:=by unfold iI;omega
theorem xz(p:UInt8->Bool)(s:u_){k:Nat}(hk:k<=s.size):s.size-((s.data.toList.drop k).dropWhile p).length=iI p s.data.toList k:=by rw[<-Dd,length_drop];have:=adn p s.data.toList k Ta7;simp at this⊢;omega
def more(acc:xb)(x:Option (xb×xb)):Option (xb×xb):=x.map λ y=>(acc++y.1,y.2)
theorem I1(x:Option (xb×xb)):more [] x=x:=by cases x<;>rfl
theorem QS{c:UInt8}(h:c≠39)(r acc:xb):more acc (gu (c::r))=more (acc++[c]) (gu r):=by
 cases r with
 |nil=>simp[gu,h,more]
 |cons d r=>simp only[gu,if_neg h,more];cases gu (d::r)<;>simp
theorem I3(r acc:xb):more acc (gu (39::39::r))=more (acc++[39]) (gu r):=by simp only[gu,more,if_true];cases gu r<;>simp
theorem MV(h:r.head?≠some 39)(acc:xb):more acc (gu (39::r))=some (acc,r):=by
 cases r with
 |nil=>simp[gu,more]
 |cons d r=>
   have:d≠39:=λ e=>h (by rw[e];rfl);simp[gu,this,more]
theorem De(w:t_)(a b:Nat):(w.drewN a).drewN b=w.drewN (a+b):=by simp[World.drewN,Nat.add_assoc]
theorem adq{i:Nat}(hi:i<15):∃x,signs[i]?=some x/\signs.drop i=x::signs.drop (i+1)/\1<=x.length/\x.length<=2:=by
 have key:∀i,i<15->∃x,signs[i]?=some x/\1<=x.length/\x.length<=2:=by
  intro i hi
  match i,hi with
  |0,_|1,_|2,_|3,_|4,_|5,_|6,_|7,_|8,_|9,_|10,_|11,_|12,_|13,_|14,_=>exact⟨_,rfl,by decide,by decide⟩
  |n+15,h=>omega
 obtain⟨x,h1,h2,h3⟩:=key i hi;refine⟨x,h1,?_,h2,h3⟩;have hlt:i<signs.length:=hi;exact ZgM
theorem Ud:oy.length=27:=by decide+kernel
theorem aiC{i:Nat}(hi:i<27):∃x,oy[i]?=some x/\oy.take (i+1)=oy.take i++[x]/\(oy.take i).contains x=false:=by
 have hlt:i<oy.length:=by rw[Ud];exact hi
 refine⟨oy[i],getElem?_eq_getElem hlt,by rw[take_succ_eq_append_getElem hlt],?_⟩;have key:(List.range 27).all (λ i=> !(oy.take i).contains (oy.getD i []))=true:=by decide+kernel
 have:=List.all_eq_true.1 key i (List.mem_range.2 hi);rw[getD_eq_getElem?_getD,getElem?_eq_getElem hlt]at this;exact ZfH
theorem WE(c:UInt8):(JP c=true/\decide ((65:Int)<=c.toNat)=true/\decide ((c.toNat:Int)<=90)=true)\/(JP c=false/\decide ((65:Int)<=c.toNat)=true/\decide ((c.toNat:Int)<=90)=false)\/(JP c=false/\decide ((65:Int)<=c.toNat)=false):=by
 have e:JP c=(decide ((65:Int)<=c.toNat)&&decide ((c.toNat:Int)<=90)):=by rw[Bool.eq_iff_iff];simp only[JP,UInt8.le_iff_toNat_le,Bool.and_eq_true,decide_eq_true_eq];simp;omega
 rw[e];by_cases h1:(65:Int)<=c.toNat<;>by_cases h2:(c.toNat:Int)<=90<;>simp[h1,h2]
def I4(b:Bool)(w:t_)(e:Ending)(w':t_):Prop:=e=.returned (.bool b)/\ai w w'
theorem ew:anH 174 gj:=by intro c W;rw[QR];have h1:=c.toNat_lt;generalize c.toNat=n at*;go_enter func174,ntmps174;exact ZeE
theorem eY:anH 175 bE:=by intro c W;rw[Wy];have h1:=c.toNat_lt;generalize c.toNat=n at*;go_enter func175,ntmps175;exact ZeE
theorem FK(w:t_):ar 198 #[] w λ e w'=>e=.returned (aL w.heap.size 27 27)/\w'=w.alloc (.cells (oy.map λ l=>Value.string ⟨l.toArray⟩).toArray 9):=by go_enter func198,ntmps198;exact Zdw
theorem I5{i:Nat}{x:xb}(h1:oy[i]?=some x):oy.drop i=x::oy.drop (i+1):=by
 have hlt:i<oy.length:=by rcases gR i oy.length with h|h;exact h;rw[getElem?_eq_none h]at h1;cases h1
 exact ZgM
theorem WG(l:xb):(⟨l.toArray⟩:u_).toList=l:=by rw[ByteArray.toList_eq]
theorem FL(s:u_)(w:t_):ar 183 #[.string s] w (I4 (uq s.data.toList) w):=by
 go_enter func183,ntmps183;go_wp2_with fail;refine(FK w).mono ?_;rintro e w1 ⟨rfl,rfl⟩;have HB:=aa (aB.new w 9 (oy.map λ l=>Value.string ⟨l.toArray⟩).toArray);have b1:=ah w (.cells (oy.map λ l=>Value.string ⟨l.toArray⟩).toArray 9);generalize w.alloc (.cells (oy.map λ l=>Value.string ⟨l.toArray⟩).toArray 9)=W at*;go_wp2_with fail;go_loop [4] (λ u=>∃i:Nat,i<=27/\u=af i/\uq s.data.toList=(oy.drop i).contains s.data.toList) (λ u=>27-(intOf u).toNat);case atStart=>exact⟨0,by omega,rfl,rfl⟩
 case round=>
  obtain⟨i,hi,rfl,I6⟩:=hrel;have HRR:=aa I6;clear I6;by_cases hlt:i<27
  ·obtain⟨x,hx,_,_⟩:=aiC hlt;have hcell:=HB.ae.cell i;have hx2:(oy.map λ l=>Value.string ⟨l.toArray⟩).toArray[i]?=some (.string ⟨x.toArray⟩):=by simp[hx]
   rw[hx2]at hcell;have HDX:=aa (I5 hx);have e0:=WG x;have JY:=aa e0;clear hx hx2 e0;by_cases he:s.data.toList=x
   ·have HE:=aa he;have t2:(x==s.toList)=true:=by rw[ByteArray.toList_eq,he];simp
    clear he;go_wp2_with fail;go_ret;refine⟨mM ?_,b1⟩;rw[HRR.ae,HDX.ae,HE.ae];simp
   have HE:=aa he;have t2:(x==s.toList)=false:=by rw[ByteArray.toList_eq,beq_eq_false_iff_ne];exact λ e=>he e.symm
   clear he;go_wp2_with fail;go_round
   case rel=>
    refine⟨i+1,by omega,by go_num,?_⟩;rw[HRR.ae,HDX.ae,contains_cons];have:(s.data.toList==x)=false:=by simpa using HE.ae
    rw[this];rfl
   case measure=>exact Za2
  obtain rfl:i=27:=by omega
  go_wp2_with fail;go_ret;refine⟨mM ?_,b1⟩;rw[HRR.ae,drop_eq_nil_of_le (Nat.le_of_eq Ud)];rfl
theorem JZ(w:t_)(g:Nat)(c:UInt8)(h:aB w g 5 #[ag (c.toNat:Int)]):(convert 97 9 (aL g 1 1)).run prog w=.ok (.string ⟨#[c]⟩) w:=by
 have:=run_convert_bytes_back (P:=prog) w 97 9 5 ⟨g,0,none⟩ 1 [c] underlying97 underlying5 underlying9 (λ j hj=>by
  have:j=0:=by simpa using hj
  subst this;have h0:=h.cell 0;simpa [Addr.add] using h0)
 exact ZfH
theorem adr{c:UInt8}(h:JP c=true):(xt c).toNat=c.toNat+32:=by unfold xt;rw[if_pos h];simp[JP,UInt8.le_iff_toNat_le]at h;rw[UInt8.toNat_add];simp;omega
theorem Ue{c:UInt8}(h:JP c=false):xt c=c:=by unfold xt;rw[h];rfl
theorem mN(l:xb)(c:UInt8):(⟨l.toArray⟩:u_)++⟨#[c]⟩=⟨(l++[c]).toArray⟩:=by apply ByteArray.ext;simp
theorem Hi(s:u_)(w:t_)(hs:s.size<=4294967280):ar 176 #[.string s] w λ e w'=>e=.returned (.string ⟨(s.data.toList.map xt).toArray⟩)/\ai w w':=by
 have HLEN:=aa (show s.data.toList.length=s.size by simp);go_enter func176,ntmps176;go_wp2_with fail;go_loopw [3,4] (λ x u wr=>∃(i:Nat) (l:xb),i<=s.size/\u=af i/\x=.string ⟨l.toArray⟩/\l.length=i/\s.data.toList.map xt=l++(s.data.toList.drop i).map xt/\ai w wr) (λ _ u _=>s.size-(intOf u).toNat);case atStart=>exact⟨0,[],by omega,rfl,rfl,rfl,rfl,cX⟩
 case round=>
  obtain⟨i,l,hi,rfl,rfl,hl,hm,hb⟩:=hrel;have HM:=aa hm;have hl2:l.length<=s.size:=WC;have HL:=aa hl;have Bh:=aa (show l.length<=s.size by omega);clear hm hl;by_cases hlt:i<s.size
  ·have HD:=aa (cH (fu s i hlt));rcases WE s[i] with⟨hc,t1,t2⟩|⟨hc,t1,t2⟩|⟨hc,t1⟩
   ·have MW:=adr hc;have hn:s[i].toNat<=90:=by have:=of_decide_eq_true t2;omega
    have hr:=JZ _ _ (xt s[i]) (aB.new wr 5 #[ag ((xt s[i]).toNat:Int)]);rw[MW]at hr;rw[show((s[i].toNat+32:Nat):Int)=(s[i].toNat:Int)+32 from rfl]at hr;have vq:=aa MW;clear MW hc;go_wp2_with fail;go_roundw;case rel=>refine⟨i+1,l++[xt s[i]],by omega,by go_num,by rw[mN],by rw[length_append,HL.ae];rfl,?_,hb.trans ((ah wr _).mono hb.size)⟩;rw[HM.ae,HD.ae];simp
    case measure=>exact Za2
   exact Zcz;exact Zcz
  go_wp2_with fail;go_ret;refine⟨?_,hb⟩;rw[HM.ae,drop_eq_nil_of_le Tau];simp
theorem Df{s:u_}{a b:Nat}(h:cD false (s.data.toList.drop a)=cD false (s.data.toList.drop b)):fV s a=fV s b:=Wz s h
theorem tR{s:u_}{a:Nat}(ha:a<=s.size)(h:cD false (s.data.toList.drop a)=s.data.toList.drop a):fV s a=a:=by unfold fV;rw[h,length_drop];simp;omega
def ziH.Kcy(h:p:=by rintro⟨_,h⟩;rw[Kd.ae]at h;exact H46.ae Taj):=h
def ziI.Kcy(h:p:=by rintro⟨_,h⟩;rw[drop_eq_nil_of_le Tau]at h;simp at h):=h
def ziJ.Kcy(h:p:=by rintro⟨h,_⟩;exact H45.ae h):=h
theorem Hj(s:u_)(at_:Nat)(w:t_)(ha:at_<=s.size)(hs:s.size<=4294967280):ar 131 #[.string s,af at_] w λ e w'=>e=.returned (af (fV s at_))/\w=w':=by
 have HLEN:=aa (show s.data.toList.length=s.size by simp);go_enter func131,ntmps131;go_wp2_with fail;go_loop [1] (λ u=>∃a:Nat,a<=s.size/\u=af a/\fV s at_=fV s a) (λ u=>s.size-(intOf u).toNat);case atStart=>exact⟨at_,ha,rfl,rfl⟩
 case round=>
  obtain⟨a,hle,rfl,hf⟩:=hrel;have HS:=aa hf;clear hf;by_cases hlt:a<s.size
  ·have HD:=aa (cH (fu s a hlt));cases hb:sy s[a]
   ·have BU:s[a]=45\/s[a]≠45:=by by_cases h:s[a]=45<;>simp[h]
    rw[zk]at hb;simp only[Bool.or_eq_false_iff]at hb;obtain⟨⟨⟨b1,b2⟩,b3⟩,b4⟩:=hb;have HB:=aa (show sy s[a]=false by rw[zk,b1,b2,b3,b4];rfl);rcases BU with BU|BU
    ·have t1:(((s[a].toNat:Nat):Int)==45)=true:=by rw[BU];rfl
     have t2:(((s[a].toNat:Nat):Int) != 45)=false:=by rw[BU];rfl
     have H45:=aa BU;clear BU;by_cases auE:a+1<s.size
     ·have Kd:=aa (cH (fu s (a+1) auE));have n1:=decide_eq_false (show¬((s.size:Int)<=(a:Int)+1) by omega);by_cases h46:s[a+1]=45
      ·have u1:(((s[a+1].toNat:Nat):Int)==45)=true:=by rw[h46];rfl
       have u2:(((s[a+1].toNat:Nat):Int) != 45)=false:=by rw[h46];rfl
       have HC:=aa (show cD false (s.data.toList.drop a)=cD true (s.data.toList.drop a) by rw[HD.ae,Kd.ae,h46,H45.ae];simp[cD,sy])
       clear h46;go_wp2_with fail;go_loop [1] (λ u=>∃k:Nat,a<=k/\k<=s.size/\u=af k/\cD false (s.data.toList.drop a)=cD true (s.data.toList.drop k)) (λ u=>s.size-(intOf u).toNat);case atStart=>exact⟨a,aE,hle,rfl,HC.ae⟩
       case round=>
        obtain⟨k,Bi,hk2,rfl,hf⟩:=hrel;have HF:=aa hf;clear hf;by_cases BJ:k<s.size
        ·have HDK:=aa (cH (fu s k BJ));by_cases h10:s[k]=10
         ·have v1:(((s[k].toNat:Nat):Int)==10)=true:=by rw[h10];rfl
          have v2:(((s[k].toNat:Nat):Int) != 10)=false:=by rw[h10];rfl
          have H10:=aa h10;have hne:a≠k:=by intro e;subst e;have:=H45.ae.symm.trans h10;exact absurd this Tab
          clear h10;go_wp2_with fail;go_round;case rel=>refine⟨k,hk2,rfl,?_⟩;rw[HS.ae];refine Df ?_;rw[HF.ae,HDK.ae,H10.ae];simp[cD,sy]
          case measure=>exact Za2
         have v1:(((s[k].toNat:Nat):Int)==10)=false:=by rw[beq_eq_false_iff_ne];intro h;exact h10 (UInt8.toNat_inj.1 (by simpa using(by omega:s[k].toNat=10)))
         have v2:(((s[k].toNat:Nat):Int) != 10)=true:=by simpa [bne] using v1
         have H10:=aa h10;clear h10;go_wp2_with fail;go_round;case rel=>refine⟨k+1,by omega,BJ,by go_num,?_⟩;rw[HF.ae,HDK.ae,cD,if_neg H10.ae]
         case measure=>exact Za2
        go_wp2_with fail;go_round;case rel=>refine⟨k,hk2,rfl,?_⟩;rw[HS.ae];refine Df ?_;rw[HF.ae,drop_eq_nil_of_le Tau];simp[cD]
        case measure=>exact Za2
      have u1:(((s[a+1].toNat:Nat):Int)==45)=false:=by rw[beq_eq_false_iff_ne];intro h;exact h46 (UInt8.toNat_inj.1 (by simpa using(by omega:s[a+1].toNat=45)))
      have u2:(((s[a+1].toNat:Nat):Int) != 45)=true:=by simpa [bne] using u1
      have H46:=aa h46;clear h46;open ziH in exact Zik
     have n1:=decide_eq_true (show((s.size:Int)<=(a:Int)+1) by omega);open ziI in exact Zik
    have t1:(((s[a].toNat:Nat):Int)==45)=false:=by rw[beq_eq_false_iff_ne];intro h;exact BU (UInt8.toNat_inj.1 (by simpa using(by omega:s[a].toNat=45)))
    have t2:(((s[a].toNat:Nat):Int) != 45)=true:=by simpa [bne] using t1
    have H45:=aa BU;clear BU;open ziJ in exact Zik
   have HB:=aa hb;rw[zk]at hb;cases b1:(((s[a].toNat:Nat):Int)==32)<;>cases b2:(((s[a].toNat:Nat):Int)==9)<;>cases b3:(((s[a].toNat:Nat):Int)==10)<;>cases b4:(((s[a].toNat:Nat):Int)==13);all_goals try (exfalso;rw[b1,b2,b3,b4]at hb;exact absurd hb Tab)
   all_goals
    clear hb;go_wp2_with fail;go_round;case rel=>refine⟨a+1,hlt,by go_num,?_⟩;rw[HS.ae];refine Df ?_;rw[HD.ae,cD,if_pos HB.ae]
    case measure=>simp[intOf];omega
  go_wp2_with fail;go_ret;refine⟨nR ?_,rfl⟩;rw[HS.ae,tR hle];rw[drop_eq_nil_of_le Tau];rfl
end Go.Proofs.YtndgjggokjickaaGreatDoor.R
