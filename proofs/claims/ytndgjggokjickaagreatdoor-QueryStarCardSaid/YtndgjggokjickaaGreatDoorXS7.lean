/- Parts of the proof. -/
import Derived.Test.YtndgjggokjickaaGreatDoorXS6
namespace Go.Proofs.YtndgjggokjickaaGreatDoor
variable{p:Prop}
set_option maxHeartbeats 90000000
set_option maxRecDepth 100000
open Go.ChangeShapes Go.WideShapes Go.ChangeAt Go.RowKit List
set_option linter.unusedVariables false
set_option linter.unusedSimpArgs false
variable{α:Type}{f:α->List Value}{e:TypeId}{w w':World}{v:Value}{l:List α}{q:Nat}{t:TypeId}{cs:Array Value}
theorem aC.kr{size base:Nat}      (hq:aC w q t cs)(h:aI f e size w base v l)(ht:t≠e)(hg:w.grownBy w' v.ownBlock):aC w' q t cs:=hq.grown hg λ e=>h.other hq ht e.symm
theorem Jf:∀ {l:List (Val×Int)},(∀a∈l,a.2=0)->cN l=0
 | [],_=>rfl
 | a::l,h=>by unfold cN;rw[if_neg (by simp[h a (mem_cons_self ..)])];exact Jf λ b hb=>h b (mem_cons_of_mem _ hb)
theorem A5:∀ {pre:List (Val×Int)} {bad:Val×Int} {post:List (Val×Int)},(∀a∈pre,a.2=0)->bad.2≠0->cN (pre++bad::post)=bad.2
 | [],bad,post,_,hb=>by rw[nil_append];unfold cN;rw[if_pos hb]
 | a::pre,bad,post,h,hb=>by rw[cons_append];unfold cN;rw[if_neg (by simp[h a (mem_cons_self ..)])];exact A5 (λ b hb=>h b (mem_cons_of_mem _ hb)) hb
def rX (cols:List aZ)(row:List Val)(ts:List Tr)(w:World)(e:Ending)(w':World):Prop:=
 match bz cols row ts with
 | .error er=>er≠0/\e=.returned (.tuple #[az,af er])/\aj w w'
 | .ok l=>∃v,e=.returned (.tuple #[v,af 0])/\aI aX 44 3 w' w.heap.size v l/\aj w w'
theorem Gq (cols:List aZ)(CA:Option Addr)(cc:Nat)(row:List Val)(RA:Option Addr)(rc:Nat)(ts:List Tr)(ys:List Ex)(A:Option Addr)(c:Nat)(w:World)(cg:cols.length<=140737488355328)(lX:row.length<=140737488355328)(hro:∀v∈row,v.Ok)
  (bh:Tr.cP ts) (hat:Tr.aQ w (Old w) ts ys) (hl:ys.length<=1599289640356) (hA:RE w w.heap.size A ys) (hC:RC w w.heap.size CA cols) (hV:RV w w.heap.size RA row):
  ar 34 #[.slice A ys.length c,.slice CA cols.length cc,.slice RA row.length rc] w (rX cols row ts w):=by
 obtain⟨l,fq,hl2,uu⟩:=Tr.Bw cols CA cc row RA rc cg lX hro ts ys w bh hat hC hV;rcases rb l with h |⟨pre,bad,post,rfl,h1,h2⟩
 ·have hw:bz cols row ts=.ok (l.map λ a=>a.2.1):=by unfold bz;rw[<- hl2,Jf (λ a ha=>by obtain⟨b,hb,rfl⟩:=List.mem_map.1 ha;exact h b hb),if_neg Taa,map_map];rfl
  have e1:(l.map λ a=>(a.1,a.2.1)).map (·.1)=ys:=by rw[map_map,<- fq];rfl
  refine(Qe A ys.length c (.slice CA cols.length cc) (.slice RA row.length rc) (l.map λ a=>(a.1,a.2.1)) w (by rw[<- e1];simp) hl (by rw[e1];exact hA) ?_).mono ?_
  ·intro a ha;obtain⟨b,hb,rfl⟩:=List.mem_map.1 ha;have:=uu b hb;rw[h b hb] at this;exact this
  ·rintro e w' ⟨v,h1,h2,h3⟩;unfold rX;rw[hw];refine⟨v,h1,?_,h3⟩;rw[map_map] at h2;exact h2
 ·have hw:bz cols row ts=.error bad.2.2:=by
   have:cN (Tr.gZ cols row ts)=bad.2.2:=by rw[<- hl2,map_append,map_cons];exact A5 (λ a ha=>by obtain⟨b,hb,rfl⟩:=List.mem_map.1 ha;exact h1 b hb) h2
   unfold bz;rw[this,if_pos h2]
  have e1:((pre.map λ a=>(a.1,a.2.1)).map (·.1))++bad.1::post.map (·.1)=ys:=by rw[map_map,<- fq,map_append,map_cons];rfl
  refine(Qd A ys.length c (.slice CA cols.length cc) (.slice RA row.length rc) (pre.map λ a=>(a.1,a.2.1)) bad.1 bad.2.1 bad.2.2 (post.map (·.1)) w ?_ hl (by rw[e1];exact hA) ?_ ?_ h2).mono ?_
  ·rw[<- fq];simp;omega
  ·intro a ha;obtain⟨b,hb,rfl⟩:=List.mem_map.1 ha;have:=uu b (mem_append_left _ hb);rw[h1 b hb] at this;exact this
  ·exact uu bad (mem_append_right _ (mem_cons_self ..))
  ·rintro e w' ⟨h1,h3⟩;unfold rX;rw[hw];exact⟨h2,h1,h3⟩
variable{S:Nat->Prop}
theorem dY:∀ {ts:List Tr} {ys:List Ex},Tr.aQ w S ts ys->ts.length=ys.length
 | [],ys,h=>by unfold Tr.aQ at h;rw[h];rfl
 | t::ts,ys,h=>by unfold Tr.aQ at h;obtain⟨y,ys',rfl,_,h2⟩:=h;rw[length_cons,length_cons,dY h2]
theorem wL:∀(ts:List Tr) (ys:List Ex),Tr.aQ w (Old w) ts ys->∃l:List ue,l.length=ys.length/\(∀(i:Nat) y x,ys[i]?=some y->l[i]?=some x->y.A=x.A/\y.n=x.ys.length/\y.c=x.c/\RE w w.heap.size x.A x.ys)/\Tr.aQ w (Old w) (ts.flatMap Tr.args) (l.flatMap ue.ys)/\ys.map Ex.n=ts.map λ t=>t.args.length
 | [],ys,h=>by unfold Tr.aQ at h;subst h;exact⟨[],rfl,λ i y x h=>by simp at h,by simp[Tr.aQ],rfl⟩
 | t::ts,ys,h=>by
   unfold Tr.aQ at h;obtain⟨y,ys',rfl,h1,h2⟩:=h;obtain⟨l,l1,l2,l3,l4⟩:=wL ts ys' h2;obtain⟨op,v,name,width,args⟩:=t;unfold Tr.at_ at h1;obtain⟨_,_,_,_,hn,zs,hz1,hz2⟩:=h1;have hzl:zs.length=args.length:=(dY hz2).symm;refine⟨⟨y.A,y.c,zs⟩::l,by simp[l1],?_,?_,?_⟩
   ·intro i y' x hy hx;cases i with
    | zero=>
      simp at hy hx;subst hy hx;refine⟨rfl,by rw[hn];exact hzl.symm,rfl,?_⟩;rcases hz1 with h |⟨b,off,e1,e2,e3⟩
      ·exact .inl h
      ·exact .inr ⟨b,off,e1,e2,e3⟩
    | succ i=>exact l2 i y' x (by simpa using hy) (by simpa using hx)
   ·rw[flatMap_cons,flatMap_cons];exact Tr.all_append hz2 l3
   ·rw[map_cons,map_cons,l4,hn];rfl
theorem Jg:∀(ts:List Tr) (l:List Val),(∀t∈ts,t.args.length<=2)->(ts.map λ t=>t.args.length).sum<=l.length->my (ts.map λ t=>t.args.length) l=jE ts l
 | [],l,_,_=>rfl
 | t::ts,l,h,hl=>by
   rw[map_cons] at hl ⊢;rw[sum_cons] at hl;unfold my jE;rw[Jg ts (l.drop t.args.length) (λ u hu=>h u (mem_cons_of_mem _ hu)) (by rw[length_drop];omega)];congr 1;have h2:=h t (mem_cons_self ..);generalize t.args.length=n at*;unfold lf
   match n,h2 with
   | 0,_=>simp
   | 1,_=>
     match l,hl with
     | [],hl=>simp at hl
     | a::l,_=>simp
   | 2,_=>
     match l,hl with
     | [],hl=>simp at hl
     | [a],hl=>simp at hl;omega
     | a::b::l,_=>simp
theorem CP{i:Nat} {a:α}(h:l[i]?=some a):l.set i a=l:=by
 apply ext_getElem?;intro j;rw[getElem?_set];split
 ·subst_vars;split
  ·exact h.symm
  ·rename_i hn;rw[getElem?_eq_none WC]
 ·rfl
variable{t':TypeId}{cs':Array Value}
theorem agE{g:Nat}  (h:aC w g t cs)(h':aC w g t' cs'):t=t':=by have e1:w.heap[g]?=some (.cells cs t (0,0)):=h;have e2:w.heap[g]?=some (.cells cs' t' (0,0)):=h';rw[e1] at e2;injection e2 with e2;injection e2
theorem CQ:∀l:List Nat,Ms l=l.sum
 | []=>rfl
 | n::l=>by unfold Ms;rw[CQ l,sum_cons]
theorem CS:∀(ts:List Tr) (l:List Val),(jE ts l).length=ts.length
 | [],_=>rfl
 | t::ts,l=>by unfold jE;simp[CS ts]
structure gJ where
 g:Nat
 KA:Option Addr
 kc:Nat
 key:List Val
 sv:Value
 qs:List Nat
 ss:List St
structure bP (w:World) (A:Option Addr) (l:List Val):Prop where
 rv:RV w w.heap.size A l
 ty:∀a,A=some a->∃cur,aC w a.block 44 cur
variable{A:Option Addr}
theorem bP.keep{l:List Val}(h:bP w A l)(hs:w.heap.size<=w'.heap.size)(hk:∀b cur,aC w b 44 cur->w'.heap[b]?=w.heap[b]?):bP w' A l:=by
 refine⟨?_,λ a ha=>?_⟩
 ·rcases h.rv with h0 |⟨b,off,rfl,hb,hc⟩
  ·exact .inl h0
  ·obtain⟨cur,yz⟩:=h.ty _ rfl;refine .inr ⟨b,off,rfl,Nat.lt_of_lt_of_le hb hs,λ i x hx=>(hc i x hx).keep λ o=>bJ (hk b cur yz) o⟩
 ·obtain⟨cur,yz⟩:=h.ty a ha;exact⟨cur,(hk _ cur yz).trans yz⟩
variable{B:Nat}
theorem bP.off{l:List Val} {qs:List Nat} {ss:List St}(h:bP w A l)(hs:dG w B qs ss):∀a,A=some a->a.block∉qs:=λ a ha=>by obtain⟨cur,yz⟩:=h.ty a ha;exact hs.uf yz Taa
theorem Jh{base:Nat}  {l:List Val}(h:aI aX 44 3 w base v l):∃A c,v=.slice A l.length c/\l.length<=c/\bP w A l:=by
 obtain⟨A0,c0,e0,_,hle,_⟩:=h.reads;obtain⟨A,c,rfl,hr⟩:=Hr h;injection e0 with e1 e2 e3;refine⟨A,c,rfl,by rw[e3];exact hle,hr,λ a ha=>?_⟩;have qX:(Value.slice A l.length c).ownBlock=some a.block:=by rw[fC,ha];rfl
 obtain⟨_,_,cur,hc⟩:=h.lt qX;exact⟨cur,hc⟩
structure gJ.At (w:World) (B:Nat) (x:gJ):Prop where
 blk:aC w x.g 141 #[.slice x.KA x.key.length x.kc,x.sv]
 low:B<=x.g
 own:aI df 145 1 w B x.sv x.qs
 qK:dG w B x.qs x.ss
 key:bP w x.KA x.key
theorem gJ.At.keep{x:gJ}(h:x.At w B)(hs:w.heap.size<=w'.heap.size)(hk:∀b t cs,aC w b t cs->(t=141\/t=145\/t=44\/t=199/\b∈x.qs)->w'.heap[b]?=w.heap[b]?):x.At w' B:=by
 refine⟨(hk _ _ _ h.blk (.inl rfl)).trans h.blk,h.low,h.own.keep λ g hg=>?_,h.qK.keep hs λ q hq=>?_,h.key.keep hs λ b cur hb=>hk b _ cur hb (.inr (.inr (.inl rfl)))⟩
 ·obtain⟨_,_,cur,hc⟩:=h.own.lt hg;exact hk g _ cur hc (.inr (.inl rfl))
 ·obtain⟨i,hi,he⟩:=getElem_of_mem hq;have h1:=h.qK.at_ i q (x.ss[i]'(by rw[<- h.qK.len];exact hi)) Tay (getElem?_eq_getElem _);exact hk q _ _ h1 (.inr (.inr (.inr ⟨rfl,hq⟩)))
structure kt (w:World) (B:Nat) (xs:List gJ):Prop where
 at_:∀x∈xs,x.At w B
 apart:(xs.map gJ.qs).Pairwise λ a b=>∀q∈a,q∉b
theorem kt.nil:kt w B []:=⟨λ x h=> Tah,List.Pairwise.nil⟩
variable{xs:List gJ}
theorem kt.later(h:kt w B xs)(hb:aj w w'):kt w' B xs:=
 ⟨λ x hx=>(h.at_ x hx).keep hb.size λ b t cs hc _=>hb.block b hc.lt,h.apart⟩
theorem kt.grown{g:Nat}   (h:kt w B xs)(hg:w.grownBy w' (some g))(hc:aC w g t cs)(h1:t≠141)(h2:t≠145)(h3:t≠44)(h4:t≠199):kt w' B xs:=
 ⟨λ x hx=>(h.at_ x hx).keep hg.size λ b t' cs' hc' ho=>hg.block b hc'.lt λ e=>by
   injection e with e
   rw[e] at hc'
   have e2:=agE hc hc'
   rw[<- e2] at ho
   rcases ho with ho | ho | ho |⟨ho,_⟩
   ·exact h1 ho
   ·exact h2 ho
   ·exact h3 ho
   ·exact h4 ho,h.apart⟩
theorem kt.own{size base:Nat}     (h:kt w B xs)(ho:aI f e size w base v l)(hg:w.grownBy w' v.ownBlock)(h1:e≠141)(h2:e≠145)(h3:e≠44)(h4:e≠199):kt w' B xs:=by
 cases hv:v.ownBlock with
 | none=>rw[hv] at hg;exact h.later (pM hg)
 | some g=>rw[hv] at hg;obtain⟨_,_,cur,hc⟩:=ho.lt hv;exact h.grown hg hc h1 h2 h3 h4
variable{k:Nat}
theorem kt.feed{x:gJ} {ss:List St}(h:kt w B xs)(hx:xs[k]?=some x)(ht:pN w w' x.qs)(hs:dG w' B x.qs ss):kt w' B (xs.set k { x with ss:=ss }):=by
 have hk:k < xs.length:=by
  rcases Nat.lt_or_ge k xs.length with h | h
  ·exact h
  ·rw[getElem?_eq_none h] at hx;cases hx
 have A6:xs[k]=x:=by rw[getElem?_eq_getElem hk] at hx;injection hx
 have Qf:=mem_of_getElem? hx
 have hap:(xs.set k { x with ss:=ss }).map gJ.qs=xs.map gJ.qs:=by
  rw[map_set];have:(xs.map gJ.qs)[k]?=some x.qs:=by rw[getElem?_map,hx];rfl
  exact CP this
 refine⟨λ y hy=>?_,by rw[hap];exact h.apart⟩;obtain⟨i,hi,he⟩:=getElem_of_mem hy;have Kg:i < xs.length:=by simpa using hi
 rw[getElem_set] at he;by_cases hik:k=i
 ·rw[if_pos hik] at he;subst he;have hA:=h.at_ x Qf;have hb:∀b t cs,aC w b t cs->t≠199->w'.heap[b]?=w.heap[b]?:=λ b t cs hc hn=>ht.block b hc.lt (hA.qK.uf hc hn)
  refine⟨(hb _ _ _ hA.blk Taa).trans hA.blk,hA.low,hA.own.keep λ g hg=>?_,hs,hA.key.keep ht.size λ b cur hc=>hb b _ cur hc Taa⟩;obtain⟨_,_,cur,hc⟩:=hA.own.lt hg;exact hb g _ cur hc Taa
 ·rw[if_neg hik] at he;subst he;have hA:=h.at_ xs[i] (getElem_mem Kg);refine hA.keep ht.size λ b t cs hc ho=>ht.block b hc.lt λ hm=>?_
  rcases ho with ho | ho | ho |⟨ho,hm2⟩
  ·exact Zg5
  ·exact Zg5
  ·exact Zg5
  ·have hp:=h.apart;rw[pairwise_iff_getElem] at hp;rcases Nat.lt_or_gt_of_ne hik with h1 | h1
   ·have:=hp k i Ta5 (by simpa using Kg) h1;simp only[getElem_map,A6] at this;exact this b hm hm2
   ·have:=hp i k (by simpa using Kg) Ta5 h1;simp only[getElem_map,A6] at this;exact this b hm2 hm
theorem kt.insert{x:gJ}(h:kt w B xs)(hx:x.At w B)(hn:∀y∈xs,∀q∈y.qs,q∉x.qs):kt w B (xs.take k++x::xs.drop k):=by
 have hp:(xs.take k++x::xs.drop k).Perm (x::xs):=by have:=perm_middle (a:=x) (l₁:=xs.take k) (l₂:=xs.drop k);rwa [take_append_drop] at this
 refine⟨λ y hy=>?_,?_⟩
 ·rcases List.mem_cons.1 (hp.mem_iff.1 hy)with rfl | h1
  ·exact hx
  ·exact h.at_ y h1
 ·refine((hp.map gJ.qs).pairwise_iff (λ {a b} hab q hq lr=>hab q lr hq)).2 ?_;rw[map_cons,pairwise_cons];refine⟨λ b hb q hq=>?_,h.apart⟩;obtain⟨y,hy,rfl⟩:=List.mem_map.1 hb;exact λ hm=>hn y hy q hm hq
theorem ED (gx:Nat)(A:Option Addr)(c:Nat)(args:List (Ex×Bool))(w:World)(hl:args.length<=1599289640356)(hA:RE w w.heap.size A (args.map (·.1)))(hE:∀a∈args,∀W,aj w W->ar 151 #[.agg (ay a.1),aw gx] W λ e w'=>e=.returned (.bool a.2)/\aj W w'):
  ar 150 #[.slice A args.length c,.func (.func 151) #[] #[.pointer (some ⟨gx,0,none⟩)]] w λ e w'=>e=.returned (.int .i64 (fV (args.map (·.2))))/\aj w w':=by exact ZaW
theorem Ji (gx:Nat)(y x:Ex)(b:Bool)(w:World)(hg:aC w gx 46 (bI x).toArray)(h:mZ w y x b):
  ar 151 #[.agg (ay y),aw gx] w λ e w'=>e=.returned (.bool b)/\aj w w':=by
 have hgx:=hg.lt;have bb:=ah w (.cells (ay y) 46);have hR:=aC.new w 46 (ay y);have HX:=hg.later bb;unfold bI at HX;have hs:=h _ bb;have zY:=aa bb;have HS:=aa hs;have Qg:=aa hgx;clear hs h bb hg hgx;go_enter Tryz.func151,Tryz.ntmps151;go_upto_region 1 with fail;have jk:=λ i=>HX.cell i
 have cb:=λ i=>hR.cell i
 have fx:=HX.frozen;generalize World.alloc w _=W at*;obtain⟨g2,VQ⟩:∃g2,g2=w.heap.size:=⟨_,rfl⟩;rw[<- VQ] at hR cb ⊢;clear VQ hR HX;have y0:=jk 0;have y1:=jk 1;have y2:=jk 2;have y3:=jk 3;have y4:=jk 4;have y5:=jk 5;have y6:=jk 6;have b0:=cb 0;have b1:=cb 1;have b2:=cb 2;have b3:=cb 3;have b4:=cb 4;have b5:=cb 5;have b6:=cb 6;clear jk cb fx;simp only[Uaa] at y0 y1 y2 y3 y4 y5 y6 b0 b1 b2 b3 b4 b5 b6;go_wp2_with fail;refine HS.ae.mono ?_;rintro e w1 ⟨rfl,b1⟩;have hb1:=ai.then zY.ae b1;clear y0 y1 y2 y3 y4 y5 y6 b0 b1 b2 b3 b4 b5 b6;go_wp2_with fail;go_ret;exact⟨rfl,hb1⟩
theorem oG(f:α->Bool):∀l:List α,fV (l.map f)=match l.findIdx? f with | some k=>(k:Int)| none=> -1
 | []=>rfl
 | x::l=>by
   rw[map_cons,findIdx?_cons];unfold fV;by_cases h:f x=true
   ·rw[if_pos h,if_pos h];rfl
   ·rw[if_neg h,if_neg h,oG f l];cases l.findIdx? f with
    | none=>rfl
    | some k=>show(if (k:Int)< 0 then(-1:Int)else(k:Int)+1)=((k+1:Nat):Int);rw[if_neg WC];rfl
theorem CT:∀(ts:List Tr) (ys:List Ex) (x:Tr) (z:Ex) (w:World),Tr.cP ts->x.ok->Tr.aQ w (Old w) ts ys->x.at_ w (Old w) z->∃args:List (Ex×Bool),args.map (·.1)=ys/\args.map (·.2)=ts.map (λ g=>g.same x)/\∀a∈args,mZ w a.1 z a.2
 | [],ys,x,z,w,_,_,hat,_=>by unfold Tr.aQ at hat;subst hat;exact⟨[],rfl,rfl,by simp⟩
 | t::ts,ys,x,z,w,bh,hx,hat,hz=>by
   unfold Tr.aQ at hat;unfold Tr.cP at bh;obtain⟨y,ys',rfl,h2,h3⟩:=hat;obtain⟨l,fq,hl2,uu⟩:=CT ts ys' x z w bh.2 hx h3 hz;refine⟨(y,t.same x)::l,by simp[fq],by simp[hl2],λ a ha=>?_⟩;rcases List.mem_cons.1 ha with rfl | ha
   ·exact Tr.KQ t x y z w bh.1 hx h2 hz
   ·exact uu a ha
variable{z:Ex}{b:Bool}
theorem mZ.later{y:Ex} (h:mZ w y z b)(hb:aj w w'):mZ w' y z b:=λ W hW=>h W (ai.then hb hW)
theorem lF (aL:List Tr)(A:Option Addr)(n c gx:Nat)(x:Tr)(z:Ex)(w:World)(hl:aL.length<=1599289640356)(hG:fU w aL A n)(bh:Tr.cP aL)(hx:x.ok)(hz:x.at_ w (Old w) z)(hg:aC w gx 46 (bI z).toArray):
  ar 150 #[.slice A n c,.func (.func 151) #[] #[.pointer (some ⟨gx,0,none⟩)]] w λ e w'=>e=.returned (.int .i64 (fV (aL.map λ g=>g.same x)))/\aj w w':=by
 obtain⟨rfl,Kx,h1,h2⟩:=hG;obtain⟨ys,a1,a2,a3⟩:=CT aL Kx x z w bh hx h2 hz;have q3:ys.length=aL.length:=by have:=congrArg List.length a2;simpa using this
 have k:=ED gx A c ys w WC (by rw[a1];exact h1.old) (λ a ha W hW=>Ji gx a.1 z a.2 W (hg.later hW) ((a3 a ha).later hW));rw[q3,a2] at k;exact k
theorem Tr.ind{P:Tr->Prop}(h:∀op v name width args,(∀a∈args,P a)->P (.mk op v name width args)):∀t,P t:=by
 intro t;exact Tr.rec (motive_1:=P) (motive_2:=λ ts=>∀a∈ts,P a) (λ op v name width args ih=>h op v name width args ih) (λ a ha=>by cases ha) (λ t ts h1 h2 a ha=>by
  rcases List.mem_cons.1 ha with rfl | ha
  ·exact h1
  ·exact h2 a ha) t
mutual
def Tr.nodes:Tr->Nat
 | .mk _ _ _ _ args=>Tr.aY args+1
def Tr.aY:List Tr->Nat
 | []=>0
 | t::ts=>t.nodes+Tr.aY ts
end
theorem gh:∀ts:List Tr,Tr.aY ts=(ts.map Tr.nodes).sum
 | []=>rfl
 | t::ts=>by unfold Tr.aY;rw[gh ts];rfl
theorem dN:∀ {ts:List Tr},Tr.cP ts↔∀t∈ts,t.ok
 | []=>by unfold Tr.cP;simp
 | t::ts=>by unfold Tr.cP;rw[dN];simp
variable{ts us:List Tr}
theorem mA:Tr.cP (ts++us)↔Tr.cP ts/\Tr.cP us:=by
 rw[dN,dN,dN];constructor
 ·intro h;exact⟨λ t ht=>h t (List.mem_append.2 (.inl ht)),λ t ht=>h t (List.mem_append.2 (.inr ht))⟩
 ·rintro⟨h1,h2⟩ t ht;rcases List.mem_append.1 ht with h | h
  ·exact h1 t h
  ·exact h2 t h
theorem A7 (k:Nat):(Ep k).ok:=by unfold Ep Tr.ok;refine⟨⟨by decide,by decide⟩,by simp,by decide,by decide,by decide,?_⟩;unfold Tr.cP;trivial
theorem oH (aL:List Tr)(cols:List aZ)(s:dE):Tr.turns aL cols [] s=.ok ([],s):=by unfold Tr.turns;rfl
theorem jK (aL:List Tr)(cols:List aZ)(t:Tr)(ts:List Tr)(s:dE):Tr.turns aL cols (t::ts) s=match Tr.turn aL cols t s with
  | .error e=> .error e
  | .ok (y,s')=>match Tr.turns aL cols ts s' with
    | .error e=> .error e
    | .ok (ys,Lv)=> .ok (y::ys,Lv):=by
 conv=>lhs;unfold Tr.turns
 rfl
theorem yB (aL:List Tr)(cols:List aZ):∀(l m:List Tr) (s:dE),Tr.turns aL cols (l++m) s=match Tr.turns aL cols l s with
  | .error e=> .error e
  | .ok (y,s')=>match Tr.turns aL cols m s' with
    | .error e=> .error e
    | .ok (ys,Lv)=> .ok (y++ys,Lv)
 | [],m,s=>by
   rw[nil_append,oH];dsimp only;cases Tr.turns aL cols m s with
   | error e=>rfl
   | ok x=>rfl
 | t::l,m,s=>by
   rw[cons_append,jK,jK];cases Tr.turn aL cols t s with
   | error e=>rfl
   | ok x=>
     obtain⟨y,s1⟩:=x;dsimp only;rw[yB aL cols l m s1];cases Tr.turns aL cols l s1 with
     | error e=>rfl
     | ok x=>
       obtain⟨ys,s2⟩:=x;dsimp only;cases Tr.turns aL cols m s2 with
       | error e=>rfl
       | ok x=>rfl
theorem Vl (aL:List Tr)(cols:List aZ)(t:Tr)(s:dE):Tr.turns aL cols [t] s=match Tr.turn aL cols t s with
  | .error e=> .error e
  | .ok (y,s')=> .ok ([y],s'):=by
 rw[jK]
 cases Tr.turn aL cols t s with
 | error e=>rfl
 | ok x=>obtain⟨y,s1⟩:=x;dsimp only;rw[oH]
variable{s s1 s2:dE}
theorem Qh{aL:List Tr} {cols:List aZ} {l:List Tr} {t y:Tr}  {ys:List Tr}(h:Tr.turns aL cols l s=.ok (ys,s1))(k:Tr.turn aL cols t s1=.ok (y,s2)):Tr.turns aL cols (l++ [t]) s=.ok (ys++ [y],s2):=by rw[yB,h];dsimp only;rw[Vl,k]
variable{m:List Tr}
theorem Qi{aL:List Tr} {cols:List aZ} {l:List Tr} {t:Tr}  {ys:List Tr} {e:Int}(h:Tr.turns aL cols l s=.ok (ys,s1))(k:Tr.turn aL cols t s1=.error e):Tr.turns aL cols (l++t::m) s=.error e:=by rw[yB,h];dsimp only;rw[jK,k]
theorem tB{aL:List Tr} {cols:List aZ}:∀ {l:List Tr} {s s1:dE} {ys:List Tr},Tr.turns aL cols l s=.ok (ys,s1)->ys.length=l.length
 | [],s,s1,ys,h=>by rw[oH] at h;injection h with h;injection h with h1 h2;rw[<- h1]
 | t::l,s,s1,ys,h=>by
   rw[jK] at h;split at h
   ·cases h
   ·split at h
    ·cases h
    ·rename_i h2;injection h with h;injection h with h3 h4;rw[<- h3,length_cons,tB h2];rfl
theorem tC (aL:List Tr)(cols:List aZ)(op:Int)(v:Val)(name:ByteArray)(width:Int)(args:List Tr)(s:dE):Tr.turn aL cols (.mk op v name width args) s=match aL.findIdx? (λ g=>g.same (.mk op v name width args))with
  | some k=> .ok (Ep k,s)
  | none=>
    if isAgg op=true then
     if (fY cols op args).2≠0 then .error (fY cols op args).2
     else .ok (Ep s.aL.length,⟨s.aM++ [.mk op v name width args],s.aL++ [⟨iV s.aL.length,(fY cols op args).1⟩]⟩)
    else match Tr.turns aL cols args s with
     | .error e=> .error e
     | .ok (ys,s')=>
       if op=2 then .error (rF cols v name width ys.length)
       else if ((Tr.mk op v name width ys).type s'.aL).2≠0 then .error ((Tr.mk op v name width ys).type s'.aL).2
       else .ok (.mk op v name width ys,s'):=by
 conv=>lhs;unfold Tr.turn
 rfl
theorem B3 (cols:List aZ)(v:Val)(name:ByteArray)(width:Int)(n:Nat):rF cols v name width n≠0:=by
 unfold rF;dsimp only;split
 ·assumption
 ·decide
structure Gr (t:Tr) (s:dE) (r:Except Int (Tr×dE)):Prop where
 err:∀e,r=.error e->e≠0
 ok:∀y s',r=.ok (y,s')->t.ok->y.ok
 len:∀y s',r=.ok (y,s')->s'.aL.length+s'.aM.length<=s.aL.length+s.aM.length+2*t.nodes
 aok:∀y s',r=.ok (y,s')->t.ok->Tr.cP s.aM->Tr.cP s'.aM
structure pQ (ts:List Tr) (s:dE) (r:Except Int (List Tr×dE)):Prop where
 err:∀e,r=.error e->e≠0
 ok:∀y s',r=.ok (y,s')->Tr.cP ts->Tr.cP y
 len:∀y s',r=.ok (y,s')->s'.aL.length+s'.aM.length<=s.aL.length+s.aM.length+2*Tr.aY ts
 aok:∀y s',r=.ok (y,s')->Tr.cP ts->Tr.cP s.aM->Tr.cP s'.aM
theorem ku{aL:List Tr} {cols:List aZ}:∀ {ts:List Tr},(∀t∈ts,∀s,Gr t s (Tr.turn aL cols t s))->∀s,pQ ts s (Tr.turns aL cols ts s)
 | [],_,s=>by rw[oH];exact⟨λ e h=> Tah,λ y s' h _=>by injection h with h;injection h with h1 h2;rw[<- h1];unfold Tr.cP;trivial,λ y s' h=>by injection h with h;injection h with h1 h2;rw[<- h2];omega,λ y s' h _ ha=>by injection h with h;injection h with h1 h2;rw[<- h2];exact ha⟩
 | t::ts,H,s=>by
   have h1:=H t Tac s;rw[jK];cases hr:Tr.turn aL cols t s with
   | error e=>rw[hr] at h1;exact⟨λ e' h=>by injection h with h;rw[<- h];exact h1.err _ rfl,λ y s' h=> Tah,λ y s' h=> Tah,λ y s' h=> Tah⟩
   | ok x=>
     obtain⟨y1,s1⟩:=x;rw[hr] at h1;have h2:=ku (λ t ht=>H t (mem_cons_of_mem _ ht)) s1;dsimp only;cases hq:Tr.turns aL cols ts s1 with
     | error e=>rw[hq] at h2;exact⟨λ e' h=>by injection h with h;rw[<- h];exact h2.err _ rfl,λ y s' h=> Tah,λ y s' h=> Tah,λ y s' h=> Tah⟩
     | ok x=>
       obtain⟨ys,s2⟩:=x;rw[hq] at h2;have l1:=h1.len _ _ rfl;have l2:=h2.len _ _ rfl;refine⟨λ e' h=> Tah,λ y s' h bh=>?_,λ y s' h=>?_,λ y s' h bh ha=>?_⟩
       ·injection h with h;injection h with e1 e2;rw[<- e1];unfold Tr.cP at bh ⊢;exact⟨h1.ok _ _ rfl bh.1,h2.ok _ _ rfl bh.2⟩
       ·injection h with h;injection h with e1 e2;rw[<- e2];have:Tr.aY (t::ts)=t.nodes+Tr.aY ts:=by rw[Tr.aY]
        omega
       ·injection h with h;injection h with e1 e2;rw[<- e2];unfold Tr.cP at bh;exact h2.aok _ _ rfl bh.2 (h1.aok _ _ rfl bh.1 ha)
theorem iE (aL:List Tr)(cols:List aZ):∀(t:Tr) (s:dE),Gr t s (Tr.turn aL cols t s):=by
 refine Tr.ind ?_;intro op v name width args ih s;rw[tC];have hn:(Tr.mk op v name width args).nodes=Tr.aY args+1:=by rw[Tr.nodes]
 cases hf:aL.findIdx? (λ g=>g.same (.mk op v name width args))with
 | some k=>dsimp only;exact⟨λ e h=> Tah,λ y s' h _=>by injection h with h;injection h with h1 h2;rw[<- h1];exact A7 k,λ y s' h=>by injection h with h;injection h with h1 h2;rw[<- h2];omega,λ y s' h _ ha=>by injection h with h;injection h with h1 h2;rw[<- h2];exact ha⟩
 | none=>
   dsimp only;by_cases ha:isAgg op=true
   ·rw[if_pos ha];by_cases ht:(fY cols op args).2≠0
    ·rw[if_pos ht];exact⟨λ e h=>by injection h with h;rw[<- h];exact ht,λ y s' h=> Tah,λ y s' h=> Tah,λ y s' h=> Tah⟩
    ·rw[if_neg ht];refine⟨λ e h=> Tah,λ y s' h bh=>?_,λ y s' h=>?_,λ y s' h bh hao=>?_⟩
     ·injection h with h;injection h with h1 h2;rw[<- h1];exact A7 _
     ·injection h with h;injection h with h1 h2;rw[<- h2];simp only[length_append,length_singleton];omega
     ·injection h with h;injection h with h1 h2;rw[<- h2,mA];refine⟨hao,?_⟩;unfold Tr.cP;refine⟨bh,?_⟩;unfold Tr.cP;trivial
   ·rw[if_neg ha];have h2:=ku ih s
    cases hq:Tr.turns aL cols args s with
    | error e=>rw[hq] at h2;exact⟨λ e' h=>by injection h with h;rw[<- h];exact h2.err _ rfl,λ y s' h=> Tah,λ y s' h=> Tah,λ y s' h=> Tah⟩
    | ok x=>
      obtain⟨ys,s1⟩:=x;rw[hq] at h2;have hl:=tB hq;have l2:=h2.len _ _ rfl;dsimp only;by_cases ho:op=2
      ·rw[if_pos ho];exact⟨λ e' h=>by injection h with h;rw[<- h];exact B3 _ _ _ _ _,λ y s' h=> Tah,λ y s' h=> Tah,λ y s' h=> Tah⟩
      ·rw[if_neg ho];by_cases ht:((Tr.mk op v name width ys).type s1.aL).2≠0
       ·rw[if_pos ht];exact⟨λ e' h=>by injection h with h;rw[<- h];exact ht,λ y s' h=> Tah,λ y s' h=> Tah,λ y s' h=> Tah⟩
       ·rw[if_neg ht];refine⟨λ e' h=> Tah,λ y s' h bh=>?_,λ y s' h=>?_,λ y s' h bh hao=>?_⟩
        ·injection h with h;injection h with h1 h3;rw[<- h1];unfold Tr.ok at bh ⊢;exact⟨bh.1,by rw[hl];exact bh.2.1,bh.2.2.1,bh.2.2.2.1,bh.2.2.2.2.1,h2.ok _ _ rfl bh.2.2.2.2.2⟩
        ·injection h with h;injection h with h1 h3;rw[<- h3];omega
        ·injection h with h;injection h with h1 h3;rw[<- h3];unfold Tr.ok at bh;exact h2.aok _ _ rfl bh.2.2.2.2.2 hao
theorem yC(h:w.grownBy w' (some q))(hB:B<=w.heap.size)(hq:B<=q):Below B w w':=
 ⟨h.os,h.tape,h.output,h.size,λ k hk=>h.block k WC λ e=>by injection e with e;omega⟩
variable{u:Value}
theorem Mv.later(h:Mv w' u v)(hs:w.heap.size<=w'.heap.size):Mv w u v:=by
 rcases h with h | h
 ·exact .inl h
 ·exact .inr λ q hq=>Nat.le_trans hs (h q hq)
variable{lv:Value}{P:Program}
theorem zeE.KaS(h:p:=by refine⟨v',w',hr,ho,ha,?_⟩;exact Zgx):p:=h
theorem eO{size:Nat} {base:Nat}   {y:α}  (t ty:TypeId)(z:Value)(bytes:Nat)(ht:P.underlying t=some (.slice e))(jm:(P.info? e).map (λ i=>(i.zero,i.size,i.bytes))=some (some z,size,bytes))(hzs:z.cells.size=size)(hsz:0 < size)
  (hf:∀x,(f x).length=size) (h1:∀u∈f y,u.oneCell'=true) (hown:aI f e size w base lv l)
  (g0:Nat) (hg0:aC w g0 e (f y).toArray) (hlen:(l.length+1)*bytes<=140737488355328) (mS:l.length+1<=140737488355328) (hbase:base<=w.heap.size):
  ∃v' w',(Builtin.append_ #[t,t] ty #[lv,aF g0 1 1]).run P w=.ok v' w'/\aI f e size w' base v' (l++ [y])/\AR f e size base lv l y w w'/\Mv w lv v':=by
 open zeE in exact ZbZ
structure PC where
 q0:Value
 q1:Value
 q2:Value
 q3:Value
 q5:Value
 q6:Value
 q7:Value
 gA:Option Addr
 gn:Nat
 gc:Nat
 cA:Option Addr
 cc:Nat
 aK:Bool
 aL:List Tr
 cols:List aZ
structure Rest where
 h:Value
 i:Value
 j:Value
 o:Value
def PC.cells (c:PC)(r:Rest)(u v:Value):Array Value:= #[c.q0,c.q1,c.q2,c.q3,.slice c.gA c.gn c.gc,c.q5,c.q6,c.q7,.slice c.cA c.cols.length c.cc,u,v,.bool c.aK,r.h,r.i,r.j,r.o]
structure PC.Ok (c:PC) (w0:World):Prop where
 env:zW w0
 aL:fU w0 c.aL c.gA c.gn
 gok:Tr.cP c.aL
 gl:c.aL.length<=1000000
 cols:RC w0 w0.heap.size c.cA c.cols
 cl:c.cols.length<=1000000
structure eJ (c:PC) (w0:World) (gp:Nat) (r:Rest) (w:World) (u v:Value) (ya:List Ex) (s:dE):Prop where
 low:w0.heap.size<=gp
 base:aj w0 w
 blk:aC w gp 81 (c.cells r u v)
 kP:aI bI 46 7 w w0.heap.size u ya
 dK:aI aU 113 2 w w0.heap.size v s.aL
 aM:Tr.aQ w0 (Old w0) s.aM ya
section
variable {c:PC} {w0 w w':World} {gp:Nat} {r:Rest} {u v:Value} {ya:List Ex} {s:dE}
theorem eJ.later (h:eJ c w0 gp r w u v ya s)(hb:aj w w'):eJ c w0 gp r w' u v ya s:=
 ⟨h.low,Below.trans h.base (hb.mono h.base.size),h.blk.later hb,h.kP.later hb,h.dK.later hb,h.aM⟩
theorem eJ.kp9 (h:eJ c w0 gp r w u v ya s):∀q,u.ownBlock=some q->w0.heap.size<=q:=λ q hq=>(h.kP.lt hq).2.1
theorem eJ.asL (h:eJ c w0 gp r w u v ya s):∀q,v.ownBlock=some q->w0.heap.size<=q:=λ q hq=>(h.dK.lt hq).2.1
theorem eJ.fresh (h:eJ c w0 gp r w u v ya s) {w2:World} {g:Nat}(hg:w.heap.size<=g)(hg2:g < w2.heap.size):Kp w2 gp [u,v] g:=
 ey.2 ⟨hg2,by have:=h.blk.lt;omega,λ e=>by have:=(h.kP.lt e).1;omega,λ e=>by have:=(h.dK.lt e).1;omega⟩
theorem eJ.aside (h:eJ c w0 gp r w u v ya s) {q:Nat}(hg:w.grownBy w' (some q))(hq:Kp w gp [u,v] q)(hl:w0.heap.size<=q):eJ c w0 gp r w' u v ya s:=by rw[ey] at hq;exact⟨h.low,Below.trans h.base (yC hg h.base.size hl),h.blk.grown hg (λ e=>by injection e with e;exact hq.2.1 e.symm),h.kP.grown hg hq.2.2.1,h.dK.grown hg hq.2.2.2,h.aM⟩
end
def rY (c:PC)(w0:World)(gp:Nat)(r:Rest)(u v:Value)(w:World)(x:Except Int (Tr×dE))(e:Ending)(w':World):Prop:=
 match x with
 | .error er=>∃(y:Ex) (u' v':Value),e=.returned (.tuple #[.agg (ay y),af er])/\gM gp w u v w' u' v'
 | .ok (t,s)=>∃y u' v' ya,e=.returned (.tuple #[.agg (ay y),af 0])/\t.at_ w' (λ b=>w.heap.size<=b/\Kp w' gp [u',v'] b) y/\eJ c w0 gp r w' u' v' ya s/\gM gp w u v w' u' v'
def B5 (c:PC)(w0:World)(gp:Nat)(r:Rest)(t:Tr):Prop:=∀(z:Ex) (s:dE) (u v:Value) (ya:List Ex) (w:World),t.ok->t.at_ w0 (Old w0) z->eJ c w0 gp r w u v ya s->s.aL.length+s.aM.length+2*t.nodes<=1000000->
 ar 99 #[aw gp,.agg (ay z)] w (rY c w0 gp r u v w (t.turn c.aL c.cols s))
theorem Ca (k:Nat)(w:World)(S:Nat->Prop):(Ep k).at_ w S (Lp k):=by unfold Ep Tr.at_ Lp;exact Zik
theorem zcn.Kas(h:p:=by
 refine bodyPost_ret (v:=.tuple #[.agg #[ag 2,ag 0,af 0,au,.string nm,af 0,az],af 0]) Taf rfl ?_;refine⟨⟨2,⟨0,0,⟨#[]⟩⟩,nm,0,none,0,0⟩,u,v,ya,rfl,by rw[Sv.ae];exact Ca k _ _,?_,?_⟩
 ·exact pR.ae.later hb9
 ·exact(gM.refl gp w u v).later hb9):p:=h
theorem zdb.KaD(h:p:=by
 have PW:=aa MB;obtain⟨nm,iO⟩:∃nm,nm=iV k:=⟨_,rfl⟩;rw[<- iO];have Sv:=aa iO;clear iO MB;go_wp2_with fail;clear y0 y1 y2 y3 y4 y5 y6 Gt;generalize uR:World.setCell _ _ _=W9;have hR:aC W9 g4 46 #[ag 2,ag 0,af 0,au,.string nm,af 0,az]:=by rw[<- uR];simpa using(((((((PW.ae.aW 0 _).aW 1 _).aW 2 _).aW 3 _).aW 4 _).aW 5 _).aW 6 _)
 have hb9:aj w W9:=by rw[<- uR];exact((((((((tP.ae).setCell (p:=⟨g4,0,none⟩) mO.ae _).setCell (p:=⟨g4,1,none⟩) mO.ae _).setCell (p:=⟨g4,2,none⟩) mO.ae _).setCell (p:=⟨g4,3,none⟩) mO.ae _).setCell (p:=⟨g4,4,none⟩) mO.ae _).setCell (p:=⟨g4,5,none⟩) mO.ae _).setCell (p:=⟨g4,6,none⟩) mO.ae _)
 open zcn in exact ZaL):p:=h
theorem zbu.Kai(h:p:=by have Oq:=pz k WC WC;have eN:=aa hb1;have CV:=aa (tz.ae.later hb1);have MB:=tN.ae.later hb1;have asM:=aa (je.ae.env.later CV.ae.base);clear c4 c8 c10 hb1 Gs hf;go_wp2_with fail;refine(Oq w1 asM.ae).mono ?_;rintro e w2 ⟨rfl,hb2⟩;have tP:=aa (ai.then zY.ae (ai.then eN.ae hb2));have uQ:=aa (CV.ae.later hb2);replace MB:=MB.later hb2;have hz4:=MB.lt;clear hb2 Oq;unfold mK Lp;have Gt:=MB.frozen;open zdb in exact Zbh):p:=h
theorem Qj (c:PC)(w0:World)(gp:Nat)(r:Rest)(t:Tr)(z:Ex)(s:dE)(u v:Value)(ya:List Ex)(w:World)(k:Nat)(hf:c.aL.findIdx? (λ g=>g.same t)=some k)(bh:c.Ok w0)(gj:t.ok)(hat:t.at_ w0 (Old w0) z)(oF:eJ c w0 gp r w u v ya s):
  ar 99 #[aw gp,.agg (ay z)] w (rY c w0 gp r u v w (.ok (Ep k,s))):=by
 have Ax:k < c.aL.length:=by obtain⟨h,_⟩:=List.findIdx?_eq_some_iff_getElem.1 hf;exact h
 have zQ:k<=1000000:=by have:=bh.gl;omega
 open zbu in exact Zay
theorem zco.Kas(h:p:=by refine bodyPost_ret (v:=.tuple #[.agg di,af er]) Taf rfl ?_;exact⟨⟨0,⟨0,0,⟨#[]⟩⟩,⟨#[]⟩,0,none,0,0⟩,u,v,rfl,(gM.refl gp w u v).later hb9⟩):p:=h
theorem zfV.Kbg(h:p:=by
 have hb9:aj w W9:=by rw[<- uR];exact((((((((tP.ae).setCell (p:=⟨g4,0,none⟩) mO.ae _).setCell (p:=⟨g4,1,none⟩) mO.ae _).setCell (p:=⟨g4,2,none⟩) mO.ae _).setCell (p:=⟨g4,3,none⟩) mO.ae _).setCell (p:=⟨g4,4,none⟩) mO.ae _).setCell (p:=⟨g4,5,none⟩) mO.ae _).setCell (p:=⟨g4,6,none⟩) mO.ae _)
 open zco in exact ZaL):p:=h
theorem zhZ.Kb4(h:p:=by have PW:=aa MB;clear MB;open zfV in exact Zdg):p:=h
theorem zc9.KaC(h:p:=by
 have t1:(er != 0)=true:=by simp[her]
 have Gt:=MB.frozen;open zhZ in exact Zfg):p:=h
theorem zbv.Kai(h:p:=by open zc9 in exact Zbg):p:=h
theorem Jk (c:PC)(w0:World)(gp:Nat)(r:Rest)(t:Tr)(z:Ex)(s:dE)(u v:Value)(ya:List Ex)(w:World)(hf:c.aL.findIdx? (λ g=>g.same t)=none)(ha:isAgg t.op=true)(ty er:Int)(ht:fY c.cols t.op t.args=(ty,er))(her:er≠0)(bh:c.Ok w0)(gj:t.ok)(hat:t.at_ w0 (Old w0) z)(oF:eJ c w0 gp r w u v ya s):
  ar 99 #[aw gp,.agg (ay z)] w (rY c w0 gp r u v w (.error er)):=by
 open zbv in exact Zay
theorem wM(w:World)(g q:Nat)(t ty:TypeId)(cur cells:Array Value)(hg:w.heap[g]?=some (.cells cur t (0,0)))(hi:(P.info? ty).map (·.size)=some cells.size)
  (pO:q+cells.size<=cur.size) (h1:cells.all (·.oneCell')=true):
  (storeVar ty ⟨g,q,none⟩ (.agg cells)).run P w=.ok () (w.setRow g (cur.toList.take q++cells.toList++cur.toList.drop (q+cells.size)).toArray):=by
 have:=run_storeCells_at P g q t cells.toList 0 cur w hg (by simpa using pO) (λ v hv=>(Array.all_eq_true_iff_forall_mem.1 h1) v (by simpa using hv));simp only[Nat.add_zero,Array.length_toList] at this
 cases hq:P.info? ty with
 | none=>simp[hq] at hi
 | some i=>
   have hs:cells.size=i.size:=by simp[hq] at hi;omega
   simp[storeVar,sizeOf,typeInfo,hq,Value.cells,hs] at this ⊢;rw[this]
theorem aI.block{size base:Nat}   (h:aI f e size w base v l)(hne:l≠ []):∃g c,v=aF g l.length c/\base<=g/\g < w.heap.size:=by
 rcases h.2 with ⟨_,h0⟩|⟨g,cap,cur,rfl,hb,hg,_⟩
 ·exact absurd (eq_nil_of_length_eq_zero h0) hne
 ·exact⟨g,cap,rfl,hb,(h.lt rfl).1⟩
theorem Gu{size:Nat}(hf:∀x,(f x).length=size):∀m:List α,(m.flatMap f).length=m.length*size:=by
 intro m
 induction m with
 | nil=>simp
 | cons x m ih=>rw[flatMap_cons,length_append,hf,ih,length_cons,Nat.add_mul,Nat.one_mul];omega
theorem MC{size:Nat}(hf:∀x,(f x).length=size)(y:α):∀(l:List α) (i:Nat),i < l.length->(l.set i y).flatMap f=(l.flatMap f).take (i*size)++f y++(l.flatMap f).drop (i*size+size):=by
 intro l
 induction l with
 | nil=>intro i hi;simp at hi
 | cons x l ih=>
   intro i hi
   cases i with
   | zero=>simp only[set_cons_zero,flatMap_cons,Nat.zero_mul,take_zero,nil_append,Nat.zero_add];rw[drop_append_of_le_length (by rw[hf];exact Nat.le_refl _),<- hf x,drop_length,nil_append]
   | succ i=>
     simp only[set_cons_succ,flatMap_cons];rw[ih i TaD];have e1:(i+1)*size=(f x).length+i*size:=by rw[hf,Nat.add_mul,Nat.one_mul];omega
     rw[e1,take_length_add_append,Nat.add_assoc,drop_length_add_append];simp[append_assoc]
variable{ops:Array Oper}{rest:List Oper}{a:Act}{Q:Exit->Act->World->Prop}
theorem zfu.Ka7(h:p:=by
 unfold Oper.wp execOp;simp only[ho,hp,hx,Instr.storeAt,Instr.sureAddr,Sem.run_bind,Sem.run_pure,Result.andThen_ok,hrun];refine hK _ _ (h _ ⟨?_,.inr ⟨q,c,_,?_,hb,setRow_heap w q cur _ e (0,0) hg,?_,hm,?_,?_⟩⟩ ⟨rfl,rfl,rfl,by simp[World.setRow],λ k hk hne=>setRow_other w q k _ (λ e=>hne Tbb)⟩)
 ·rw[Gu hf]
 ·rw[e2,length_set]
 ·rw[length_set];exact hn
 ·rw[<- hs];simp[hf];omega
 ·exact Zb1):p:=h
theorem oI{size base:Nat}   {y:α}    {o:Oper}  (hgd:o.guard=none)(ty:TypeId)(p x:Operand)(ho:o.op=.store ty p x)
  (q n c i:Nat) (hf:∀x,(f x).length=size) (hown:aI f e size w base (aF q n c) l) (ui:i < l.length) (hp:a.eval p=bj q (i*size)) (hx:a.eval x=.agg (f y).toArray)
  (hi:(P.info? ty).map (·.size)=some size) (h1:(f y).toArray.all (·.oneCell')=true)
  (h:∀w',aI f e size w' base (aF q n c) (l.set i y)->w.grownBy w' (some q)->wpList P ops Q rest (a.put o.dst undef) w'):wpList P ops Q (o::rest) a w:=by
 refine wpList_plain hgd λ K hK=>?_
 rcases hown.2 with ⟨hv,_⟩|⟨g,cap,cur,hv,hb,hg,hn,hm,hs,ht⟩
 ·cases hv
 ·open zfu in exact ZcR
theorem wN{size base:Nat}   {z y:α}    {o:Oper}  (hgd:o.guard=none)(ty:TypeId)(p x:Operand)(ho:o.op=.store ty p x)
  (q n c:Nat) (hf:∀x,(f x).length=size) (hown:aI f e size w base (aF q n c) (l++ [z])) (hp:a.eval p=bj q (l.length*size)) (hx:a.eval x=.agg (f y).toArray)
  (hi:(P.info? ty).map (·.size)=some size) (h1:(f y).toArray.all (·.oneCell')=true)
  (h:∀w',aI f e size w' base (aF q n c) (l++ [y])->w.grownBy w' (some q)->wpList P ops Q rest (a.put o.dst undef) w'):wpList P ops Q (o::rest) a w:=by
 refine oI hgd ty p x ho q n c l.length hf hown Tac hp hx hi h1 λ w' h1 h2=>h w' ?_ h2
 exact ZhL
section
variable {c:PC} {w0 w w':World} {gp:Nat} {r:Rest} {u v u' v':Value} {ya:List Ex} {s:dE}
theorem eJ.amp (h:eJ c w0 gp r w u v ya s)(hg:w.grownBy w' u.ownBlock):aj w0 w':=
 Below.trans h.base (bw h.kP hg h.base.size)
theorem eJ.aea (h:eJ c w0 gp r w u v ya s)(hg:w.grownBy w' v.ownBlock):aj w0 w':=
 Below.trans h.base (bw h.dK hg h.base.size)
theorem dC {α:Type} {f:α->List Value} {e:TypeId} {size base:Nat} {l:List α} {x:Value} {q:Nat} {t:TypeId} {cs:Array Value}(hq:aC w q t cs)(h:aI f e size w base x l)(ht:t≠e)(hg:w.grownBy w' x.ownBlock):aC w' q t cs:=hq.grown hg λ e=>h.other hq ht e.symm
theorem eJ.amq (h:eJ c w0 gp r w u v ya s) {t:Tr} {z:Ex}(ho:aI bI 46 7 w' w0.heap.size u' (ya++ [z]))(hg:w.grownBy w' u.ownBlock)(ht:t.at_ w0 (Old w0) z):
  eJ c w0 gp r (w'.setCell ⟨gp,9,none⟩ u') u' v (ya++ [z]) ⟨s.aM++ [t],s.aL⟩:=by
 have hb:=dC h.blk h.kP Taa hg;refine⟨h.low,(h.amp hg).setCell h.low _,hb.aW 9 u',ho.keep λ g hg2=>?_,(h.dK.past h.kP Taa hg).keep λ g hg2=>?_,Tr.all_append h.aM (Tr.fP ht)⟩
 ·exact Below.heap_setCell w' ⟨gp,9,none⟩ u' g λ e=>ho.other hb Taa Taj
 ·exact Below.heap_setCell w' ⟨gp,9,none⟩ u' g λ e=>(h.dK.past h.kP Taa hg).other hb Taa Taj
theorem eJ.Qk (h:eJ c w0 gp r w u v ya s) {x:aZ}(ho:aI aU 113 2 w' w0.heap.size v' (s.aL++ [x]))(hg:w.grownBy w' v.ownBlock):
  eJ c w0 gp r (w'.setCell ⟨gp,10,none⟩ v') u v' ya ⟨s.aM,s.aL++ [x]⟩:=by
 have hb:=dC h.blk h.dK Taa hg;refine⟨h.low,(h.aea hg).setCell h.low _,hb.aW 10 v',(h.kP.past h.dK Taa hg).keep λ g hg2=>?_,ho.keep λ g hg2=>?_,h.aM⟩
 ·exact Below.heap_setCell w' ⟨gp,10,none⟩ v' g λ e=>(h.kP.past h.dK Taa hg).other hb Taa Taj
 ·exact Below.heap_setCell w' ⟨gp,10,none⟩ v' g λ e=>ho.other hb Taa Taj
theorem gM.amr (hg:w.grownBy w' u.ownBlock)(hm:Mv w u u')(x:Value)(i:Nat):gM gp w u v (w'.setCell ⟨gp,i,none⟩ x) u' v:=
 ⟨hg.os,hg.tape,hg.output,by rw[World.size_setCell];exact hg.size,λ k hk=>(Below.heap_setCell w' ⟨gp,i,none⟩ x k (ey.1 hk).2.1).trans (hg.block k hk.1 λ e=>(ey.1 hk).2.2.1 e.symm),hm,.inl rfl⟩
theorem gM.B6 (hg:w.grownBy w' v.ownBlock)(hm:Mv w v v')(x:Value)(i:Nat):gM gp w u v (w'.setCell ⟨gp,i,none⟩ x) u v':=
 ⟨hg.os,hg.tape,hg.output,by rw[World.size_setCell];exact hg.size,λ k hk=>(Below.heap_setCell w' ⟨gp,i,none⟩ x k (ey.1 hk).2.1).trans (hg.block k hk.1 λ e=>(ey.1 hk).2.2.2 e.symm),.inl rfl,hm⟩
theorem gM.in9 {q:Nat}(hg:w.grownBy w' (some q))(hq:u.ownBlock=some q):gM gp w u v w' u v:=
 ⟨hg.os,hg.tape,hg.output,hg.size,λ k hk=>hg.block k hk.1 λ e=>(ey.1 hk).2.2.1 (hq.trans e.symm),.inl rfl,.inl rfl⟩
end
def agF (gp B:Nat)(w1:World)(u:Value)(l:List Ex)(z:Ex):Nat->World->Value->Prop
 | 0,_,v=>v=aw gp
 | 1,_,v=>v=aw gp
 | 2,_,v=>v=aw gp
 | 3,_,v=>v=bj gp 9
 | 4,_,v=>v=u
 | 5,_,v=>v=.agg (ay z)
 | 6,w,v=>∃q:Nat,v=aF q 1 1/\aC w q 46 (bI z).toArray/\u.ownBlock≠some q
 | 7,w,v=>∃q:Value,v=q/\aI bI 46 7 w B q (l++ [z])/\Mv w1 u q
 | 8,_,v=>v=aw gp
 | 9,_,v=>v=bj gp 9
 | _,_,_=>False
theorem Ql (gp B:Nat)(w1:World)(u:Value)(l:List Ex)(z:Ex):∀i w w' v,agF gp B w1 u l z i w v->AR bI 46 7 B u l z w w'->agF gp B w1 u l z i w' v:=by
 intro i w w' v h hl
 match i with
 | 0 | 1 | 2 | 3 | 4 | 5 | 8 | 9=>exact h
 | 6=>exact Zff
 | 7=>exact Zgy
 | n+10=>exact h
def abm (gp g9 B:Nat)(w1:World)(vv:Value)(l:List aZ)(nm:ByteArray)(ty:Int):Nat->World->Value->Prop
 | 0,_,v=>v=aw gp
 | 1,_,v=>v=aw gp
 | 2,_,v=>v=aw gp
 | 3,_,v=>v=bj gp 10
 | 4,_,v=>v=vv
 | 5,_,v=>v=bj g9 4
 | 6,_,v=>v=.string nm
 | 7,_,v=>v=ag ty
 | 8,_,v=>v=.agg #[.string nm,ag ty]
 | 9,w,v=>∃q:Nat,v=aF q 1 1/\aC w q 113 (aU ⟨nm,ty⟩).toArray/\vv.ownBlock≠some q
 | 10,w,v=>∃q:Value,v=q/\aI aU 113 2 w B q (l++ [⟨nm,ty⟩])/\Mv w1 vv q
 | 11,_,v=>v=aw gp
 | 12,_,v=>v=bj gp 10
 | _,_,_=>False
theorem CX (gp g9 B:Nat)(w1:World)(vv:Value)(l:List aZ)(nm:ByteArray)(ty:Int):∀i w w' x,abm gp g9 B w1 vv l nm ty i w x->AR aU 113 2 B vv l ⟨nm,ty⟩ w w'->abm gp g9 B w1 vv l nm ty i w' x:=by
 intro i w w' x h hl
 match i with
 | 0 | 1 | 2 | 3 | 4 | 5 | 6 | 7 | 8 | 11 | 12=>exact h
 | 9=>exact Zff
 | 10=>exact Zgy
 | n+13=>exact h
def wO:Ex:=⟨0,⟨0,0,⟨#[]⟩⟩,⟨#[]⟩,0,none,0,0⟩
theorem zda.KaC(h:p:=by
 have hy6:=MB;have Cz:=aa MB;clear MB hy6 ht;obtain⟨UA,uc,hu,_⟩:=MA.ae.kP.reads;obtain⟨VA,vc,hv,_⟩:=MA.ae.dK.reads;have Am:=aa (show ya.length=s.aM.length from MA.ae.aM.length);subst hu hv;go_wp2_with fail;go_region
 ·generalize hW8:World.drew _=W8;have b7:aj W4 W8:=by rw[<- hW8];exact((Below.refl _ _).alloc (Nat.le_refl _) _).drew
  clear hW8;have pS:=aa (MA.ae.later b7);have Vm:=aa (MR.ae.later b7);have MS:=aa (Cz.ae.later b7);have Gv:=aa (ai.then tP.ae b7);clear b7 MA MR Cz tP;have hk3:=pR.ae.fresh (w2:=W8) Jj.ae Vm.ae.lt;have hk4:=pR.ae.fresh (w2:=W8) mO.ae MS.ae.lt;have DY:=aa (ey.1 hk3);have CY:=aa (ey.1 hk4);clear hk3 hk4;go_wp2_with fail;refine fu _ _ (take_append_drop 10 _).symm (AR bI 46 7 w0.heap.size (Value.slice UA ya.length uc) ya z) AR.refl (λ _ _ _=>AR.trans) AR.drew (agF gp w0.heap.size W8 (Value.slice UA ya.length uc) ya z) (λ i w w' x h hr=>Ql _ _ _ _ _ _ _ _ _ _ h hr) Vx Vx Vx ?_ ?_
  ·simp only[take_succ_cons,take_zero];refine⟨Za2,Za2,Za2,ZeF,?_,?_,?_,?_,Za2,ZeF,trivial⟩
   ·intro ρ W4 hc hL hr;have h0:_=_:=hr.1;have kQ:=dC pS.ae.blk pS.ae.kP Taa hL.grown;unfold PC.cells at kQ;have c9:=kQ.cell 9;simp only[Uaa] at c9;exact aq (w':=W4) (by simp[go_sem,h0,c9];done) ⟨AR.refl _,rfl⟩
   ·intro ρ W4 hc hL hr;have h0:_=_:=hr.1;have HX:=Vm.ae.grown hL.grown (Ne.symm DY.ae.2.2.1);have z0:=HX.cell 0;have z1:=HX.cell 1;have x2:=HX.cell 2;have x3:=HX.cell 3;have x4:=HX.cell 4;have x5:=HX.cell 5;have x6:=HX.cell 6;simp only[Uaa] at z0 z1 x2 x3 x4 x5 x6;exact aq (w':=W4) (by simp[go_sem,h0,z0,z1,x2,x3,x4,x5,x6];done) ⟨AR.refl _,rfl⟩
   ·intro ρ W4 hc hL hr;have h0:_=_:=hr.1;refine aq (v:=.slice (some ⟨W4.heap.size,0,none⟩) 1 1) (w':=W4.alloc (.cells (ay z) 46)) Taq ⟨AR.later (ah W4 _),⟨_,rfl,aC.new W4 _ _,λ e=>?_⟩⟩;have:=((hL.old pS.ae.kP).lt e).1;omega
   ·intro ρ W4 hc hL hr;have h0:_=_:=hr.1;obtain⟨q1,h1,uS,Jl⟩:∃q:Nat,ρ (.tmp 60)=.slice (some ⟨q,0,none⟩) 1 1/\aC W4 q 46 (bI z).toArray/\(Value.slice UA ya.length uc).ownBlock≠some q:=hr.2.1;obtain⟨v',w',hrun,ho,yS,Eu⟩:=eO (P:=Tryz.prog) (w:=W4) 23 23 _ 88 Tryz.underlying23 fM rfl WC (λ _=>rfl) TaC (hL.old pS.ae.kP) q1 uS TaE TaE (Nat.le_trans pS.ae.base.size hL.grown.size);exact Zcb
  intro W3 hL;simp only[Uab];rintro a0 - a1 - a2 - a3 - a4 - a5 - a6 - a7 ⟨q_7,rfl,K9,aeK⟩ a8 - _ rfl;simp only[bF,Act.put,Uac];obtain⟨A4,Qo,hv4,_⟩:=K9.reads;rw[length_append,length_singleton] at hv4;subst hv4;have O4:=aa K9;have HM4:=aa aeK;have C2:=aa hL.grown;have kQ:=dC pS.ae.blk pS.ae.kP Taa hL.grown;have f9:=kQ.frozen 9;unfold PC.cells at kQ;have c9:=kQ.cell 9;simp only[Uaa] at c9;clear K9 aeK kQ hL;go_upto_region 12 with fail;clear f9 c9;have K2:=aa (pS.ae.amq O4.ae C2.ae CU.ae);have K3:=aa ((gM.refl gp W8 (Value.slice UA ya.length uc) (Value.slice VA s.aL.length vc)).trans (gM.amr (gp:=gp) (v:=Value.slice VA s.aL.length vc) C2.ae HM4.ae (Value.slice A4 (ya.length+1) Qo) 9));have K6:=aa ((MS.ae.grown C2.ae (Ne.symm CY.ae.2.2.1)).far (p:=⟨gp,9,none⟩) CY.ae.2.1 (Value.slice A4 (ya.length+1) Qo));clear pS Vm MS O4 HM4 C2;generalize World.setCell W3 _ _=WA at*;obtain⟨UX,hUX⟩:∃UX,UX=Value.slice A4 (ya.length+1) Qo:=⟨_,rfl⟩;rw[<- hUX] at K2 K3;clear hUX;exact Zac
 ·generalize hW8:World.drew _=W8;have b7:aj W4 W8:=by rw[<- hW8];exact((Below.refl _ _).alloc (Nat.le_refl _) _).drew
  clear hW8;have pS:=aa (MA.ae.later b7);have Vm:=aa (MR.ae.later b7);have MS:=aa (Cz.ae.later b7);have Gv:=aa (ai.then tP.ae b7);clear b7 MA MR Cz tP;have hk3:=pR.ae.fresh (w2:=W8) Jj.ae Vm.ae.lt;have hk4:=pR.ae.fresh (w2:=W8) mO.ae MS.ae.lt;have DY:=aa (ey.1 hk3);have CY:=aa (ey.1 hk4);clear hk3 hk4;have C4:=aa (ah W8 (.cells di 46));have gX:=pS.ae.blk;unfold PC.cells at gX;have c9:=gX.cell 9;simp only[Uaa] at c9;clear gX;go_upto_region 10 with (first
   |(at_builtin
     refine nA (l:=ya) (y:=wO) rfl (.tmp 46) (.tmp 48) 23 rfl _ 88 Tryz.underlying23 fM rfl WC rfl (by simp[bI,wO,Value.oneCell']) rfl (pS.ae.kP.later C4.ae) W8.heap.size rfl (aC.new W8 _ _) TaE TaE (Nat.le_trans pS.ae.base.size C4.ae.size) ?_
     intro v4 w4 Ly gr4 m4
     obtain⟨LE,Kx,Nm,hq4,asR⟩:=Ly.block Tac
     rw[length_append,length_singleton] at Nm
     subst Nm
     have Db:=aa (pS.ae.later C4.ae)
     have hb4:=dC Db.ae.blk Db.ae.kP Taa gr4
     have f4:=hb4.frozen 9
     unfold PC.cells at hb4
     have cc9:=hb4.cell 9
     simp only[Uaa] at cc9
     have LT:=aa Ly
     have G4:=aa (show(W8.alloc (.cells di 46)).grownBy w4 (Value.slice UA ya.length uc).ownBlock from gr4)
     have M4:=aa (show Mv (W8.alloc (.cells di 46)) (Value.slice UA ya.length uc) (Value.slice (some ⟨LE,0,none⟩) (ya.length+1) Kx)from m4)
     clear Ly gr4 m4 hb4))
  clear cc9 f4 c9;have amx:=gM.amr (gp:=gp) (v:=Value.slice VA s.aL.length vc) G4.ae M4.ae (Value.slice (some ⟨LE,0,none⟩) (ya.length+1) Kx) 9;have amy:=aa (((gM.refl gp W8 (Value.slice UA ya.length uc) (Value.slice VA s.aL.length vc)).later C4.ae).trans amx);have vr:=aa ((Db.ae.amp G4.ae).setCell Db.ae.low (p:=⟨gp,9,none⟩) (Value.slice (some ⟨LE,0,none⟩) (ya.length+1) Kx));have hb4:=dC Db.ae.blk Db.ae.kP Taa G4.ae;have amz:=aa (show aC (w4.setCell ⟨gp,9,none⟩ (Value.slice (some ⟨LE,0,none⟩) (ya.length+1) Kx)) gp 81 (c.cells r (Value.slice (some ⟨LE,0,none⟩) (ya.length+1) Kx) (Value.slice VA s.aL.length vc))from hb4.aW 9 _);have HO5:=aa (LT.ae.keep λ g hg2=>Below.heap_setCell w4 ⟨gp,9,none⟩ (Value.slice (some ⟨LE,0,none⟩) (ya.length+1) Kx) g λ e=>LT.ae.other hb4 Taa Taj);have HV5:=aa ((Db.ae.dK.past Db.ae.kP Taa G4.ae).keep λ g hg2=>Below.heap_setCell w4 ⟨gp,9,none⟩ (Value.slice (some ⟨LE,0,none⟩) (ya.length+1) Kx) g λ e=>(Db.ae.dK.past Db.ae.kP Taa G4.ae).other hb4 Taa Taj);have AQ:=aa (((Vm.ae.later C4.ae).grown G4.ae (Ne.symm DY.ae.2.2.1)).far (p:=⟨gp,9,none⟩) DY.ae.2.1 (Value.slice (some ⟨LE,0,none⟩) (ya.length+1) Kx));have HZ5:=aa (((MS.ae.later C4.ae).grown G4.ae (Ne.symm CY.ae.2.2.1)).far (p:=⟨gp,9,none⟩) CY.ae.2.1 (Value.slice (some ⟨LE,0,none⟩) (ya.length+1) Kx));have MF:=aa pS.ae.aM;have uF:=aa pS.ae.low;have agK:=aa (show LE≠g4/\LE≠gp from⟨λ e=>by
   rcases M4.ae with h | h
   ·exact CY.ae.2.2.1 (by rw[<- h,e];rfl)
   ·have h1:=h LE rfl
    have h2:=CY.ae.1
    have h3:=C4.ae.size
    omega,λ e=>LT.ae.other hb4 Taa (by rw[e];rfl)⟩)
  clear amx hb4 Db pS Vm MS LT G4 M4 hq4 asR;generalize World.setCell w4 _ _=w5 at*;have k1:=AQ.ae;have z0:=k1.cell 0;have z1:=k1.cell 1;have x2:=k1.cell 2;have x3:=k1.cell 3;have x4:=k1.cell 4;have x5:=k1.cell 5;have x6:=k1.cell 6
  simp only[Uaa] at z0 z1 x2 x3 x4 x5 x6;clear k1;go_upto_region 12 with (first
   |(refine wN rfl 46 (.tmp 53) (.tmp 52) rfl LE (ya.length+1) Kx (f:=bI) (y:=z) (l:=ya) (λ _=>rfl) HO5.ae rfl rfl Vx TaC ?_
     intro w6 ho6 rZ
     have HO6:=aa ho6
     have xp:=aa rZ
     clear ho6 rZ))
  clear z0 z1 x2 x3 x4 x5 x6;have K2:=aa (show eJ c w0 gp r w6 (Value.slice (some ⟨LE,0,none⟩) (ya.length+1) Kx) (Value.slice VA s.aL.length vc) (ya++ [z]) ⟨s.aM++ [t],s.aL⟩from
   ⟨uF.ae,Below.trans vr.ae (yC xp.ae vr.ae.size (HO6.ae.lt rfl).2.1),amz.ae.grown xp.ae (λ e=>by injection e with e;exact agK.ae.2 e.symm),HO6.ae,HV5.ae.grown xp.ae (λ e=>by
     obtain⟨_,_,cu,h1⟩:=HV5.ae.lt e
     obtain⟨_,_,cu2,h2⟩:=HO5.ae.lt (g:=LE) rfl
     rw[h1] at h2
     injection h2 with h2
     injection h2 with _ h2 _
     exact absurd h2 Taa),Tr.all_append MF.ae (Tr.fP CU.ae)⟩)
  have K3:=aa (amy.ae.trans (gM.in9 (gp:=gp) (u:=Value.slice (some ⟨LE,0,none⟩) (ya.length+1) Kx) (v:=Value.slice VA s.aL.length vc) xp.ae rfl));have K6:=aa (HZ5.ae.grown xp.ae (λ e=>by injection e with e;exact agK.ae.1 e.symm));clear amy xp HO6 HO5 HV5 AQ HZ5 amz vr MF uF agK;generalize w6=WA at*;obtain⟨A4,hv4⟩:∃A4,A4=Value.slice (some ⟨LE,0,none⟩) (ya.length+1) Kx:=⟨_,rfl⟩;rw[<- hv4] at K2 K3;clear hv4;exact Zac):p:=h
theorem zbw.Kai(h:p:=by open zda in exact Zbg):p:=h
theorem MD (c:PC)(w0:World)(gp:Nat)(r:Rest)(t:Tr)(z:Ex)(s:dE)(u v:Value)(ya:List Ex)(w:World)(hf:c.aL.findIdx? (λ g=>g.same t)=none)(ha:isAgg t.op=true)(ty:Int)(ht:fY c.cols t.op t.args=(ty,0))(hlen:s.aL.length+s.aM.length<=999998)(bh:c.Ok w0)(gj:t.ok)(hat:t.at_ w0 (Old w0) z)(oF:eJ c w0 gp r w u v ya s):
  ar 99 #[.pointer (some ⟨gp,0,none⟩),.agg (ay z)] w (rY c w0 gp r u v w (.ok (Ep s.aL.length,⟨s.aM++ [t],s.aL++ [⟨iV s.aL.length,ty⟩]⟩))):=by
 open zbw in exact Zay
def Gx (gp k:Nat)(CA:Option Addr)(cn cc:Nat)(ty er:Int)(y:Ex):Nat->World->Value->Prop
 | 0,_,v=>v=.agg (ay y)
 | 1,_,v=>v=aw gp
 | 2,_,v=>v=aw gp
 | 3,_,v=>v=bj gp k
 | 4,_,v=>v=.slice CA cn cc
 | 5,_,v=>v=.tuple #[ag ty,af er]
 | 6,_,v=>v=.tuple #[ag ty,af er]
 | 7,_,v=>v=ag ty
 | 8,_,v=>v=af er
 | 9,_,v=>v=ag ty
 | 10,_,v=>v=af er
 | _,_,_=>False
theorem nE (gp k:Nat)(CA:Option Addr)(cn cc:Nat)(ty er:Int)(y:Ex):∀i w w' v,Gx gp k CA cn cc ty er y i w v->ai w w'->Gx gp k CA cn cc ty er y i w' v:=by exact ZdW
def MG:Ex:=⟨1,⟨0,0,⟨#[]⟩⟩,⟨#[]⟩,0,none,0,0⟩
theorem ID (w:World)(S:Nat->Prop):(Tr.mk 1 aP ByteArray.empty 0 []).at_ w S MG:=by unfold Tr.at_ MG;exact Zik
theorem SU (w:World)(S:Nat->Prop):∀n,Tr.aQ w S (List.replicate n (.mk 1 aP ByteArray.empty 0 [])) (List.replicate n MG)
 | 0=>by unfold List.replicate Tr.aQ;rfl
 | n+1=>by rw[replicate_succ,replicate_succ];unfold Tr.aQ;exact⟨_,_,rfl,ID w S,SU w S n⟩
theorem SV:∀n,Tr.cP (List.replicate n (.mk 1 aP ByteArray.empty 0 []))
 | 0=>by unfold List.replicate Tr.cP;trivial
 | n+1=>by rw[replicate_succ];unfold Tr.cP;refine⟨?_,SV n⟩;unfold Tr.ok;refine⟨⟨by decide,by decide⟩,by simp,by decide,by decide,by decide,?_⟩;unfold Tr.cP;trivial
variable{ys:List Ex}
theorem pT{base:Nat}  (h:aI bI 46 7 w base v ys) (hS:∀q,v.ownBlock=some q->S q):∃A c,v=.slice A ys.length c/\ys.length<=c/\R8 w S A ys:=by
 obtain⟨A0,c0,e0,_,hle,_⟩:=h.reads;obtain⟨A,c,rfl,h1⟩:=ej (f:=bI) (size:=7) (λ _=>rfl) h;injection e0 with _ _ e0;refine⟨A,c,rfl,by rw[e0];exact hle,?_⟩;rcases h1 with h1 |⟨g,h1,h2,h3⟩
 ·exact .inl h1
 ·refine .inr ⟨g,0,h1,hS g (by rw[h1];rfl),λ i x hx=>?_⟩;have k:=λ j u hj hu=>h3 i x j u hx hj hu
  unfold cy;simp only[Nat.zero_add];exact⟨by simpa using k 0 _ WC rfl,k 1 _ WC rfl,k 2 _ WC rfl,k 3 _ WC rfl,k 4 _ WC rfl,k 5 _ WC rfl,k 6 _ WC rfl⟩
theorem zi6.Kcw(h:p:=by
 have yr:=aa hR;have GU:=aa VQ;clear hR VQ cb;go_wp2_with fail;clear z6;go_loopw [5,11] (λ _ i wr=>∃(k:Nat) (zs:List Ex),k<=n/\i=af k/\zs.length=n/\zs.take k=List.replicate k MG/\aI bI 46 7 wr base (.slice A n c) zs/\W.grownBy wr (Value.slice A n c).ownBlock) (λ _ i _=>n - (intOf i).toNat);case atStart=>exact⟨0,ys,Nat.zero_le _,rfl,HN.ae.symm,rfl,HO.ae,World.grownBy.refl W _⟩
 case round=>
  obtain⟨k,zs,hk,rfl,hzl,Gy,ho,hg⟩:=hrel;have Xd:=aa Gy;have oQ:=aa hzl;have Kx:=aa ho;have yq:=aa hg;clear Gy ho hg hzl;have hx:=aa (yr.ae.grown yq.ae (Ne.symm asT.ae));by_cases hlt:k < n
  ·obtain⟨q,c2,AP,hbq,SG⟩:=Kx.ae.block (λ e=>by have:=oQ.ae;rw[e] at this;simp at this;omega);injection AP with hA WI hc2;subst hA;have z6:=hx.ae.cell 6;simp only[Uaa] at z6;clear hc2 WI hbq SG Uk;go_wp2_with (first
    |(refine oI rfl 46 (.tmp 18) (.tmp 17) rfl q n c k (f:=bI) (y:=MG) (λ _=>rfl) Kx.ae (by rw[oQ.ae];exact hlt) rfl rfl Vx (by simp[bI,MG,Value.oneCell']) ?_
      intro w4 ho4 hg4
      have HO4:=aa ho4
      have Kf:=aa hg4
      clear ho4 hg4))
   go_roundw;case rel=>refine⟨k+1,zs.set k MG,hlt,by go_num,by rw[length_set];exact oQ.ae,?_,HO4.ae,ba yq.ae Kf.ae⟩;have h1:=oQ.ae;rw[take_add_one,take_set_of_le (Nat.le_refl _),Xd.ae,getElem?_set_self WC,replicate_succ'];rfl
   case measure=>exact Za6
  ·have fL:k=n:=by omega
   subst fL;have hzz:zs=List.replicate k MG:=by have:=Xd.ae;rwa [take_of_length_le (by rw[oQ.ae];exact Nat.le_refl _)] at this
   subst hzz;obtain⟨y,hy⟩:∃y:Ex,y=⟨2,v,name,width,A,k,c⟩:=⟨_,rfl⟩;have Gs:=aa (show aC wr g2 46 (ay y) by rw[hy];exact hx.ae);have aeh:wr.heap[gp]?=W.heap[gp]?:=yq.ae.block gp Kb.ae (Ne.symm nV.ae);have Jm:=aa ((bJ aeh 8).trans Uk.ae);have Qq:=aa (Nat.lt_of_lt_of_le Kb.ae yq.ae.size)
   have hC6:RC wr wr.heap.size CA cols:=by
    by_cases hc0:cols=[]
    ·exact .inl hc0
    rcases HC.ae with KK |⟨b,off,h1,h2,h3⟩
    ·exact .inl KK
    ·refine .inr ⟨b,off,h1,Nat.lt_of_lt_of_le h2 yq.ae.size,λ i x hx=>(h3 i x hx).keep λ o=>bJ (yq.ae.block b h2 (Ne.symm (DZ.ae hc0 _ h1))) o⟩
   obtain⟨A2,c2,xH,_,hres⟩:=pT Kx.ae (S:=Old wr) (λ q hq=>(Kx.ae.lt hq).1);injection xH with e1 e2 e3;subst e1 e3;clear e2;have lX:=HN.ae;have hat:(Tr.mk 2 v name width (List.replicate k (.mk 1 aP ByteArray.empty 0 []))).at_ wr (Old wr) y:=by unfold Tr.at_;rw[hy];exact⟨rfl,rfl,rfl,rfl,by simp,_,hres,SU _ _ _⟩
   have NS:=je.ae;rw[<- lX] at NS;have xo:=aa (Tr.po (cols:=cols) (CA:=CA) (cc:=cc) WC _ y wr NS hat hC6);have Qr:=aa lX;have xC:rF cols v name width k=if ((Tr.mk 2 v name width (List.replicate k (.mk 1 aP ByteArray.empty 0 []))).type cols).2≠0 then((Tr.mk 2 v name width (List.replicate k (.mk 1 aP ByteArray.empty 0 []))).type cols).2 else 42:=rfl;generalize (Tr.mk 2 v name width (List.replicate k (.mk 1 aP ByteArray.empty 0 []))).type cols=r at*;obtain⟨ty,e0⟩:=r;dsimp only at xC xo;have Ay:=aa xC;have jH:=aa (Below.trans (zY.ae.mono C5.ae) (bw HO.ae yq.ae aef.ae));clear aeh hC6 hres hat NS xC lX hlt hy hx Kx yq HC Uk;go_upto_region 6 with fail;refine bC 11 (Gx gp 8 CA cols.length cc ty e0 y) (nE _ _ _ _ _ _ _ _) Vx Vx Vx ?_ ?_
   ·simp only[take_succ_cons,take_zero];refine⟨ZhO,Zab,Zab,Zab,ZcE,?_,Zab,Zab,Zab,Zab,Zab,trivial⟩
    ·intro ρ W4 hc hL hr;have h0:_=_:=hr.1;have h1:_=_:=hr.2.1;have e1:=hc.func 59;refine bD (f:=59) (args:= #[.agg (ay y),.slice CA cols.length cc]) (w':=W4) Tar ?_;exact ZgS
   intro W3 hL;simp only[Uab];rintro a0 - a1 - a2 - a3 - a4 - a5 - a6 - a7 - a8 - _ rfl _ rfl;simp only[bF,Act.put,Uac];have HBX:=aa (jH.ae.trans (hL.mono (Nat.le_trans C5.ae jH.ae.size)));clear hL jH Gs Jm xo;by_cases h:e0=0
   ·subst h;go_wp2_with fail;go_ret;exact⟨by rw[Ay.ae];rfl,HBX.ae⟩
   ·have t1:(e0 != 0)=true:=by simp[h]
    have H:=aa h;clear h;go_wp2_with fail;go_ret;exact⟨by rw[Ay.ae,if_pos H.ae];rfl,HBX.ae⟩):p:=h
theorem Qp (gp:Nat)(v:Val)(name:ByteArray)(width:Int)(ys:List Ex)(av:Value)(base:Nat)(cols:List aZ)(CA:Option Addr)(cc:Nat)(w:World)
  (bh:(Tr.mk 2 v name width (List.replicate ys.length (.mk 1 aP ByteArray.empty 0 []))).ok) (hn:ys.length<=1000000) (hO:aI bI 46 7 w base av ys) (sQ:gp < w.heap.size) (Yx:w.cell? ⟨gp,8,none⟩=some (.slice CA cols.length cc)) (hC:RC w w.heap.size CA cols) (cg:cols.length<=1000000) (hne:av.ownBlock≠some gp) (hCA:cols≠ []->∀a,CA=some a->av.ownBlock≠some a.block) (hbase:base<=w.heap.size):
  ar 154 #[aw gp,.agg #[ag 2,ag v.k,af v.n,.string v.s,.string name,af width,av]] w λ e w'=>e=.returned (af (rF cols v name width ys.length))/\Below base w w':=by
 obtain⟨A,c,rfl,hle,_⟩:=pT hO (S:=λ _=>True) (λ _ _=>trivial);have hR:=aC.new w 46 #[ag 2,ag v.k,af v.n,.string v.s,.string name,af width,.slice A ys.length c];have bb:=ah w (.cells #[ag 2,ag v.k,af v.n,.string v.s,.string name,af width,.slice A ys.length c] 46);have HO:=aa (hO.later bb);have Uk:=aa ((bb.cell (p:=⟨gp,8,none⟩) sQ).trans Yx);have HC:=aa (hC.later bb);have Kb:=aa (Nat.lt_of_lt_of_le sQ bb.size);have zY:=aa bb;have je:=aa bh;have nV:=aa hne;have DZ:=aa hCA;have aef:=aa (Nat.le_trans hbase bb.size);have C5:=aa hbase;have cb:(Value.slice A ys.length c).ownBlock≠some w.heap.size:=λ e=>by have:=(hO.lt e).1;omega
 obtain⟨n,uA⟩:∃n,n=ys.length:=⟨_,rfl⟩;have HN:=aa uA;rw[<- uA] at hn hle hR cb nV DZ HO Uk HC Kb zY aef ⊢;clear hO Yx hC sQ bb bh hne hCA hbase uA;go_enter Tryz.func154,Tryz.ntmps154;go_upto_region 1 with fail;generalize World.alloc w _=W at*;obtain⟨g2,VQ⟩:∃g2,g2=w.heap.size:=⟨_,rfl⟩;rw[<- VQ] at hR cb ⊢;have asT:=aa cb;open zi6 in exact Zhb
variable{gp:Nat}
theorem Kp.size{b:Nat} {us:List Value}(h:Kp w gp us b)(hs:w.heap.size<=w'.heap.size):Kp w' gp us b:=⟨Nat.lt_of_lt_of_le h.1 hs,h.2⟩
variable{w1 w2:World}{u1 v1:Value}
theorem gM.below(h:gM gp w u v w1 u1 v1)(hb:Below B w1 w2)(hB:w.heap.size<=B):gM gp w u v w2 u1 v1:=
 ⟨hb.os.trans h.os,hb.tape.trans h.tape,hb.output.trans h.output,Nat.le_trans h.size hb.size,λ k hk=>(hb.block k (Nat.lt_of_lt_of_le hk.1 hB)).trans (h.block k hk),h.mu,h.mv⟩
structure Dc (c:PC) (w0:World) (gp:Nat) (r:Rest) (w:World) (u0 v0:Value) (g3 g4 g10 B1:Nat) (z:Ex) (wr:World) (a u v:Value) (ys ya:List Ex) (ts:List Tr) (s:dE):Prop where
 ps:eJ c w0 gp r wr u v ya s
 stp:gM gp w u0 v0 wr u v
 x:aC wr g3 46 (ay z)
 res:aC wr g4 46 di
 y:aC wr g10 46 #[ag z.op,ag z.v.k,af z.v.n,.string z.v.s,.string z.name,af z.width,a]
 k3:Kp wr gp [u,v] g3
 k4:Kp wr gp [u,v] g4
 k10:Kp wr gp [u,v] g10
 own:aI bI 46 7 wr B1 a ys
 ka:∀q,a.ownBlock=some q->Kp wr gp [u,v] q
 trees:Tr.aQ wr (λ b=>(B1<=b/\a.ownBlock≠some b)/\Kp wr gp [u,v] b) ts ys
 size:B1<=wr.heap.size
 low:w.heap.size<=g3/\g3 < g4/\g4 < g10/\g10 < B1
 base:w0.heap.size<=w.heap.size
variable{S':Nat->Prop}
theorem Tr.yD(hk:∀b,S b->(∀o,w'.cell? ⟨b,o,none⟩=w.cell? ⟨b,o,none⟩)/\S' b)(h:Tr.aQ w S ts ys):Tr.aQ w' S' ts ys:=Tr.aQ.keep hk ts ys h
section
variable {c:PC} {w0 w wr w':World} {gp g3 g4 g10 B1:Nat} {r:Rest} {u0 v0 a u v a' u' v':Value} {z:Ex} {ys ya qE:List Ex} {ts:List Tr} {s s':dE}
theorem Dc.call (h:Dc c w0 gp r w u0 v0 g3 g4 g10 B1 z wr a u v ys ya ts s)(hs:gM gp wr u v w' u' v')(hp:eJ c w0 gp r w' u' v' qE s'):Dc c w0 gp r w u0 v0 g3 g4 g10 B1 z w' a u' v' ys qE ts s':=
 ⟨hp,h.stp.trans hs,hs.blk h.x h.k3,hs.blk h.res h.k4,hs.blk h.y h.k10,hs.kp h.k3,hs.kp h.k4,hs.kp h.k10,hs.asz h.own h.ka,λ q hq=>hs.kp (h.ka q hq),hs.trees h.trees,Nat.le_trans h.size hs.size,h.low,h.base⟩
theorem Dc.later (h:Dc c w0 gp r w u0 v0 g3 g4 g10 B1 z wr a u v ys ya ts s)(hb:aj wr w'):Dc c w0 gp r w u0 v0 g3 g4 g10 B1 z w' a u v ys ya ts s:=
 h.call ((gM.refl gp wr u v).later hb) (h.ps.later hb)
theorem eJ.agL (h:eJ c w0 gp r w u v ya s) {o:Option Nat}(hg:w.grownBy w' o)(hq:∀q,o=some q->Kp w gp [u,v] q/\w0.heap.size<=q):eJ c w0 gp r w' u v ya s:=by
 cases o with
 | none=>exact h.later (pM hg)
 | some q=>exact h.aside hg (hq q rfl).1 (hq q rfl).2
theorem Dc.push (h:Dc c w0 gp r w u0 v0 g3 g4 g10 B1 z wr a u v ys ya ts s) {t:Tr} {y:Ex}(hy:t.at_ wr (λ b=>(B1<=b/\a.ownBlock≠some b)/\Kp wr gp [u,v] b) y)
  (ho:aI bI 46 7 w' B1 a' (ys++ [y])) (hg:wr.grownBy w' a.ownBlock) (hm:Mv wr a a'):
  Dc c w0 gp r w u0 v0 g3 g4 g10 B1 z (w'.setCell ⟨g10,6,none⟩ a') a' u v (ys++ [y]) ya (ts++ [t]) s:=by
 have hl:=h.low;have hab:∀q,a.ownBlock=some q->B1<=q:=λ q hq=>(h.own.lt hq).2.1
 have Og:∀q,a'.ownBlock=some q->B1<=q:=λ q hq=>(ho.lt hq).2.1
 have oF:eJ c w0 gp r w' u v ya s:=h.ps.agL hg λ q hq=>⟨h.ka q hq,by have:=hab q hq;have:=h.base;omega⟩
 have hx:=h.x.grown hg (λ e=>by have:=hab g3 e.symm;omega);have hr:=h.res.grown hg (λ e=>by have:=hab g4 e.symm;omega);have Jn:=h.y.grown hg (λ e=>by have:=hab g10 e.symm;omega);have k3:=h.k3.size hg.size;have k4:=h.k4.size hg.size;have k10:=h.k10.size hg.size
 have ka:∀q,a'.ownBlock=some q->Kp w' gp [u,v] q:=λ q hq=>by
  rcases hm with hm | hm
  ·exact(h.ka q (by rw[<- hm];exact hq)).size hg.size
  ·exact h.ps.fresh (hm q hq) (ho.lt hq).1
 have htr:Tr.aQ w' (λ b=>(B1<=b/\a'.ownBlock≠some b)/\Kp w' gp [u,v] b) (ts++ [t]) (ys++ [y]):=by refine Tr.yD ?_ (Tr.all_append h.trees (Tr.fP hy));rintro b ⟨⟨h1,h2⟩,h3⟩;exact⟨λ o=>bJ (hg.block b h3.1 (Ne.symm h2)) o,⟨h1,hm.ne h3.1 h2⟩,h3.size hg.size⟩
 have qL:w'.grownBy (w'.setCell ⟨g10,6,none⟩ a') (some g10):=aG (aT (Below.refl _ _)) _ _;refine⟨oF.aside qL k10 (by have:=h.base;omega),?_,hx.far (p:=⟨g10,6,none⟩) (by show g3≠g10;omega) _,hr.far (p:=⟨g10,6,none⟩) (by show g4≠g10;omega) _,by simpa using Jn.aW 6 a',k3.size qL.size,k4.size qL.size,k10.size qL.size,ho.keep λ q hq=>Below.heap_setCell w' ⟨g10,6,none⟩ a' q (λ e=>by have:=Og q hq;have e2:q=g10:=e;omega),λ q hq=>(ka q hq).size qL.size,?_,Nat.le_trans h.size (Nat.le_trans hg.size qL.size),hl,h.base⟩
 ·exact(h.stp.asy hg λ q hq=>by have:=hab q hq;omega).own qL WC
 ·refine Tr.yD ?_ htr;rintro b ⟨⟨h1,h2⟩,h3⟩;exact⟨λ o=>bJ (Below.heap_setCell w' ⟨g10,6,none⟩ a' b (λ e=>by have e2:b=g10:=e;omega)) o,⟨h1,h2⟩,h3.size qL.size⟩
end
variable{c:Nat}
theorem C6{base:Nat}   {l:List aZ}(h:aI aU 113 2 w base (.slice A l.length c) l):RC w w.heap.size A l:=by
 obtain⟨A2,c2,hv,h1⟩:=ej (f:=aU) (size:=2) (λ _=>rfl) h;injection hv with e1 e2 e3;subst e1;rcases h1 with h1 |⟨g,h1,h2,h3⟩
 ·exact .inl h1
 ·refine .inr ⟨g,0,h1,h2,λ i x hx=>?_⟩;have k:=λ j u hj hu=>h3 i x j u hx hj hu
  unfold mW;simp only[Nat.zero_add];exact⟨by simpa using k 0 _ WC rfl,k 1 _ WC rfl⟩
theorem pU:∀ {ts:List Tr} {ys:List Ex} {k:Nat} (h:k < ts.length),Tr.aQ w S ts ys->∃y,ys[k]?=some y/\ts[k].at_ w S y
 | t::ts,ys,0,h,ha=>by unfold Tr.aQ at ha;obtain⟨y,ys',rfl,h1,h2⟩:=ha;exact⟨y,rfl,h1⟩
 | t::ts,ys,k+1,h,ha=>by unfold Tr.aQ at ha;obtain⟨y,ys',rfl,h1,h2⟩:=ha;obtain⟨x,hx,hx2⟩:=pU (k:=k) Tal h2;exact⟨x,by simpa using hx,hx2⟩
theorem zcp.Kas(h:p:=by refine bodyPost_ret (v:=.tuple #[.agg di,af er]) Taf rfl ?_;exact ZgM):p:=h
theorem zcq.Kas(h:p:=by refine bodyPost_ret (v:=.tuple #[.agg di,af al]) Taf rfl ?_;exact ZgM):p:=h
theorem zcr.Kas(h:p:=by
 refine bodyPost_ret (v:=.tuple #[.agg (ay Kx),af er]) Taf rfl ?_;by_cases her:er=0
 ·subst her;have ML:=vo.ae;rw[if_neg Taa] at ML;rw[ML];have h4:=Aq.ae.k4;refine⟨Kx,u1,_,Jo,rfl,?_,Aq.ae.ps.aside kI h4 (by have:=Aq.ae.base;have:=mO.ae;omega),Aq.ae.stp.own kI mO.ae⟩;have hl:=Aq.ae.low;exact Tr.at_.keep (λ b MY=>⟨λ o=>bJ (kI.block b MY.2.1 (λ e=>by injection e with e;have:=MY.1;omega)) o,by have:=MY.1;omega,MY.2.size kI.size⟩) _ Kx atc.ae
 ·have ML:=vo.ae;rw[if_pos her] at ML;rw[ML];exact⟨Kx,_,_,rfl,Aq.ae.stp.own kI mO.ae⟩):p:=h
theorem zfW.Kbg(h:p:=by
 have kI:WD.grownBy W9 (some g4):=by rw[<- uR];exact aG (aG (aG (aG (aG (aG (aG (aT (Below.refl _ _)) _ _) _ _) _ _) _ _) _ _) _ _) _ _
 open zcp in exact ZaL):p:=h
theorem zdc.KaD(h:p:=by have PW:=aa MB;clear LT MB bg amF;go_upto_region 21 with fail;generalize w6.alloc (.cells (ay Kx) 46)=WD at*;open zfW in exact Zdg):p:=h
theorem zfX.Kbg(h:p:=by
 have kI:w7.grownBy W9 (some g4):=by rw[<- uR];exact aG (aG (aG (aG (aG (aG (aG (aT (Below.refl _ _)) _ _) _ _) _ _) _ _) _ _) _ _) _ _
 open zcq in exact ZaL):p:=h
theorem zdd.KaD(h:p:=by
 have PW:=aa MB;clear MB NN gX c8 lS hz2;have xr:X=.error (rF c.cols z.v z.name z.width ys.length):=by have h1:=xY.ae;rw[if_pos Hs.ae] at h1;have h2:=HZE.ae;have h3:=HE4.ae;have h4:=Am.ae;rw[h1,h2.2.1,h2.2.2,h3,h4]
 have vo:=aa xr;clear xr;obtain⟨al,xC⟩:∃al,al=rF c.cols z.v z.name z.width ys.length:=⟨_,rfl⟩;rw[<- xC] at vo ⊢;clear xC;open zfX in exact Zdg):p:=h
theorem zde.KaD(h:p:=by
 clear Jn MB;go_wp2_with fail;clear z0 z1 x2 x3 x4 x5 x6 y0 y1 y2 y3 y4 y5 y6 Gt;generalize uR:World.setCell _ _ _=W9;have hR:aC W9 g4 46 (ay Kx):=by rw[<- uR];simpa using(((((((Aq.ae.res.aW 0 _).aW 1 _).aW 2 _).aW 3 _).aW 4 _).aW 5 _).aW 6 _)
 have kI:W3.grownBy W9 (some g4):=by rw[<- uR];exact aG (aG (aG (aG (aG (aG (aG (aT (Below.refl _ _)) _ _) _ _) _ _) _ _) _ _) _ _) _ _
 open zcr in exact ZaL):p:=h
theorem zhy.KbV(h:p:=by have MB:=Aq.ae.res;have Gt:=MB.frozen;open zde in exact Zbh):p:=h
theorem zfj.Ka4(h:p:=by have atc:=aa (((gM.refl gp wr u1 (.slice VA s1.aL.length vc)).later hL).tree amJ.ae);clear hL Ee J0 amJ Jm xo jG ael;open zhy in exact Ze0):p:=h
theorem zeY.KaX(h:p:=by
 have hz:=at_root CU.ae;rw[HHT.ae] at hz;have HZE:=aa (show z.op=op/\z.v=xv/\z.name=name from hz);clear hz;go_upto_region 16 with fail;have Vq:=aC.new w2 46 (ay z);have C7:=ah w2 (.cells (ay z) 46);generalize w2.alloc (.cells (ay z) 46)=MH at*;obtain⟨g10,aej⟩:∃g10,g10=w2.heap.size:=⟨_,rfl⟩;rw[<- aej] at Vq ⊢;have Ao:=aa (show g3 < g4/\g4 < g10/\g10 < MH.heap.size from⟨by have:=HI.ae;have:=Kf.ae;omega,by have:=Xa.ae.lt;omega,Vq.lt⟩);have aek:=aa (uQ.ae.later C7);have agN:=aa (AQ.ae.later C7);have amD:=aa (Xa.ae.later C7);have tS:=aa (ai.then fH.ae C7);have EE:=aa Vq;have hc6:=Vq.cell 6;have hf6:=Vq.frozen 6;simp only[Uaa] at hc6;have hx6:=agN.ae.cell 6;simp only[Uaa] at hx6;clear z0 z1 x2 x3 x4 x5 x6 Vq C7 aej uQ AQ Xa fH;go_upto_region 17 with fail;have qL:MH.grownBy (MH.setCell ⟨g10,6,none⟩ (az)) (some g10):=aG (aT (Below.refl _ _)) _ _;have fL:=λ g (h1:w.heap.size<=g) (h2:g < MH.heap.size)=>pR.ae.fresh (w2:=MH) h1 h2
 have J0:=aa (show Dc c w0 gp r w u v g3 g4 g10 MH.heap.size z (MH.setCell ⟨g10,6,none⟩ (az)) (az) u v [] ya [] s from
  ⟨aek.ae.aside qL (fL g10 TaS Ao.ae.2.2) (by have:=pR.ae.base.size;have:=mO.ae;have:=Ao.ae;omega),((gM.refl gp w u v).later tS.ae).own qL TaS,agN.ae.far (p:=⟨g10,6,none⟩) (by show g3≠g10;have:=Ao.ae;omega) _,amD.ae.far (p:=⟨g10,6,none⟩) (by show g4≠g10;have:=Ao.ae;omega) _,by simpa using EE.ae.aW 6 (az),
    (fL g3 Jj.ae (by have:=Ao.ae;omega)).size qL.size,(fL g4 mO.ae (by have:=Ao.ae;omega)).size qL.size,(fL g10 TaS Ao.ae.2.2).size qL.size,aI.nil,λ q hq=>by simp[Value.ownBlock] at hq,by unfold Tr.aQ;rfl,qL.size,⟨Jj.ae,Ao.ae⟩,pR.ae.base.size⟩)
 have amE:=J0.ae.x.cell 6;simp only[Uaa] at amE;obtain⟨B1,Kt⟩:∃B1,B1=MH.heap.size:=⟨_,rfl⟩;rw[<- Kt] at J0;clear qL fL aek agN amD tS EE hc6 hf6 hx6 Kt Ao;generalize World.setCell MH _ _=WL at*;have oh:=CU.ae;rw[HHT.ae] at oh;unfold Tr.at_ at oh;obtain⟨e1,e2,e3,e4,hzn,zs,hzr,hza⟩:=oh;have HE4:=aa e4;clear e1 e2 e3 e4;have HZN:=aa hzn;have HF:=aa hzr;have HZA:=aa hza;clear hzn hzr hza;have agO:=aa (show(Tr.mk op xv name width args).nodes=Tr.aY args+1 by rw[Tr.nodes])
 have hnz:args.length<=1000000:=by
  have h1:∀l:List Tr,l.length<=Tr.aY l:=by
   intro l
   induction l with
   | nil=>exact Nat.zero_le _
   | cons t l ih=>
     have h2:1<=t.nodes:=by cases t;rw[Tr.nodes];omega
     rw[Tr.aY,length_cons];omega
  have:=h1 args;have:=agO.ae;have:=HLEN.ae;omega
 go_wp2_with fail;clear amE;rw[HZN.ae];go_loopw [89] (λ i wr=>∃(k:Nat) (a u1 v1:Value) (ys Jo:List Ex) (ts:List Tr) (s1:dE),k<=args.length/\i=af k/\Tr.turns c.aL c.cols (args.take k) s=.ok (ts,s1)/\Dc c w0 gp r w u v g3 g4 g10 B1 z wr a u1 v1 ys Jo ts s1) (λ i _=>args.length - (intOf i).toNat);case atStart=>exact⟨0,_,u,v,[],ya,[],s,Nat.zero_le _,rfl,by rw[take_zero,oH],J0.ae⟩
 case round=>
  clear J0;obtain⟨k,a,u1,v1,ys,Jo,ts,s1,hk,rfl,hturn,htu⟩:=hrel;have HT:=aa hturn;have J0:=aa htu;clear hturn htu;by_cases hlt:k < args.length
  ·obtain⟨y,P9,se⟩:=pU hlt HZA.ae
   obtain⟨b,off,hzA,Cw,hex⟩:∃b off,z.A=some ⟨b,off,none⟩/\b < w0.heap.size/\cy w0 b (off+k*7) y:=by
    rcases HF.ae with h |⟨b,off,h1,h2,h3⟩
    ·rw[h] at P9;simp at P9
    ·exact⟨b,off,h1,h2,h3 k y P9⟩
   have iC:=hex.keep (λ o=>J0.ae.ps.base.cell (p:=⟨b,o,none⟩) Cw);unfold cy at iC;have xq:=aa se;have azX:=aa hzA;rw[hzA];clear hex P9 se Cw hzA;go_upto_region 20 with fail;have k1:=aC.new wr 46 (ay y);have MI:=ah wr (.cells (ay y) 46);generalize wr.alloc (.cells (ay y) 46)=W2 at*;have MJ:=aa (J0.ae.later MI);clear MI J0 iC;generalize wr.heap.size=g12 at*;have z0:=k1.cell 0;have z1:=k1.cell 1;have x2:=k1.cell 2;have x3:=k1.cell 3;have x4:=k1.cell 4;have x5:=k1.cell 5;have x6:=k1.cell 6
   simp only[Uaa] at z0 z1 x2 x3 x4 x5 x6;clear k1;go_wp2_with fail;have Qf:=getElem_mem hlt;have hrun:=HIH.ae args[k] Qf y s1 u1 v1 Jo W2 (by
    have h1:=kx.ae
    rw[HHT.ae] at h1
    unfold Tr.ok at h1
    exact dN.1 h1.2.2.2.2.2 _ Qf) xq.ae MJ.ae.ps (by
    have h1:=(ku (λ t _ s=>iE c.aL c.cols t s) s:pQ (args.take k) s (Tr.turns c.aL c.cols (args.take k) s))
    have h2:=h1.len _ _ HT.ae
    have h3:=HLEN.ae
    have h4:=agO.ae
    have h5:Tr.aY (args.take k)+args[k].nodes<=Tr.aY args:=by
     rw[gh,gh]
     have e:args=args.take k++args[k]::args.drop (k+1):=by rw[<- drop_eq_getElem_cons hlt,take_append_drop]
     conv=>rhs;rw[e]
     rw[map_append,sum_append,map_cons,sum_cons]
     omega
    omega)
   refine hrun.mono ?_;clear hrun;intro e w6 hp;clear z0 z1 x2 x3 x4 x5 x6;have vt:=aa (iE c.aL c.cols args[k] s1)
   cases hr:Tr.turn c.aL c.cols args[k] s1 with
   | error er=>
     rw[hr] at hp vt;obtain⟨Kx,u',v',rfl,hst⟩:=hp;have her:=vt.ae.err _ rfl
     have xr:X=.error er:=by
      have h1:=HX_.ae;have e2:args=args.take k++args[k]::args.drop (k+1):=by rw[<- drop_eq_getElem_cons hlt,take_append_drop]
      have h2:Tr.turns c.aL c.cols args s=.error er:=by
       conv=>lhs;rw[e2]
       exact Qi HT.ae hr
      rw[h2] at h1;exact h1
     have vo:=aa xr;have d0:(er != 0)=true:=by simp[her]
     have LT:=hst.blk MJ.ae.res MJ.ae.k4;have amF:=aa (MJ.ae.stp.trans hst);clear xr hr her hst HX_;have bg:=ah w6 (.cells (ay Kx) 46);have MB:=LT.later bg;have wP:=aa (amF.ae.later bg);have Gt:=MB.frozen;open zdc in exact Zbh
   | ok q=>
     obtain⟨y1,s2⟩:=q;rw[hr] at hp;obtain⟨Kx,u',v',C8,rfl,uU,pV,hst⟩:=hp;have amG:=aa uU;have HTS:=aa (Qh HT.ae hr);have hab:∀q,a.ownBlock=some q->q < W2.heap.size:=λ q hq=>(MJ.ae.own.lt hq).1
     have HAB:=aa hab;have asY:=aa MJ.ae.size;have C9:=aa (MJ.ae.call hst pV);clear hr uU pV hst hab MJ vt HT;obtain⟨aA,ac,rfl,asZ,_⟩:=pT C9.ae.own (S:=λ _=>True) (λ _ _=>trivial);have bg:=ah w6 (.cells (ay Kx) 46);have HX:=aC.new w6 46 (ay Kx);have Aq:=aa (C9.ae.later bg);have ata:=aa (show y1.at_ (w6.alloc (.cells (ay Kx) 46)) (λ b=>(B1<=b/\(Value.slice aA ys.length ac).ownBlock≠some b)/\Kp (w6.alloc (.cells (ay Kx) 46)) gp [u',v'] b) Kx from
      Tr.at_.keep (λ b MY=>⟨λ o=>bg.cell (p:=⟨b,o,none⟩) MY.2.1,⟨Nat.le_trans asY.ae MY.1,λ e=>by have:=HAB.ae b e;have:=MY.1;omega⟩,MY.2.size bg.size⟩) y1 Kx amG.ae)
     have Am:=aa (show ys.length=k by
      have h1:=C9.ae.trees.length
      have h2:=tB HTS.ae
      have h3:=C9.ae.trees.length
      rw[length_append,length_singleton,length_append,length_singleton,length_take] at h2
      omega)
     clear bg C9 amG HAB;go_upto_region 21 with fail;generalize w6.alloc (.cells (ay Kx) 46)=WD at*;generalize w6.heap.size=gY at*;have HK:=aa HX;have z0:=HX.cell 0;have z1:=HX.cell 1;have x2:=HX.cell 2;have x3:=HX.cell 3;have x4:=HX.cell 4;have x5:=HX.cell 5;have x6:=HX.cell 6
     simp only[Uaa] at z0 z1 x2 x3 x4 x5 x6;clear HX;have hy:=Aq.ae.y;have yf:=hy.frozen 6;have y6:=hy.cell 6;simp only[Uaa] at y6;clear hy;have D4:=aa (ah WD (.cells (ay Kx) 46));go_wp2_with (first
      |(at_builtin
        refine nA (f:=bI) (l:=ys) (y:=Kx) rfl (.tmp 104) (.tmp 106) 23 rfl _ 88 Tryz.underlying23 fM rfl WC rfl TaC rfl (Aq.ae.own.later D4.ae) WD.heap.size rfl (aC.new WD _ _) TaE TaE (Nat.le_trans Aq.ae.size D4.ae.size) ?_
        intro v4 w4 K9 gr4 m4
        obtain⟨A4,Qo,hv4,_⟩:=K9.reads
        rw[length_append,length_singleton] at hv4
        subst hv4
        have D5:=Aq.ae.later D4.ae
        have amH:(Value.slice aA ys.length ac).ownBlock≠some g10:=λ e=>by have:=(D5.own.lt e).2.1;have:=D5.low.2.2.2;omega
        have hb4:=D5.y.grown gr4 (λ e=>amH e.symm)
        have f4:=hb4.frozen 6
        have cc6:=hb4.cell 6
        simp only[Uaa] at cc6
        have amI:y1.at_ (WD.alloc (.cells (ay Kx) 46)) (λ b=>(B1<=b/\(Value.slice aA ys.length ac).ownBlock≠some b)/\Kp (WD.alloc (.cells (ay Kx) 46)) gp [u',v'] b) Kx:=
         Tr.at_.keep (λ b MY=>⟨λ o=>D4.ae.cell (p:=⟨b,o,none⟩) MY.2.1,MY.1,MY.2.size D4.ae.size⟩) y1 Kx ata.ae
        have atb:=aa (D5.push amI K9 (show(WD.alloc (.cells (ay Kx) 46)).grownBy w4 (Value.slice aA ys.length ac).ownBlock from gr4) (show Mv (WD.alloc (.cells (ay Kx) 46)) (Value.slice aA ys.length ac) (Value.slice A4 (ys.length+1) Qo)from m4))
        clear K9 gr4 m4 hb4 amI D5 amH))
     go_roundw;case rel=>exact⟨k+1,_,u',v',ys++ [Kx],C8,ts++ [y1],s2,hlt,by go_num,by rw[take_add_one,getElem?_eq_getElem hlt];exact HTS.ae,atb.ae⟩
     case measure=>exact Za6
  ·have fL:k=args.length:=by omega
   subst fL;rw[take_length] at HT;have PV:=HX_.ae;rw[HT.ae] at PV;dsimp only at PV;have xY:=aa PV;have qM:=aa (tB HT.ae);have Am:=aa (J0.ae.trees.length);clear PV hlt HX_;have c7:=J0.ae.x.cell 0;simp only[Uaa] at c7;obtain⟨aA,ac,rfl,asZ,hres⟩:=pT J0.ae.own (S:=λ b=>B1<=b/\Kp wr gp [u1,v1] b) (λ q hq=>⟨(J0.ae.own.lt hq).2.1,J0.ae.ka q hq⟩);have jG:=aa hres;have ael:=aa (show Tr.aQ wr (λ b=>B1<=b/\Kp wr gp [u1,v1] b) ts ys from Tr.yD (λ b MY=>⟨λ _=>rfl,MY.1.1,MY.2⟩) J0.ae.trees);have Jn:=J0.ae.y;have y0:=Jn.cell 0;have y1:=Jn.cell 1;have y2:=Jn.cell 2;have y3:=Jn.cell 3;have y4:=Jn.cell 4;have y5:=Jn.cell 5;have y6:=Jn.cell 6;simp only[Uaa] at y0 y1 y2 y3 y4 y5 y6;clear hres Jn;by_cases oZ:op=2
   ·have d0:(z.op==2)=true:=by rw[HZE.ae.1];simp[oZ]
    have Hs:=aa oZ;clear oZ;go_wp2_with fail;clear y0 y1 y2 y3 y4 y5 y6 c7 d0;have hz2:z.op=2:=HZE.ae.1.trans Hs.ae;rw[hz2];have gX:=J0.ae.ps.blk;unfold PC.cells at gX;have c8:=gX.cell 8;simp only[Uaa] at c8;have lS:=kx.ae;rw[HHT.ae] at lS;unfold Tr.ok at lS;refine(Qp gp z.v z.name z.width ys (.slice aA ys.length ac) B1 c.cols c.cA c.cc wr (by
     unfold Tr.ok
     have h1:=HZE.ae
     have h2:=HE4.ae
     refine⟨by rw[h1.2.1];exact lS.1,by rw[length_replicate];have:=Am.ae;have:=qM.ae;omega,by decide,by rw[h2];exact lS.2.2.2.1,by rw[h1.2.1];exact lS.2.2.2.2.1,SV _⟩) (by have:=Am.ae;have:=qM.ae;omega) J0.ae.own gX.lt c8 (je.ae.cols.later J0.ae.ps.base) (by exact je.ae.cl) (λ e=>(ey.1 (J0.ae.ka gp e)).2.1 rfl) (λ hc0 a ha e=>by
     rcases je.ae.cols with h |⟨b,off,h1,h2,h3⟩
     ·exact hc0 h
     ·rw[h1] at ha
      injection ha with ha
      have h4:=(J0.ae.own.lt e).2.1
      have h5:=J0.ae.low
      have h6:=J0.ae.base
      rw[<- ha] at h4
      have h7:B1<=b:=h4
      omega) J0.ae.size).mono ?_
    rintro e w7 ⟨rfl,NN⟩;have wP:=aa (J0.ae.stp.below NN (by have:=J0.ae.low;omega));have MB:=J0.ae.res.below NN (by have:=J0.ae.low;omega);have Gt:=MB.frozen;open zdd in exact Zbh
   ·have d0:(z.op==2)=false:=by rw[HZE.ae.1];simp[oZ]
    have Hs:=aa oZ;clear oZ y0 y1 y2 y3 y4 y5 y6;go_upto_region 27 with fail
    clear c7 d0;obtain⟨Kx,hy⟩:∃Kx:Ex,Kx=⟨z.op,z.v,z.name,z.width,aA,ys.length,ac⟩:=⟨_,rfl⟩;have Ee:=aa (show aC wr g10 46 (ay Kx) by rw[hy];exact J0.ae.y);obtain⟨VA,vc,NY,_⟩:=J0.ae.ps.dK.reads;subst NY;have gX:=J0.ae.ps.blk;unfold PC.cells at gX;have Jm:=aa (show wr.cell? ⟨gp,10,none⟩=some (.slice VA s1.aL.length vc)from by
     have:=gX.cell 10
     simpa using this)
    have Qq:=aa gX.lt;have agP:(Tr.mk op xv name width ts).at_ wr (λ b=>B1<=b/\Kp wr gp [u1,.slice VA s1.aL.length vc] b) Kx:=by have h2:=HZE.ae;have h3:=HE4.ae;unfold Tr.at_;rw[hy];exact⟨h2.1,h2.2.1,h2.2.2,h3,Am.ae,ys,jG.ae,ael.ae⟩
    have amJ:=aa agP;have NP:(Tr.mk op xv name width ts).ok:=by have h1:=kx.ae;rw[HHT.ae] at h1;unfold Tr.ok at h1 ⊢;exact⟨h1.1,by rw[qM.ae];exact h1.2.1,h1.2.2.1,h1.2.2.2.1,h1.2.2.2.2.1,((ku (λ t _ s=>iE c.aL c.cols t s) s:pQ args s (Tr.turns c.aL c.cols args s)).ok _ _ HT.ae) h1.2.2.2.2.2⟩
    have Aj:s1.aL.length<=140737488355328:=by have h1:=((ku (λ t _ s=>iE c.aL c.cols t s) s:pQ args s (Tr.turns c.aL c.cols args s)).len _ _ HT.ae);have h2:=HLEN.ae;have h3:=agO.ae;omega
    have xo:=aa (Tr.po (cols:=s1.aL) (CA:=VA) (cc:=vc) Aj _ Kx wr NP (ZQ agP) (C6 J0.ae.ps.dK));have hXN:=xY.ae;rw[if_neg Hs.ae] at hXN;generalize LE:(Tr.mk op xv name width ts).type s1.aL=R at*;obtain⟨ty,er⟩:=R;dsimp only at hXN xo;have vo:=aa hXN;clear agP NP Aj hXN LE hy gX xY Hs;open zfj in exact ZcM):p:=h
theorem zgY.KbG(h:p:=by rw[CW,show t.op=op from agM,ha] at iM;have HIS:=aa iM;have UL:=aa CW;clear c4 c8 c10 hb1 hf iM CW Gs tN;go_wp2_with fail;have UZ:=aa kF;have KK:=aa Lw;have hop:=UL.ae;rw[hop,agM];refine(HIS.ae w1).mono ?_;rintro e w2 ⟨rfl,hb2⟩;rw[<- agM,<- hop];have uQ:=aa (CV.ae.later hb2);have hb:=UZ.ae.later hb2;have Xa:=aa (KK.ae.later hb2);have fH:=aa (ai.then zY.ae (ai.then eN.ae hb2));clear hxo kF Lw hb2 hop UZ KK eN CV;open zeY in exact Zcn):p:=h
theorem zbx.Kai(h:p:=by open zgY in exact Zew):p:=h
theorem Vp (c:PC)(w0:World)(gp:Nat)(r:Rest)(op:Int)(xv:Val)(name:ByteArray)(width:Int)(args:List Tr)(z:Ex)(s:dE)(u v:Value)(ya:List Ex)(w:World)(hf:c.aL.findIdx? (λ g=>g.same (.mk op xv name width args))=none)(ha:isAgg op=false)(ih:∀a∈args,B5 c w0 gp r a)(bh:c.Ok w0)(gj:(Tr.mk op xv name width args).ok)(hat:(Tr.mk op xv name width args).at_ w0 (Old w0) z)(oF:eJ c w0 gp r w u v ya s)(hlen:s.aL.length+s.aM.length+2*(Tr.mk op xv name width args).nodes<=1000000):
  ar 99 #[aw gp,.agg (ay z)] w (rY c w0 gp r u v w ((Tr.mk op xv name width args).turn c.aL c.cols s)):=by
 obtain⟨t,ht⟩:∃t,t=Tr.mk op xv name width args:=⟨_,rfl⟩;have agM:t.op=op:=by rw[ht];rfl
 have HIH:=aa ih;have HLEN:=aa hlen;have HHT:=aa ht;obtain⟨X,hX⟩:∃X,X=t.turn c.aL c.cols s:=⟨_,rfl⟩;have hXn:=hX;rw[ht,tC,hf] at hXn;dsimp only at hXn;rw[if_neg (by rw[ha];decide)] at hXn;have HX_:=aa hXn;have Ly:=aa (iE c.aL c.cols t s);rw[<- hX] at Ly;rw[<- ht] at hf gj hat ⊢;rw[<- hX];clear ht hX hXn ih hlen;open zbx in exact Zay
theorem abt (c:PC)(w0:World)(gp:Nat)(r:Rest)(bh:c.Ok w0):∀t,B5 c w0 gp r t:=by
 refine Tr.ind ?_;intro op xv name width args ih z s u v ya w gj hat oF hlen
 cases hf:c.aL.findIdx? (λ g=>g.same (.mk op xv name width args))with
 | some k=>have h:=Qj c w0 gp r _ z s u v ya w k hf bh gj hat oF;rw[tC,hf];exact h
 | none=>
   have hn:1<=(Tr.mk op xv name width args).nodes:=by rw[Tr.nodes];omega
   cases ha:isAgg op with
   | false=>exact Vp c w0 gp r op xv name width args z s u v ya w hf ha ih bh gj hat oF hlen
   | true=>
     obtain⟨q,hq⟩:∃q,q=fY c.cols op args:=⟨_,rfl⟩;obtain⟨ty,er⟩:=q;rw[tC,hf];dsimp only;rw[if_pos ha,<- hq];dsimp only;by_cases her:er=0
     ·subst her;rw[if_neg Taa];exact MD c w0 gp r _ z s u v ya w hf ha ty hq.symm WC bh gj hat oF
     ·rw[if_pos her];exact Jk c w0 gp r _ z s u v ya w hf ha ty er hq.symm her bh gj hat oF
def ownPost (c:PC)(w0:World)(gp:Nat)(r:Rest)(u v:Value)(w:World)(x:Except Int (Tr×Int×dE))(e:Ending)(w':World):Prop:=
 match x with
 | .error er=>∃(y:Ex) (ty:Int) (u' v':Value),e=.returned (.tuple #[.agg (ay y),ag ty,af er])/\gM gp w u v w' u' v'
 | .ok (t,ty,s)=>∃y u' v' ya,e=.returned (.tuple #[.agg (ay y),ag ty,af 0])/\t.at_ w' (λ b=>(b < w0.heap.size\/w.heap.size<=b)/\Kp w' gp [u',v'] b) y/\eJ c w0 gp r w' u' v' ya s/\gM gp w u v w' u' v'
variable{w0:World}{ya:List Ex}
theorem eJ.D7{c:PC}   {r:Rest}   (h:eJ c w0 gp r w u v ya s) {t:Tr} (hat:t.at_ w0 (Old w0) z):t.at_ w (λ b=>b < w0.heap.size/\Kp w gp [u,v] b) z:=
 Tr.at_.keep (λ b hb=>⟨λ o=>h.base.cell (p:=⟨b,o,none⟩) hb,hb,ey.2 ⟨Nat.lt_of_lt_of_le hb h.base.size,λ e=>by have:=h.low;have:b < w0.heap.size:=hb;omega,λ e=>by have:=h.kp9 b e;have:b < w0.heap.size:=hb;omega,λ e=>by have:=h.asL b e;have:b < w0.heap.size:=hb;omega⟩⟩) t z hat
theorem zcs.Kas(h:p:=by
 refine bodyPost_ret (v:=.tuple #[.agg (ay z),ag ty,af er]) Tau rfl ?_;by_cases her:er=0
 ·subst her;have ML:=vo.ae;rw[if_neg Taa] at ML;rw[ML];refine⟨z,u,v,ya,rfl,?_,Kh.ae.aside kI MM.ae Tbc,((gM.refl gp w u v).later amK.ae).own kI mO.ae⟩;exact Tr.at_.keep (λ b hb=>⟨λ o=>bJ (kI.block b hb.2.1 (λ e=>by injection e with e;have:=hb.1;have:=pR.ae.base.size;have:=mO.ae;omega)) o,.inl hb.1,hb.2.size kI.size⟩) t z (Kh.ae.D7 CU.ae)
 ·have ML:=vo.ae;rw[if_pos her] at ML;rw[ML];exact⟨z,ty,_,_,rfl,((gM.refl gp w u v).later amK.ae).own kI mO.ae⟩):p:=h
theorem zdf.KaD(h:p:=by
 have Gt:=MB.frozen;clear k1 MB;go_wp2_with fail;clear z0 z1 x2 x3 x4 x5 x6 y0 y1 y2 y3 y4 y5 y6 Gt;generalize uR:World.setCell _ _ _=W9;have hR:aC W9 g4 46 (ay z):=by rw[<- uR];simpa using(((((((J0.ae.aW 0 _).aW 1 _).aW 2 _).aW 3 _).aW 4 _).aW 5 _).aW 6 _)
 have kI:W3.grownBy W9 (some g4):=by rw[<- uR];exact aG (aG (aG (aG (aG (aG (aG (aT (Below.refl _ _)) _ _) _ _) _ _) _ _) _ _) _ _) _ _
 open zcs in exact ZaL):p:=h
theorem zbN.Kal(h:p:=by have MB:=J0.ae;open zdf in exact Zbh):p:=h
theorem zg0.KbH(h:p:=by refine bodyPost_ret (v:=.tuple #[.agg (ay Kx),ag 0,af er]) Tau rfl ?_;rw[abu.ae];exact⟨Kx,0,_,_,rfl,HG.ae.own kI mO.ae⟩):p:=h
theorem zdg.KaD(h:p:=by
 have Gt:=MB.frozen;clear k1 MB HX;go_wp2_with fail;clear z0 z1 x2 x3 x4 x5 x6 y0 y1 y2 y3 y4 y5 y6 Gt hne;generalize hWX:World.setCell _ _ _=WX;have hR:aC WX g4 46 (ay Kx):=by rw[<- hWX];simpa using(((((((J0.ae.aW 0 _).aW 1 _).aW 2 _).aW 3 _).aW 4 _).aW 5 _).aW 6 _)
 have kI:W9.grownBy WX (some g4):=by rw[<- hWX];exact aG (aG (aG (aG (aG (aG (aG (aT (Below.refl _ _)) _ _) _ _) _ _) _ _) _ _) _ _) _ _
 open zg0 in exact Zez):p:=h
theorem zg1.KbH(h:p:=by
 refine bodyPost_ret (v:=.tuple #[.agg (ay Kx),ag ty,af er]) Tau rfl ?_;by_cases her:er=0
 ·subst her;have ML:=abu.ae;rw[if_neg Taa] at ML;rw[ML];refine⟨Kx,u',_,C8,rfl,?_,QF.ae.aside kI HK8.ae Tbc,vq.ae.own kI mO.ae⟩;exact Tr.at_.keep (λ b hb=>⟨λ o=>bJ (kI.block b hb.2.1 (λ e=>by injection e with e;have:=hb.1;have:=HWS.ae;omega)) o,.inr (by have:=hb.1;have:=HWS.ae;omega),hb.2.size kI.size⟩) t1 Kx ate.ae
 ·have ML:=abu.ae;rw[if_pos her] at ML;rw[ML];exact⟨Kx,ty,_,_,rfl,vq.ae.own kI mO.ae⟩):p:=h
theorem zdh.KaD(h:p:=by
 have Gt:=MB.frozen;clear k1 MB;go_wp2_with fail;clear z0 z1 x2 x3 x4 x5 x6 y0 y1 y2 y3 y4 y5 y6 Gt hne;generalize hWX:World.setCell _ _ _=WX;have hR:aC WX g4 46 (ay Kx):=by rw[<- hWX];simpa using(((((((Aq.ae.aW 0 _).aW 1 _).aW 2 _).aW 3 _).aW 4 _).aW 5 _).aW 6 _)
 have kI:W3.grownBy WX (some g4):=by rw[<- hWX];exact aG (aG (aG (aG (aG (aG (aG (aT (Below.refl _ _)) _ _) _ _) _ _) _ _) _ _) _ _) _ _
 open zg1 in exact Zez):p:=h
theorem zfi.Ka4(h:p:=by have QF:=aa (Kh.ae.later hL);have vq:=aa (HG.ae.later hL);have ate:=aa (((gM.refl gp W9 u' (.slice VA s1.aL.length vc)).later hL).tree HYA.ae);have HK8:=aa (MM.ae.size hL.size);clear hL Ee J0 Kh HG HYA MM Jm xo;have hne:=nV.ae;have k1:=SP.ae;have z0:=k1.cell 0;have z1:=k1.cell 1;have x2:=k1.cell 2;have x3:=k1.cell 3;have x4:=k1.cell 4;have x5:=k1.cell 5;have x6:=k1.cell 6;simp only[Uaa] at z0 z1 x2 x3 x4 x5 x6;have MB:=Aq.ae;open zdh in exact Zbh):p:=h
theorem zbO.Kal(h:p:=by
 clear k1;go_wp2_with fail;clear z0 z1 x2 x3 x4 x5 x6 c10;refine(abt c w0 gp r je.ae t z s u v ya W kx.ae CU.ae tz.ae HLEN.ae).mono ?_;intro e w6 hp;have vt:=aa (iE c.aL c.cols t s)
 cases hr:Tr.turn c.aL c.cols t s with
 | error er=>
   have jR:=vo.ae;rw[hr] at hp vt jR;obtain⟨Kx,u',v',rfl,hst⟩:=hp;have her:=vt.ae.err _ rfl;have abu:=aa (show X=.error er from jR);have t1:(er != 0)=true:=by simp[her]
   have bg:=ah w6 (.cells (ay Kx) 46);have HX:=aC.new w6 46 (ay Kx);have J0:=aa ((hst.blk tN.ae CY.ae).later bg);have HG:=aa ((((gM.refl gp w u v).later zY.ae).trans hst).later bg);have nV:=aa (show g4≠w6.heap.size by have:=tN.ae.lt;have:=hst.size;omega);clear jR hr her hst vo bg;go_upto_region 5 with fail;generalize w6.alloc (.cells (ay Kx) 46)=W9 at*;generalize w6.heap.size=g9 at*;have hne:=nV.ae;have k1:=HX;have z0:=k1.cell 0;have z1:=k1.cell 1;have x2:=k1.cell 2;have x3:=k1.cell 3;have x4:=k1.cell 4;have x5:=k1.cell 5;have x6:=k1.cell 6;simp only[Uaa] at z0 z1 x2 x3 x4 x5 x6;have MB:=J0.ae;open zdg in exact Zbh
 | ok q=>
   obtain⟨t1,s1⟩:=q;have jR:=vo.ae;rw[hr] at hp vt jR;obtain⟨Kx,u',v',C8,rfl,uU,pV,hst⟩:=hp;have bg:=ah w6 (.cells (ay Kx) 46);have HX:=aC.new w6 46 (ay Kx);have J0:=aa ((hst.blk tN.ae CY.ae).later bg);have MM:=aa ((hst.kp CY.ae).size bg.size);have HG:=aa ((((gM.refl gp w u v).later zY.ae).trans hst).later bg);have Kh:=aa (pV.later bg);have HYA:=aa (((gM.refl gp w6 u' v').later bg).tree uU);have nV:=aa (show g4≠w6.heap.size by have:=tN.ae.lt;have:=hst.size;omega);have HWS:=aa (show g4 < W.heap.size/\w.heap.size<=W.heap.size from⟨tN.ae.lt,zY.ae.size⟩);clear hr hst pV uU bg;go_upto_region 5 with fail
   generalize w6.alloc (.cells (ay Kx) 46)=W9 at*;generalize w6.heap.size=g9 at*;have Ee:=aa HX;clear HX;obtain⟨VA,vc,NY,_⟩:=Kh.ae.dK.reads;subst NY;have gX:=Kh.ae.blk;unfold PC.cells at gX;have Jm:=aa (show W9.cell? ⟨gp,10,none⟩=some (.slice VA s1.aL.length vc)from by
    have:=gX.cell 10
    simpa using this)
   have Qq:=aa gX.lt;have Aj:s1.aL.length<=140737488355328:=by have h1:=vt.ae.len _ _ rfl;have h2:=HLEN.ae;omega
   have xo:=aa (Tr.po (cols:=s1.aL) (CA:=VA) (cc:=vc) Aj t1 Kx W9 (vt.ae.ok _ _ rfl kx.ae) (ZQ HYA.ae) (C6 Kh.ae.dK));generalize KK:t1.type s1.aL=R at*;obtain⟨ty,er⟩:=R;dsimp only at jR xo;have abu:=aa jR;clear KK jR gX Aj vo;go_wp2_with fail;open zfi in exact ZcM):p:=h
theorem zfw.Ka8(h:p:=by
 have hk4:=pR.ae.fresh (w2:=W) mO.ae tN.ae.lt;have CY:=aa hk4;have uV:=aa (pR.ae.fresh (w2:=W) Jj.ae Gs.ae.lt);clear hk4
 cases hg:c.aK with
 | false=>
   rw[hg] at c10;have jR:=HX_.ae;unfold pB at jR;rw[hg,if_pos rfl] at jR;have Jm:=aa c4;have Qq:=aa tz.ae.blk.lt;have xo:=aa (Tr.po (cols:=c.cols) (CA:=c.cA) (cc:=c.cc) (by have:=je.ae.cl;omega) t z W kx.ae (CU.ae.later tz.ae.base) (je.ae.cols.later tz.ae.base));generalize KK:t.type c.cols=R at*;obtain⟨ty,er⟩:=R;dsimp only at jR xo;have vo:=aa jR;clear KK jR c4 c8 hg;go_wp2_with fail;clear c10;refine bC 11 (Gx gp 8 c.cA c.cols.length c.cc ty er z) (nE _ _ _ _ _ _ _ _) Vx Vx Vx ?_ ?_
   ·simp only[take_succ_cons,take_zero];refine⟨ZhO,Zab,Zab,Zab,ZcE,?_,Zab,Zab,Zab,Zab,Zab,trivial⟩
    ·intro ρ W4 hc hL hr;have h0:_=_:=hr.1;have h1:_=_:=hr.2.1;have e1:=hc.func 59;refine bD (f:=59) (args:= #[.agg (ay z),.slice c.cA c.cols.length c.cc]) (w':=W4) Tar ?_;exact ZgS
   intro W3 hL;simp only[Uab];rintro a0 - a1 - a2 - a3 - a4 - a5 - a6 - a7 - a8 - _ rfl _ rfl;simp only[bF,Act.put,Uac];have AQ:=aa (Gs.ae.later hL);have J0:=aa (tN.ae.later hL);have Kh:=aa (tz.ae.later hL);have amK:=aa (ai.then zY.ae hL);have MM:=aa (CY.ae.size hL.size);clear hL Gs tN tz zY Jm xo CY uV;have k1:=AQ.ae;open zbN in exact ZaD
 | true=>rw[hg] at c10;have jR:=HX_.ae;unfold pB at jR;rw[hg,if_neg Taa] at jR;have vo:=aa jR;clear jR c4 c8 hg HX_;have k1:=Gs.ae;open zbO in exact ZaD):p:=h
theorem ziX.Kct(h:p:=by go_enter Tryz.func61,Tryz.ntmps61;open zfw in exact ZcS):p:=h
theorem zga.Kbl(h:p:=by have c4:=gX.cell 8;have c10:=gX.cell 11;have c8:=gX.cell 10;open ziX in exact Zg1):p:=h
theorem Dd (c:PC)(w0:World)(gp:Nat)(r:Rest)(t:Tr)(z:Ex)(s:dE)(u v:Value)(ya:List Ex)(w:World)(bh:c.Ok w0)(gj:t.ok)(hat:t.at_ w0 (Old w0) z)(oF:eJ c w0 gp r w u v ya s)(hlen:s.aL.length+s.aM.length+2*t.nodes<=1000000):
  ar 61 #[aw gp,.agg (ay z)] w (ownPost c w0 gp r u v w (pB c.aK c.aL c.cols t s)):=by have HLEN:=aa hlen;clear hlen;obtain⟨X,hX⟩:∃X,X=pB c.aK c.aL c.cols t s:=⟨_,rfl⟩;rw[<- hX];have HX_:=aa hX;clear hX;open zga in exact Zdu
variable{ρ:Operand->Value}{T:Value->World->Prop}
theorem zfv.Ka7(h:p:=by
 unfold zJ execOp;simp only[ho,hp,hx,Instr.storeAt,Instr.sureAddr,Sem.run_bind,Sem.run_pure,Result.andThen_ok,hrun];refine h _ ⟨?_,.inr ⟨q,c,_,?_,hb,setRow_heap w q cur _ e (0,0) hg,?_,hm,?_,?_⟩⟩ ⟨rfl,rfl,rfl,by simp[World.setRow],λ k hk hne=>setRow_other w q k _ (λ e=>hne Tbb)⟩
 ·rw[Gu hf]
 ·rw[e2,length_set]
 ·rw[length_set];exact hn
 ·rw[<- hs];simp[hf];omega
 ·exact Zb1):p:=h
theorem EF{size base:Nat}   {y:α}  {o:Oper}  (ty:TypeId)(p x:Operand)(ho:o.op=.store ty p x)
  (q n c i:Nat) (hf:∀x,(f x).length=size) (hown:aI f e size w base (aF q n c) l) (ui:i < l.length) (hp:ρ p=bj q (i*size)) (hx:ρ x=.agg (f y).toArray)
  (hi:(P.info? ty).map (·.size)=some size) (h1:(f y).toArray.all (·.oneCell')=true)
  (h:∀w',aI f e size w' base (aF q n c) (l.set i y)->w.grownBy w' (some q)->T undef w'):zJ P o ρ w T:=by
 rcases hown.2 with ⟨hv,_⟩|⟨g,cap,cur,hv,hb,hg,hn,hm,hs,ht⟩
 ·cases hv
 ·open zfv in exact ZcR
theorem De{size base:Nat}   {z y:α}  {o:Oper}  (ty:TypeId)(p x:Operand)(ho:o.op=.store ty p x)
  (q n c:Nat) (hf:∀x,(f x).length=size) (hown:aI f e size w base (aF q n c) (l++ [z])) (hp:ρ p=bj q (l.length*size)) (hx:ρ x=.agg (f y).toArray)
  (hi:(P.info? ty).map (·.size)=some size) (h1:(f y).toArray.all (·.oneCell')=true)
  (h:∀w',aI f e size w' base (aF q n c) (l++ [y])->w.grownBy w' (some q)->T undef w'):zJ P o ρ w T:=by
 refine EF ty p x ho q n c l.length hf hown Tac hp hx hi h1 λ w' h1 h2=>h w' ?_ h2
 exact ZhL
variable{V V':Nat->World->Value->Prop}{K:Act->World->Prop}
theorem bF.weaken:∀ {l:List Oper} {k:Nat} {a:Act} {w:World},(∀i w v,V' i w v->V i w v)->bF V K l k a w->bF V' K l k a w:=by
 intro l
 induction l with
 | nil=>intro k a w _ h;exact h
 | cons o l ih=>
   intro k a w hv h;unfold bF at h ⊢;revert h
   cases o.dst with
   | none=>intro h;exact ih hv h
   | some d=>intro h;exact λ x hx=>ih hv (h x (hv _ _ _ hx))
structure LaA (W:World) (z:Option Value) (w:World):Prop where
 below:aj W w
 zero:∀x,z=some x->∃g0,x=aF g0 1 1/\aC w g0 46 (bI wO).toArray
structure LaB (gp k B:Nat) (W:World) (cs:Array Value) (r:Value) (ys:List Ex) (y:Ex) (a:Value) (s p:Bool) (w:World):Prop where
 row:∃q c,a=aF q (ys.length+1) c/\q≠gp
 own:aI bI 46 7 w B a (ys++ [if s=true then y else wO])
 blk:aC w gp 81 (if p=true then cs.setIfInBounds k a else cs)
 far:∀b,b < W.heap.size->b≠gp->r.ownBlock≠some b->w.heap[b]?=W.heap[b]?
 os:w.os=W.os
 tape:w.tape=W.tape
 output:w.output=W.output
 size:W.heap.size<=w.heap.size
 mv:Mv W r a
variable{W:World}{r:Value}
theorem LaB.later{a:Value}  {y:Ex} {s p:Bool}(h:LaB gp k B W cs r ys y a s p w)(hb:aj w w'):LaB gp k B W cs r ys y a s p w':=
 ⟨h.row,h.own.later hb,h.blk.later hb,λ b h1 h2 h3=>(hb.block b (Nat.lt_of_lt_of_le h1 h.size)).trans (h.far b h1 h2 h3),hb.os.trans h.os,hb.tape.trans h.tape,hb.output.trans h.output,Nat.le_trans h.size hb.size,h.mv⟩
def amN (o0 o1 o2 o3 o4 o5 o6 o7 o8 o9 qJ xt vu:Oper)(s0 s1 d0 d1 d2 d3 d4 d5 d6 d7 d8 d10 d11:Tmp):Bool:=
 (tmpsOf o0== [s0])&&(cY [o0,o1,o2,o3,o4,o5,o6,o7,o8,o9,qJ,xt,vu] o0 s0==none)&&(tmpsOf o1== [d0])&&(cY [o0,o1,o2,o3,o4,o5,o6,o7,o8,o9,qJ,xt,vu] o1 d0==some 0)&&(tmpsOf o2== [d1])&&(cY [o0,o1,o2,o3,o4,o5,o6,o7,o8,o9,qJ,xt,vu] o2 d1==some 1)&&(tmpsOf o3== [d2])&&(cY [o0,o1,o2,o3,o4,o5,o6,o7,o8,o9,qJ,xt,vu] o3 d2==some 2)&&(tmpsOf o4== [s1])&&(cY [o0,o1,o2,o3,o4,o5,o6,o7,o8,o9,qJ,xt,vu] o4 s1==none)&&(tmpsOf o5== [d3])&&(cY [o0,o1,o2,o3,o4,o5,o6,o7,o8,o9,qJ,xt,vu] o5 d3==some 3)&&(tmpsOf o6== [])&&(tmpsOf o7== [d3,d6])&&(cY [o0,o1,o2,o3,o4,o5,o6,o7,o8,o9,qJ,xt,vu] o7 d3==some 3)&&(cY [o0,o1,o2,o3,o4,o5,o6,o7,o8,o9,qJ,xt,vu] o7 d6==some 6)&&(tmpsOf o8== [d7,d5])&&(cY [o0,o1,o2,o3,o4,o5,o6,o7,o8,o9,qJ,xt,vu] o8 d7==some 7)&&(cY [o0,o1,o2,o3,o4,o5,o6,o7,o8,o9,qJ,xt,vu] o8 d5==some 5)&&(tmpsOf o9== [d8,d4])&&(cY [o0,o1,o2,o3,o4,o5,o6,o7,o8,o9,qJ,xt,vu] o9 d8==some 8)&&(cY [o0,o1,o2,o3,o4,o5,o6,o7,o8,o9,qJ,xt,vu] o9 d4==some 4)&&(tmpsOf qJ== [d0])&&(cY [o0,o1,o2,o3,o4,o5,o6,o7,o8,o9,qJ,xt,vu] qJ d0==some 0)&&(tmpsOf xt== [d10])&&(cY [o0,o1,o2,o3,o4,o5,o6,o7,o8,o9,qJ,xt,vu] xt d10==some 10)&&(tmpsOf vu== [d11,d7])&&(cY [o0,o1,o2,o3,o4,o5,o6,o7,o8,o9,qJ,xt,vu] vu d11==some 11)&&(cY [o0,o1,o2,o3,o4,o5,o6,o7,o8,o9,qJ,xt,vu] vu d7==some 7)&& o0.guard.isNone && o1.guard.isNone && o2.guard.isNone && o3.guard.isNone && o4.guard.isNone && o5.guard.isNone && o6.guard.isNone && o7.guard.isNone && o8.guard.isNone && o9.guard.isNone && qJ.guard.isNone && xt.guard.isNone && vu.guard.isNone && ir o7 3 && ir o7 6 && ir o8 7 && ir o9 7 && ir vu 7
def Ap (gp k B:Nat)(W:World)(cs:Array Value)(r:Value)(ys:List Ex)(y:Ex)(σ:Nat->Option Value)(w:World):Prop:=
 match σ 7 with
 | none=>σ 8=none/\σ 9=none/\σ 12=none/\(∀x,σ 3=some x->x=r)/\LaA W (σ 6) w
 | some a=>(σ 3).isSome=true/\(σ 6).isSome=true/\(∀x,σ 3=some x->x=r)/\LaB gp k B W cs r ys y a (σ 9).isSome (σ 12).isSome w/\∀x,σ 8=some x->∃G cap,a=.slice (some ⟨G,0,none⟩) (ys.length+1) cap/\x=.pointer (some ⟨G,ys.length*7,none⟩)
theorem D8{y:Ex}(σ:Nat->Option Value)(w:World)(h:Ap gp k B W cs r ys y σ w):Ap gp k B W cs r ys y σ w.drew:=by
 have hb:aj w w.drew:=(Below.refl _ _).drew;unfold Ap at*
 cases ha:σ 7 with
 | none=>rw[ha] at h;obtain⟨h1,h2,h3,h4,h5⟩:=h;exact⟨h1,h2,h3,h4,⟨Below.trans h5.below (hb.mono h5.below.size),λ x hx=>by obtain⟨g0,k1,k2⟩:=h5.zero x hx;exact⟨g0,k1,k2.later hb⟩⟩⟩
 | some a=>rw[ha] at h;obtain⟨h1,h2,h3,h4,h5⟩:=h;exact⟨h1,h2,h3,h4.later hb,h5⟩
section
variable {gp k B gx:Nat} {W:World} {cs:Array Value} {r:Value} {ys:List Ex} {y:Ex} {Q:Exit->Act->World->Prop} {a0:Act} {id:Nat} {o0 o1 o2 o3 o4 o5 o6 o7 o8 o9 qJ xt vu:Oper} {s0 s1 d0 d1 d2 d3 d4 d5 d6 d7 d8 d10 d11:Tmp}
theorem ziU.Kcs(h:p:=by rw[ha] at r0;injection r0 with r0;refine aq (h8 ρ w q c (r0.symm.trans e1) r1) ?_;show Ap gp k B W cs r ys y _ _;unfold Ap;simp only[oz,ha,BP,Nat.reduceEqDiff,if_true,if_false];exact⟨k1,k2,k3,zC,λ x e=>by injection e with e;exact⟨q,c,e1,e.symm⟩⟩):p:=h
theorem ziV.Kcs(h:p:=by
 obtain⟨G2,afh,e7,e8⟩:=k5 _ r0;rw[BP] at zC;have ho:=zC.own;rw[e7] at ho e1;injection e1 with e1 _ e3;injection e1 with e1;injection e1 with e1 _ _;subst e1 e3;refine De 46 (.tmp d8) (.tmp d4) h9 G2 (ys.length+1) afh (f:=bI) (y:=y) (l:=ys) (λ _=>rfl) ho e8 r1 Vx TaC ?_;intro w' Bh Rq;show Ap gp k B W cs r ys y _ _;unfold Ap;simp only[oz,ha,Nat.reduceEqDiff,if_true,if_false,Option.isSome_some];refine⟨k1,k2,k3,⟨⟨G2,afh,e7,e2⟩,by rw[e7];exact Bh,zC.blk.grown Rq (λ e=>by injection e with e;exact e2 e.symm),λ b h1 h2 h3=>?_,Rq.os.trans zC.os,Rq.tape.trans zC.tape,Rq.output.trans zC.output,Nat.le_trans zC.size Rq.size,zC.mv⟩,k5⟩;refine(Rq.block b (Nat.lt_of_lt_of_le h1 zC.size) λ e=>?_).trans (zC.far b h1 h2 h3);injection e with e;rcases zC.mv with h | h
 ·rw[e7] at h;exact h3 (by rw[<- h,e];rfl)
 ·have:=h G2 (by rw[e7];rfl);omega):p:=h
theorem ziW.Kcs(h:p:=by rw[ha] at r1;injection r1 with r1;rw[BP] at zC;have kQ:aC w gp 81 cs:=zC.blk;have hrun:=h12 ρ w (some ⟨q,0,none⟩) (ys.length+1) c r0 (r1.symm.trans e1) (by rw[kQ.cell];exact hcs) (kQ.frozen _);unfold zJ;rw[hrun];show Ap gp k B W cs r ys y _ _;unfold Ap;simp only[oz,ha,Nat.reduceEqDiff,if_true,if_false,Option.isSome_some];have amU:=zC.own;refine⟨k1,k2,k3,⟨⟨q,c,e1,e2⟩,amU.keep λ g hg2=>Below.heap_setCell w ⟨gp,k,none⟩ _ g λ e=>?_,by have:=kQ.aW k a;rw[e1] at this ⊢;exact this,λ b h1 h2 h3=>(Below.heap_setCell w ⟨gp,k,none⟩ _ b h2).trans (zC.far b h1 h2 h3),zC.os,zC.tape,zC.output,by rw[World.size_setCell];exact zC.size,zC.mv⟩,k5⟩;rw[e1] at hg2;injection hg2 with hg2;exact e2 (hg2.trans e)):p:=h
theorem Gz (hm:Tryz.prog.follows .mixedOrders=true)(bh:dO [o0,o1,o2,o3,o4,o5,o6,o7,o8,o9,qJ,xt,vu] a0.tmps.size [o0,o1,o2,o3,o4,o5,o6,o7,o8,o9,qJ,xt,vu] 0=true)(Cn:amN o0 o1 o2 o3 o4 o5 o6 o7 o8 o9 qJ xt vu s0 s1 d0 d1 d2 d3 d4 d5 d6 d7 d8 d10 d11=true)
  (es0:a0.eval (.tmp s0)=.pointer (some ⟨gp,0,none⟩)) (es1:a0.eval (.tmp s1)=.pointer (some ⟨gx,0,none⟩))
  (h0:∀ρ w,ρ (.tmp s0)=.pointer (some ⟨gp,0,none⟩)->(execOp ρ o0).run Tryz.prog w=.ok (.value (.pointer (some ⟨gp,0,none⟩))) w)
  (h1:∀ρ w,ρ (.tmp d0)=.pointer (some ⟨gp,0,none⟩)->(execOp ρ o1).run Tryz.prog w=.ok (.value (.pointer (some ⟨gp,0,none⟩))) w)
  (h2:∀ρ w,ρ (.tmp d1)=.pointer (some ⟨gp,0,none⟩)->(execOp ρ o2).run Tryz.prog w=.ok (.value (.pointer (some ⟨gp,k,none⟩))) w)
  (h3:∀ρ w,ρ (.tmp d2)=.pointer (some ⟨gp,k,none⟩)->w.cell? ⟨gp,k,none⟩=some r->(execOp ρ o3).run Tryz.prog w=.ok (.value (r)) w)
  (h4:∀ρ w,ρ (.tmp s1)=.pointer (some ⟨gx,0,none⟩)->aC w gx 46 (bI y).toArray->(execOp ρ o4).run Tryz.prog w=.ok (.value (.agg (bI y).toArray)) w)
  (h5:∀ρ w,ρ (.tmp d3)=r->(execOp ρ o5).run Tryz.prog w=.ok (.value (.int .i64 (ys.length:Int))) w)
  (h6:∀ρ w,oT ρ->(execOp ρ o6).run Tryz.prog w=.ok (.value (.slice (some ⟨w.heap.size,0,none⟩) 1 1)) (w.alloc (.cells (bI wO).toArray 46)))
  (h7:∀ρ w x v' w',ρ (.tmp d3)=r->ρ (.tmp d6)=x->(Builtin.append_ #[23,23] 23 #[r,x]).run Tryz.prog w=.ok v' w'->(execOp ρ o7).run Tryz.prog w=.ok (.value v') w')
  (h8:∀ρ w G cap,ρ (.tmp d7)=.slice (some ⟨G,0,none⟩) (ys.length+1) cap->ρ (.tmp d5)=.int .i64 (ys.length:Int)->(execOp ρ o8).run Tryz.prog w=.ok (.value (.pointer (some ⟨G,ys.length*7,none⟩))) w)
  (h9:o9.op=.store 46 (.tmp d8) (.tmp d4))
  (h10:∀ρ w,ρ (.tmp d0)=.pointer (some ⟨gp,0,none⟩)->(execOp ρ qJ).run Tryz.prog w=.ok (.value (.pointer (some ⟨gp,0,none⟩))) w)
  (h11:∀ρ w,ρ (.tmp d10)=.pointer (some ⟨gp,0,none⟩)->(execOp ρ xt).run Tryz.prog w=.ok (.value (.pointer (some ⟨gp,k,none⟩))) w)
  (h12:∀ρ w A m c,ρ (.tmp d11)=.pointer (some ⟨gp,k,none⟩)->ρ (.tmp d7)=.slice A m c->w.cell? ⟨gp,k,none⟩=some r->w.frozen? ⟨gp,k,none⟩=false->(execOp ρ vu).run Tryz.prog w=.ok .skip (w.setCell ⟨gp,k,none⟩ (.slice A m c)))
  (hcs:cs[k]?=some r) (hB:B<=W.heap.size) (hblk:aC W gp 81 cs) (hown:aI bI 46 7 W B r ys) (hlen:ys.length<=1000000)
  (hgx:aC W gx 46 (bI y).toArray) (hxg:gx≠gp) (hxr:r.ownBlock≠some gx)
  (mn:∀a w,LaB gp k B W cs r ys y a true true w->bF (λ _ _ _=>True) (λ a w=>wpList Tryz.prog [o0,o1,o2,o3,o4,o5,o6,o7,o8,o9,qJ,xt,vu].toArray Q [] a w) [o0,o1,o2,o3,o4,o5,o6,o7,o8,o9,qJ,xt,vu] 0 a0 w):
  (Code.region id [o0,o1,o2,o3,o4,o5,o6,o7,o8,o9,qJ,xt,vu].toArray true).wp Tryz.prog Q a0 W:=by
 simp only[amN,Bool.and_eq_true,beq_iff_eq,Option.isNone_iff_eq_none] at Cn;obtain⟨⟨⟨⟨⟨⟨⟨⟨⟨⟨⟨⟨⟨⟨⟨⟨⟨⟨⟨⟨⟨⟨⟨⟨⟨⟨⟨⟨⟨⟨⟨⟨⟨⟨⟨⟨⟨⟨⟨⟨⟨⟨⟨⟨⟨⟨t0,atg⟩,t1⟩,ath⟩,t2⟩,ati⟩,t3⟩,atj⟩,t4⟩,atk⟩,t5⟩,atl⟩,t6⟩,t7⟩,atm⟩,atn⟩,t8⟩,ato⟩,atp⟩,t9⟩,atq⟩,atr⟩,t10⟩,amP⟩,t11⟩,amQ⟩,t12⟩,amR⟩,amS⟩,g0⟩,g1⟩,g2⟩,g3⟩,g4⟩,g5⟩,g6⟩,g7⟩,g8⟩,g9⟩,g10⟩,g11⟩,g12⟩,att⟩,aAd⟩,atu⟩,atv⟩,amT⟩:=Cn;refine zb [] [o0,o1,o2,o3,o4,o5,o6,o7,o8,o9,qJ,xt,vu] Tac (λ i=>if i=0 then .pointer (some ⟨gp,0,none⟩)else if i=1 then .pointer (some ⟨gp,0,none⟩)else if i=2 then .pointer (some ⟨gp,k,none⟩)else if i=4 then(.agg (bI y).toArray)else if i=5 then .int .i64 (ys.length:Int)else if i=10 then .pointer (some ⟨gp,0,none⟩)else if i=11 then .pointer (some ⟨gp,k,none⟩)else undef) [3,6,7,8,9,12] (Ap gp k B W cs r ys y) D8 ⟨rfl,rfl,rfl,(λ x e=>by cases e),⟨Below.refl _ _,λ x e=>by cases e⟩⟩ hm bh rfl rfl ?_ ?_
 ·refine⟨?_,?_,?_,?_,?_,?_,?_,?_,?_,?_,?_,?_,?_,trivial⟩
  ·intro ρ w σ hc hG hr he hno;rw[t0] at hr;have r0:=hr.1;simp only[atg] at r0;refine⟨g0,?_⟩;exact h0 ρ w (r0.trans es0)
  ·intro ρ w σ hc hG hr he hno;rw[t1] at hr;have r0:=hr.1;simp only[ath] at r0;unfold nK at r0;rw[if_neg Taa] at r0;refine⟨g1,?_⟩;exact h1 ρ w r0
  ·intro ρ w σ hc hG hr he hno;rw[t2] at hr;have r0:=hr.1;simp only[ati] at r0;unfold nK at r0;rw[if_neg Taa] at r0;refine⟨g2,?_⟩;exact h2 ρ w r0
  ·intro ρ w σ hc hG hr he hno;rw[t3] at hr;have r0:=hr.1;simp only[atj] at r0;unfold nK at r0;rw[if_neg Taa] at r0;refine⟨g3,?_⟩;rw[if_pos Taa];have BP:=hno Taa;unfold Ap at hG
   have ha:σ 7=none:=by
    cases ha:σ 7 with
    | none=>rfl
    | some a=>rw[ha] at hG;have:=hG.1;rw[BP] at this;cases this
   rw[ha] at hG;obtain⟨k1,k2,k3,k4,hA⟩:=hG;refine aq (h3 ρ w r0 ?_) ?_
   ·rw[(hblk.later hA.below).cell];exact hcs
   show Ap gp k B W cs r ys y _ _;unfold Ap;simp only[oz,ha,k1,k2,k3,Nat.reduceEqDiff,if_true,if_false];exact⟨trivial,trivial,trivial,λ x e=>by injection e with e;exact e.symm,hA⟩
  ·intro ρ w σ hc hG hr he hno;rw[t4] at hr;have r0:=hr.1;simp only[atk] at r0;refine⟨g4,?_⟩;refine h4 ρ w (r0.trans es1) ?_;unfold Ap at hG
   cases ha:σ 7 with
   | none=>rw[ha] at hG;exact hgx.later hG.2.2.2.2.below
   | some a=>rw[ha] at hG;exact(hG.2.2.2.1.far gx hgx.lt hxg hxr).trans hgx
  ·intro ρ w σ hc hG hr he hno;rw[t5] at hr;have r0:=hr.1;simp only[atl] at r0;unfold nK at r0;rw[if_pos Taa] at r0;refine⟨g5,?_⟩;refine h5 ρ w ?_;unfold Ap at hG
   cases ha:σ 7 with
   | none=>rw[ha] at hG;exact hG.2.2.2.1 _ r0
   | some a=>rw[ha] at hG;exact hG.2.2.1 _ r0
  ·intro ρ w σ hc hG hr he hno;rw[t6] at hr;refine⟨g6,?_⟩;rw[if_pos Taa];have BP:=hno Taa;unfold Ap at hG
   have ha:σ 7=none:=by
    cases ha:σ 7 with
    | none=>rfl
    | some a=>rw[ha] at hG;have:=hG.2.1;rw[BP] at this;cases this
   rw[ha] at hG;obtain⟨k1,k2,k3,k4,hA⟩:=hG;refine aq (h6 ρ w hc) ?_;show Ap gp k B W cs r ys y _ _;unfold Ap;simp only[oz,ha,k1,k2,k3,Nat.reduceEqDiff,if_true,if_false];exact⟨trivial,trivial,trivial,k4,⟨hA.below.alloc hA.below.size _,λ x e=>by injection e with e;exact⟨w.heap.size,e.symm,aC.new w _ _⟩⟩⟩
  ·intro ρ w σ hc hG hr he hno;rw[t7] at hr;have r0:=hr.1;simp only[atm] at r0;unfold nK at r0;rw[if_pos Taa] at r0;have r1:=hr.2.1;simp only[atn] at r1;unfold nK at r1;rw[if_pos Taa] at r1;refine⟨g7,?_⟩;rw[if_pos Taa];have BP:=hno Taa;unfold Ap at hG;rw[BP] at hG;obtain⟨k1,k2,k3,k4,hA⟩:=hG;have atw:=he 3 (cM.1 att) Taa;obtain⟨lv,hlv⟩:=Option.isSome_iff_exists.1 atw;obtain⟨z0,hz1,hz2⟩:=hA.zero _ r1;obtain⟨v',w',hrun,ho,yS,Eu⟩:=eO (P:=Tryz.prog) (w:=w) 23 23 _ 88 Tryz.underlying23 fM rfl WC (λ _=>rfl) (y:=wO) (by simp[bI,wO,Value.oneCell']) (hown.later hA.below) z0 hz2 WC WC (Nat.le_trans hB hA.below.size);rw[<- hz1] at hrun;refine aq (h7 ρ w _ v' w' (k4 _ r0) rfl hrun) ?_;show Ap gp k B W cs r ys y _ _;unfold Ap;simp only[oz,hlv,k1,k2,k3,r1,Nat.reduceEqDiff,if_true,if_false,Option.isSome_some,Option.isSome_none];have nX:=hblk.later hA.below;have hb2:=dC nX (hown.later hA.below) Taa yS.grown;obtain⟨q,c,hq,_,_⟩:=ho.block Tac;refine⟨trivial,trivial,λ x e=>k4 x (hlv.trans e),⟨⟨q,c,by rw[hq,length_append];rfl,λ e=>ho.other hb2 Taa (by rw[hq,e];rfl)⟩,ho,hb2,λ b h1 h2 h3=>(yS.grown.block b (Nat.lt_of_lt_of_le h1 hA.below.size) (Ne.symm h3)).trans (hA.below.block b h1),yS.grown.os.trans hA.below.os,yS.grown.tape.trans hA.below.tape,yS.grown.output.trans hA.below.output,Nat.le_trans hA.below.size yS.grown.size,Eu.later hA.below.size⟩,λ x e=>by cases e⟩
  ·intro ρ w σ hc hG hr he hno;rw[t8] at hr;have r0:=hr.1;simp only[ato] at r0;unfold nK at r0;rw[if_pos Taa] at r0;have r1:=hr.2.1;simp only[atp] at r1;unfold nK at r1;rw[if_neg Taa] at r1;refine⟨g8,?_⟩;rw[if_pos Taa];have BP:=hno Taa;unfold Ap at hG;have ha:=he 7 (cM.1 atu) Taa;open ziU in exact ZgR
  ·intro ρ w σ hc hG hr he hno;rw[t9] at hr;have r0:=hr.1;simp only[atq] at r0;unfold nK at r0;rw[if_pos Taa] at r0;have r1:=hr.2.1;simp only[atr] at r1;unfold nK at r1;rw[if_neg Taa] at r1;refine⟨g9,?_⟩;rw[if_pos Taa];have BP:=hno Taa;unfold Ap at hG;have ha:=he 7 (cM.1 atv) Taa;open ziV in exact ZgR
  ·intro ρ w σ hc hG hr he hno;rw[t10] at hr;have r0:=hr.1;simp only[amP] at r0;unfold nK at r0;rw[if_neg Taa] at r0;refine⟨g10,?_⟩;exact h10 ρ w r0
  ·intro ρ w σ hc hG hr he hno;rw[t11] at hr;have r0:=hr.1;simp only[amQ] at r0;unfold nK at r0;rw[if_neg Taa] at r0;refine⟨g11,?_⟩;exact h11 ρ w r0
  ·intro ρ w σ hc hG hr he hno;rw[t12] at hr;have r0:=hr.1;simp only[amR] at r0;unfold nK at r0;rw[if_neg Taa] at r0;have r1:=hr.2.1;simp only[amS] at r1;unfold nK at r1;rw[if_pos Taa] at r1;refine⟨g12,?_⟩;rw[if_pos Taa];have BP:=hno Taa;unfold Ap at hG;have ha:=he 7 (cM.1 amT) Taa;open ziW in exact ZgR
 ·intro σ w hall hG;have ha:=hall 7 Taa;obtain⟨a,ha⟩:=Option.isSome_iff_exists.1 ha;have h9:=hall 9 Taa;have h12:=hall 12 Taa;unfold Ap at hG;rw[ha,h9,h12] at hG;exact bF.weaken (λ _ _ _ _=>trivial) (mn a w hG.2.2.2.1)
end
end Go.Proofs.YtndgjggokjickaaGreatDoor
