/- Parts of the proof. -/
import Derived.Test.YtndgjggokjickaaGreatDoorXO6
namespace Go.Proofs.YtndgjggokjickaaGreatDoor
variable{p:Prop}
set_option maxHeartbeats 90000000
set_option maxRecDepth 100000
open Go.ChangeShapes Go.WideShapes Go.ChangeAt Go.RowKit List
set_option linter.unusedVariables false
set_option linter.unusedSimpArgs false
theorem zeW.Ka6(h:p:=by
 unfold jF at gj;have oK:=aa gj;clear gj Ib;unfold ck at hex;go_wp2_with fail;have bY:=ah wr (.cells (ay bad) 46);refine(oK.ae _ (ai.then hb bY)).mono ?_;rintro e W3 ⟨rfl,b1⟩;unfold bQ;have eB:=ai.then hb (ai.then bY b1);have t1:(er != 0)=true:=by have:=Ox.ae;simpa using this
 have t2:decide (er=0)=false:=by have:=Ox.ae;simpa using this
 clear bY b1 oK hex hb;go_wp2_with fail;exact bodyPost_ret (v:=.tuple #[az,af er]) Tbm rfl ⟨rfl,ai.then eB (ah W3 _)⟩):p:=h
theorem Qo (A:Option Addr)(n c:Nat)(cV rV:Value)(args:List (Ex×Val))(bad:Ex)(bv:Val)(er:Int)(post:List Ex)(w:World)(hn:args.length+1+post.length=n)(hl:n<=1599289640356)(hA:RE w w.heap.size A (args.map (·.1)++bad::post))(hE:∀a∈args,jF w cV rV a.1 a.2 0)(jZ:jF w cV rV bad bv er)(her:er≠0):
  ar 34 #[.slice A n c,cV,rV] w λ e w'=>e=.returned (.tuple #[az,af er])/\aj w w':=by
 have HN:=aa hn;have Ib:=aa jZ;have Ox:=aa her;clear hn jZ her;have HA:=aa hA;have HE:=aa hE;clear hA hE;go_enter Tryz.func34,Tryz.ntmps34;go_wp2_with fail;go_loopw [8,15] (λ kv i wr=>∃k:Nat,k<=args.length/\i=af k/\aH aV 44 3 wr w.heap.size kv ((args.take k).map (·.2))/\aj w wr) (λ _ i _=>args.length - (intOf i).toNat);case atStart=>exact ZcI
 case round=>
  obtain⟨k,hk,rfl,hp,hb⟩:=hrel;have HP:=aa hp;clear hp;rcases Nat.lt_or_ge k args.length with hlt | vr
  ·have zE:k < n:=by have:=HN.ae;omega
   obtain⟨b,off,rfl,kG,hex⟩:=(HA.ae.below hb).at_ (show k <(args.map (·.1)++bad::post).length by simp;omega);have js:(args.map (·.1)++bad::post)[k]' Va=args[k].1:=by rw[getElem_append_left Tak];simp
   exact Zar
  ·open zeW in exact ZcS
theorem Qp (A:Option Addr)(n c:Nat)(cV rV:Value)(args:List (Ex×Val))(w:World)(hn:args.length=n)(hl:n<=1599289640356)(hA:RE w w.heap.size A (args.map (·.1)))(hE:∀a∈args,jF w cV rV a.1 a.2 0):
  ar 34 #[.slice A n c,cV,rV] w λ e w'=>∃v,e=.returned (.tuple #[v,af 0])/\aH aV 44 3 w' w.heap.size v (args.map (·.2))/\aj w w':=by
 have HN:=aa hn;clear hn;have HA:=aa hA;have HE:=aa hE;clear hA hE;go_enter Tryz.func34,Tryz.ntmps34;go_wp2_with fail;go_loopw [8,15] (λ kv i wr=>∃k:Nat,k<=args.length/\i=af k/\aH aV 44 3 wr w.heap.size kv ((args.take k).map (·.2))/\aj w wr) (λ _ i _=>args.length - (intOf i).toNat);case atStart=>exact ZcI
 case round=>
  obtain⟨k,hk,rfl,hp,hb⟩:=hrel;have HP:=aa hp;clear hp;rcases Nat.lt_or_ge k args.length with hlt | vr
  ·have zE:k < n:=by have:=HN.ae;omega
   obtain⟨b,off,rfl,kG,hex⟩:=(HA.ae.below hb).at_ (show k <(args.map (·.1)).length by simpa using hlt);have js:(args.map (·.1))[k]' Tak=args[k].1:=by simp
   exact Zar
  ·have lT:args.take k=args:=take_of_length_le vr;have zE:¬k < n:=by have:=HN.ae;omega
   rw[lT] at HP;go_wp2_with fail;exact bodyPost_ret (v:=.tuple #[u8,af 0]) Tbm rfl ⟨_,rfl,HP.ae,hb⟩
variable{α:Type}{f:α->List Value}{e:TypeId}{w w':World}{v:Value}{l:List α}{q:Nat}{t:TypeId}{cs:Array Value}
theorem aB.ky{size base:Nat}      (hq:aB w q t cs)(h:aH f e size w base v l)(ht:t≠e)(hg:w.grownBy w' v.ownBlock):aB w' q t cs:=hq.grown hg λ e=>h.other hq ht e.symm
theorem Jp:∀ {l:List (Val×Int)},(∀a∈l,a.2=0)->cM l=0
 | [],_=>rfl
 | a::l,h=>by unfold cM;rw[if_neg (by simp[h a (mem_cons_self ..)])];exact Jp λ b hb=>h b (mem_cons_of_mem _ hb)
theorem I4:∀ {pre:List (Val×Int)} {bad:Val×Int} {post:List (Val×Int)},(∀a∈pre,a.2=0)->bad.2≠0->cM (pre++bad::post)=bad.2
 | [],bad,post,_,hb=>by rw[nil_append];unfold cM;rw[if_pos hb]
 | a::pre,bad,post,h,hb=>by rw[cons_append];unfold cM;rw[if_neg (by simp[h a (mem_cons_self ..)])];exact I4 (λ b hb=>h b (mem_cons_of_mem _ hb)) hb
def rF (cols:List aX)(row:List Val)(ts:List Tr)(w:World)(e:Ending)(w':World):Prop:=
 match bu cols row ts with
 | .error er=>er≠0/\e=.returned (.tuple #[az,af er])/\aj w w'
 | .ok l=>∃v,e=.returned (.tuple #[v,af 0])/\aH aV 44 3 w' w.heap.size v l/\aj w w'
theorem Gq (cols:List aX)(CA:Option Addr)(cc:Nat)(row:List Val)(RA:Option Addr)(rc:Nat)(ts:List Tr)(ys:List Ex)(A:Option Addr)(c:Nat)(w:World)(bU:cols.length<=140737488355328)(kH:row.length<=140737488355328)(hro:∀v∈row,v.Ok)
  (aZ:Tr.cO ts) (hat:Tr.aO w (Old w) ts ys) (hl:ys.length<=1599289640356) (hA:RE w w.heap.size A ys) (hC:RC w w.heap.size CA cols) (hV:RV w w.heap.size RA row):
  ar 34 #[.slice A ys.length c,.slice CA cols.length cc,.slice RA row.length rc] w (rF cols row ts w):=by
 obtain⟨l,fq,hl2,ub⟩:=Tr.Bp cols CA cc row RA rc bU kH hro ts ys w aZ hat hC hV;rcases qN l with h |⟨pre,bad,post,rfl,h1,h2⟩
 ·have hw:bu cols row ts=.ok (l.map λ a=>a.2.1):=by unfold bu;rw[<- hl2,Jp (λ a ha=>by obtain⟨b,hb,rfl⟩:=List.mem_map.1 ha;exact h b hb),if_neg WC,map_map];rfl
  have e1:(l.map λ a=>(a.1,a.2.1)).map (·.1)=ys:=by rw[map_map,<- fq];rfl
  refine(Qp A ys.length c (.slice CA cols.length cc) (.slice RA row.length rc) (l.map λ a=>(a.1,a.2.1)) w (by rw[<- e1];simp) hl (by rw[e1];exact hA) ?_).mono ?_
  ·intro a ha;obtain⟨b,hb,rfl⟩:=List.mem_map.1 ha;have:=ub b hb;rw[h b hb] at this;exact this
  ·rintro e w' ⟨v,h1,h2,h3⟩;unfold rF;rw[hw];refine⟨v,h1,?_,h3⟩;rw[map_map] at h2;exact h2
 ·have hw:bu cols row ts=.error bad.2.2:=by
   have:cM (Tr.iO cols row ts)=bad.2.2:=by rw[<- hl2,map_append,map_cons];exact I4 (λ a ha=>by obtain⟨b,hb,rfl⟩:=List.mem_map.1 ha;exact h1 b hb) h2
   unfold bu;rw[this,if_pos h2]
  have e1:((pre.map λ a=>(a.1,a.2.1)).map (·.1))++bad.1::post.map (·.1)=ys:=by rw[map_map,<- fq,map_append,map_cons];rfl
  refine(Qo A ys.length c (.slice CA cols.length cc) (.slice RA row.length rc) (pre.map λ a=>(a.1,a.2.1)) bad.1 bad.2.1 bad.2.2 (post.map (·.1)) w ?_ hl (by rw[e1];exact hA) ?_ ?_ h2).mono ?_
  ·rw[<- fq];simp;omega
  ·intro a ha;obtain⟨b,hb,rfl⟩:=List.mem_map.1 ha;have:=ub b (mem_append_left _ hb);rw[h1 b hb] at this;exact this
  ·exact ub bad (mem_append_right _ (mem_cons_self ..))
  ·rintro e w' ⟨h1,h3⟩;unfold rF;rw[hw];exact⟨h2,h1,h3⟩
variable{S:Nat->Prop}
theorem dU:∀ {ts:List Tr} {ys:List Ex},Tr.aO w S ts ys->ts.length=ys.length
 | [],ys,h=>by unfold Tr.aO at h;rw[h];rfl
 | t::ts,ys,h=>by unfold Tr.aO at h;obtain⟨y,ys',rfl,_,h2⟩:=h;rw[length_cons,length_cons,dU h2]
theorem wC:∀(ts:List Tr) (ys:List Ex),Tr.aO w (Old w) ts ys->∃l:List tP,l.length=ys.length/\(∀(i:Nat) y x,ys[i]?=some y->l[i]?=some x->y.A=x.A/\y.n=x.ys.length/\y.c=x.c/\RE w w.heap.size x.A x.ys)/\Tr.aO w (Old w) (ts.flatMap Tr.args) (l.flatMap tP.ys)/\ys.map Ex.n=ts.map λ t=>t.args.length
 | [],ys,h=>by unfold Tr.aO at h;subst h;exact⟨[],rfl,λ i y x h=>by simp at h,by simp[Tr.aO],rfl⟩
 | t::ts,ys,h=>by
   unfold Tr.aO at h;obtain⟨y,ys',rfl,h1,h2⟩:=h;obtain⟨l,l1,l2,l3,l4⟩:=wC ts ys' h2;obtain⟨op,v,name,width,args⟩:=t;unfold Tr.at_ at h1;obtain⟨_,_,_,_,hn,zs,hz1,hz2⟩:=h1;have hzl:zs.length=args.length:=(dU hz2).symm;refine⟨⟨y.A,y.c,zs⟩::l,by simp[l1],?_,?_,?_⟩
   ·intro i y' x hy hx;cases i with
    | zero=>
      simp at hy hx;subst hy hx;refine⟨rfl,by rw[hn];exact hzl.symm,rfl,?_⟩;rcases hz1 with h |⟨b,off,e1,e2,e3⟩
      ·exact .inl h
      ·exact .inr ⟨b,off,e1,e2,e3⟩
    | succ i=>exact l2 i y' x (by simpa using hy) (by simpa using hx)
   ·rw[flatMap_cons,flatMap_cons];exact Tr.all_append hz2 l3
   ·rw[map_cons,map_cons,l4,hn];rfl
theorem Jq:∀(ts:List Tr) (l:List Val),(∀t∈ts,t.args.length<=2)->(ts.map λ t=>t.args.length).sum<=l.length->mm (ts.map λ t=>t.args.length) l=fw ts l
 | [],l,_,_=>rfl
 | t::ts,l,h,hl=>by
   rw[map_cons] at hl ⊢;rw[sum_cons] at hl;unfold mm fw;rw[Jq ts (l.drop t.args.length) (λ u hu=>h u (mem_cons_of_mem _ hu)) (by rw[length_drop];omega)];congr 1;have h2:=h t (mem_cons_self ..);generalize t.args.length=n at*;unfold ld
   match n,h2 with
   | 0,_=>simp
   | 1,_=>
     match l,hl with
     | [],hl=>simp at hl
     | a::l,_=>simp
   | 2,_=>
     match l,hl with
     | [],hl=>simp at hl
     | [a],hl=>simp at hl;omega
     | a::b::l,_=>simp
theorem CM{i:Nat} {a:α}(h:l[i]?=some a):l.set i a=l:=by
 apply ext_getElem?;intro j;rw[getElem?_set];split
 ·subst_vars;split
  ·exact h.symm
  ·rename_i hn;rw[getElem?_eq_none Tq]
 ·rfl
variable{t':TypeId}{cs':Array Value}
theorem aid{g:Nat}  (h:aB w g t cs)(h':aB w g t' cs'):t=t':=by have e1:w.heap[g]?=some (.cells cs t (0,0)):=h;have e2:w.heap[g]?=some (.cells cs' t' (0,0)):=h';rw[e1] at e2;injection e2 with e2;injection e2
theorem CN:∀l:List Nat,Mo l=l.sum
 | []=>rfl
 | n::l=>by unfold Mo;rw[CN l,sum_cons]
theorem CO:∀(ts:List Tr) (l:List Val),(fw ts l).length=ts.length
 | [],_=>rfl
 | t::ts,l=>by unfold fw;simp[CO ts]
structure gH where
 g:Nat
 KA:Option Addr
 kc:Nat
 key:List Val
 sv:Value
 qs:List Nat
 ss:List St
structure bM (w:World) (A:Option Addr) (l:List Val):Prop where
 rv:RV w w.heap.size A l
 ty:∀a,A=some a->∃cur,aB w a.block 44 cur
variable{A:Option Addr}
theorem bM.keep{l:List Val}(h:bM w A l)(hs:w.heap.size<=w'.heap.size)(hk:∀b cur,aB w b 44 cur->w'.heap[b]?=w.heap[b]?):bM w' A l:=by
 refine⟨?_,λ a ha=>?_⟩
 ·rcases h.rv with h0 |⟨b,off,rfl,hb,hc⟩
  ·exact .inl h0
  ·obtain⟨cur,xZ⟩:=h.ty _ rfl;refine .inr ⟨b,off,rfl,Nat.lt_of_lt_of_le hb hs,λ i x hx=>(hc i x hx).keep λ o=>bH (hk b cur xZ) o⟩
 ·obtain⟨cur,xZ⟩:=h.ty a ha;exact⟨cur,(hk _ cur xZ).trans xZ⟩
variable{B:Nat}
theorem bM.off{l:List Val} {qs:List Nat} {ss:List St}(h:bM w A l)(hs:dG w B qs ss):∀a,A=some a->a.block∉qs:=λ a ha=>by obtain⟨cur,xZ⟩:=h.ty a ha;exact hs.tQ xZ WC
theorem Jr{base:Nat}  {l:List Val}(h:aH aV 44 3 w base v l):∃A c,v=.slice A l.length c/\l.length<=c/\bM w A l:=by
 obtain⟨A0,c0,e0,_,hle,_⟩:=h.reads;obtain⟨A,c,rfl,hr⟩:=Hw h;injection e0 with e1 e2 e3;refine⟨A,c,rfl,by rw[e3];exact hle,hr,λ a ha=>?_⟩;have qK:(Value.slice A l.length c).ownBlock=some a.block:=by rw[fC,ha];rfl
 obtain⟨_,_,cur,hc⟩:=h.lt qK;exact⟨cur,hc⟩
structure gH.At (w:World) (B:Nat) (x:gH):Prop where
 blk:aB w x.g 141 #[.slice x.KA x.key.length x.kc,x.sv]
 low:B<=x.g
 own:aH df 145 1 w B x.sv x.qs
 qz:dG w B x.qs x.ss
 key:bM w x.KA x.key
theorem gH.At.keep{x:gH}(h:x.At w B)(hs:w.heap.size<=w'.heap.size)(hk:∀b t cs,aB w b t cs->(t=141\/t=145\/t=44\/t=199/\b∈x.qs)->w'.heap[b]?=w.heap[b]?):x.At w' B:=by
 refine⟨(hk _ _ _ h.blk (.inl rfl)).trans h.blk,h.low,h.own.keep λ g hg=>?_,h.qz.keep hs λ q hq=>?_,h.key.keep hs λ b cur hb=>hk b _ cur hb (.inr (.inr (.inl rfl)))⟩
 ·obtain⟨_,_,cur,hc⟩:=h.own.lt hg;exact hk g _ cur hc (.inr (.inl rfl))
 ·obtain⟨i,hi,he⟩:=getElem_of_mem hq;have h1:=h.qz.at_ i q (x.ss[i]'(by rw[<- h.qz.len];exact hi)) Taw (getElem?_eq_getElem _);exact hk q _ _ h1 (.inr (.inr (.inr ⟨rfl,hq⟩)))
structure kz (w:World) (B:Nat) (xs:List gH):Prop where
 at_:∀x∈xs,x.At w B
 apart:(xs.map gH.qs).Pairwise λ a b=>∀q∈a,q∉b
theorem kz.nil:kz w B []:=⟨λ x h=> Taa,List.Pairwise.nil⟩
variable{xs:List gH}
theorem kz.later(h:kz w B xs)(hb:aj w w'):kz w' B xs:=
 ⟨λ x hx=>(h.at_ x hx).keep hb.size λ b t cs hc _=>hb.block b hc.lt,h.apart⟩
theorem kz.grown{g:Nat}   (h:kz w B xs)(hg:w.grownBy w' (some g))(hc:aB w g t cs)(h1:t≠141)(h2:t≠145)(h3:t≠44)(h4:t≠199):kz w' B xs:=
 ⟨λ x hx=>(h.at_ x hx).keep hg.size λ b t' cs' hc' ho=>hg.block b hc'.lt λ e=>by
   injection e with e
   rw[e] at hc'
   have e2:=aid hc hc'
   rw[<- e2] at ho
   rcases ho with ho | ho | ho |⟨ho,_⟩
   ·exact h1 ho
   ·exact h2 ho
   ·exact h3 ho
   ·exact h4 ho,h.apart⟩
theorem kz.own{size base:Nat}     (h:kz w B xs)(ho:aH f e size w base v l)(hg:w.grownBy w' v.ownBlock)(h1:e≠141)(h2:e≠145)(h3:e≠44)(h4:e≠199):kz w' B xs:=by
 cases hv:v.ownBlock with
 | none=>rw[hv] at hg;exact h.later (pB hg)
 | some g=>rw[hv] at hg;obtain⟨_,_,cur,hc⟩:=ho.lt hv;exact h.grown hg hc h1 h2 h3 h4
variable{k:Nat}
theorem kz.feed{x:gH} {ss:List St}(h:kz w B xs)(hx:xs[k]?=some x)(ht:pC w w' x.qs)(hs:dG w' B x.qs ss):kz w' B (xs.set k { x with ss:=ss }):=by
 have hk:k < xs.length:=by
  rcases Nat.lt_or_ge k xs.length with h | h
  ·exact h
  ·rw[getElem?_eq_none h] at hx;cases hx
 have I5:xs[k]=x:=by rw[getElem?_eq_getElem hk] at hx;injection hx
 have Qq:=mem_of_getElem? hx
 have hap:(xs.set k { x with ss:=ss }).map gH.qs=xs.map gH.qs:=by
  rw[map_set];have:(xs.map gH.qs)[k]?=some x.qs:=by rw[getElem?_map,hx];rfl
  exact CM this
 refine⟨λ y hy=>?_,by rw[hap];exact h.apart⟩;obtain⟨i,hi,he⟩:=getElem_of_mem hy;have Gr:i < xs.length:=by simpa using hi
 rw[getElem_set] at he;by_cases hik:k=i
 ·rw[if_pos hik] at he;subst he;have hA:=h.at_ x Qq;have hb:∀b t cs,aB w b t cs->t≠199->w'.heap[b]?=w.heap[b]?:=λ b t cs hc hn=>ht.block b hc.lt (hA.qz.tQ hc hn)
  refine⟨(hb _ _ _ hA.blk WC).trans hA.blk,hA.low,hA.own.keep λ g hg=>?_,hs,hA.key.keep ht.size λ b cur hc=>hb b _ cur hc WC⟩;obtain⟨_,_,cur,hc⟩:=hA.own.lt hg;exact hb g _ cur hc WC
 ·rw[if_neg hik] at he;subst he;have hA:=h.at_ xs[i] (getElem_mem Gr);refine hA.keep ht.size λ b t cs hc ho=>ht.block b hc.lt λ hm=>?_
  rcases ho with ho | ho | ho |⟨ho,hm2⟩
  ·exact Zgi
  ·exact Zgi
  ·exact Zgi
  ·have hp:=h.apart;rw[pairwise_iff_getElem] at hp;rcases Nat.lt_or_gt_of_ne hik with h1 | h1
   ·have:=hp k i Ta1 (by simpa using Gr) h1;simp only[getElem_map,I5] at this;exact this b hm hm2
   ·have:=hp i k (by simpa using Gr) Ta1 h1;simp only[getElem_map,I5] at this;exact this b hm2 hm
theorem kz.insert{x:gH}(h:kz w B xs)(hx:x.At w B)(hn:∀y∈xs,∀q∈y.qs,q∉x.qs):kz w B (xs.take k++x::xs.drop k):=by
 have hp:(xs.take k++x::xs.drop k).Perm (x::xs):=by have:=perm_middle (a:=x) (l₁:=xs.take k) (l₂:=xs.drop k);rwa [take_append_drop] at this
 refine⟨λ y hy=>?_,?_⟩
 ·rcases List.mem_cons.1 (hp.mem_iff.1 hy)with rfl | h1
  ·exact hx
  ·exact h.at_ y h1
 ·refine((hp.map gH.qs).pairwise_iff (λ {a b} hab q hq lq=>hab q lq hq)).2 ?_;rw[map_cons,pairwise_cons];refine⟨λ b hb q hq=>?_,h.apart⟩;obtain⟨y,hy,rfl⟩:=List.mem_map.1 hb;exact λ hm=>hn y hy q hm hq
theorem EG (gx:Nat)(A:Option Addr)(c:Nat)(args:List (Ex×Bool))(w:World)(hl:args.length<=1599289640356)(hA:RE w w.heap.size A (args.map (·.1)))(hE:∀a∈args,∀W,aj w W->ar 151 #[.agg (ay a.1),aw gx] W λ e w'=>e=.returned (.bool a.2)/\aj W w'):
  ar 150 #[.slice A args.length c,.func (.func 151) #[] #[.pointer (some ⟨gx,0,none⟩)]] w λ e w'=>e=.returned (.int .i64 (fT (args.map (·.2))))/\aj w w':=by exact ZaP
theorem Js (gx:Nat)(y x:Ex)(b:Bool)(w:World)(hg:aB w gx 46 (bF x).toArray)(h:mO w y x b):
  ar 151 #[.agg (ay y),aw gx] w λ e w'=>e=.returned (.bool b)/\aj w w':=by
 have hgx:=hg.lt;have bb:=ah w (.cells (ay y) 46);have hR:=aB.new w 46 (ay y);have HX:=hg.later bb;unfold bF at HX;have hs:=h _ bb;have zN:=aa bb;have HS:=aa hs;have Qr:=aa hgx;clear hs h bb hg hgx;go_enter Tryz.func151,Tryz.ntmps151;go_upto_region 1 with fail;have jq:=λ i=>HX.cell i
 have xT:=λ i=>hR.cell i
 have fx:=HX.frozen;generalize World.alloc w _=W at*;obtain⟨g2,WO⟩:∃g2,g2=w.heap.size:=⟨_,rfl⟩;rw[<- WO] at hR xT ⊢;clear WO hR HX;have y0:=jq 0;have y1:=jq 1;have y2:=jq 2;have y3:=jq 3;have y4:=jq 4;have y5:=jq 5;have y6:=jq 6;have b0:=xT 0;have b1:=xT 1;have b2:=xT 2;have b3:=xT 3;have b4:=xT 4;have b5:=xT 5;have b6:=xT 6;clear jq xT fx;simp only[Uaa] at y0 y1 y2 y3 y4 y5 y6 b0 b1 b2 b3 b4 b5 b6;go_wp2_with fail;refine HS.ae.mono ?_;rintro e w1 ⟨rfl,b1⟩;have hb1:=ai.then zN.ae b1;clear y0 y1 y2 y3 y4 y5 y6 b0 b1 b2 b3 b4 b5 b6;go_wp2_with fail;go_ret;exact⟨rfl,hb1⟩
theorem od(f:α->Bool):∀l:List α,fT (l.map f)=match l.findIdx? f with | some k=>(k:Int)| none=> -1
 | []=>rfl
 | x::l=>by
   rw[map_cons,findIdx?_cons];unfold fT;by_cases h:f x=true
   ·rw[if_pos h,if_pos h];rfl
   ·rw[if_neg h,if_neg h,od f l];cases l.findIdx? f with
    | none=>rfl
    | some k=>show(if (k:Int)< 0 then(-1:Int)else(k:Int)+1)=((k+1:Nat):Int);rw[if_neg Tq];rfl
theorem CP:∀(ts:List Tr) (ys:List Ex) (x:Tr) (z:Ex) (w:World),Tr.cO ts->x.ok->Tr.aO w (Old w) ts ys->x.at_ w (Old w) z->∃args:List (Ex×Bool),args.map (·.1)=ys/\args.map (·.2)=ts.map (λ g=>g.same x)/\∀a∈args,mO w a.1 z a.2
 | [],ys,x,z,w,_,_,hat,_=>by unfold Tr.aO at hat;subst hat;exact⟨[],rfl,rfl,by simp⟩
 | t::ts,ys,x,z,w,aZ,hx,hat,hz=>by
   unfold Tr.aO at hat;unfold Tr.cO at aZ;obtain⟨y,ys',rfl,h2,h3⟩:=hat;obtain⟨l,fq,hl2,ub⟩:=CP ts ys' x z w aZ.2 hx h3 hz;refine⟨(y,t.same x)::l,by simp[fq],by simp[hl2],λ a ha=>?_⟩;rcases List.mem_cons.1 ha with rfl | ha
   ·exact Tr.KO t x y z w aZ.1 hx h2 hz
   ·exact ub a ha
variable{z:Ex}{b:Bool}
theorem mO.later{y:Ex} (h:mO w y z b)(hb:aj w w'):mO w' y z b:=λ W hW=>h W (ai.then hb hW)
theorem lF (aL:List Tr)(A:Option Addr)(n c gx:Nat)(x:Tr)(z:Ex)(w:World)(hl:aL.length<=1599289640356)(hG:gJ w aL A n)(aZ:Tr.cO aL)(hx:x.ok)(hz:x.at_ w (Old w) z)(hg:aB w gx 46 (bF z).toArray):
  ar 150 #[.slice A n c,.func (.func 151) #[] #[.pointer (some ⟨gx,0,none⟩)]] w λ e w'=>e=.returned (.int .i64 (fT (aL.map λ g=>g.same x)))/\aj w w':=by
 obtain⟨rfl,Kx,h1,h2⟩:=hG;obtain⟨ys,a1,a2,a3⟩:=CP aL Kx x z w aZ hx h2 hz;have D9:ys.length=aL.length:=by have:=congrArg List.length a2;simpa using this
 have k:=EG gx A c ys w Tq (by rw[a1];exact h1.old) (λ a ha W hW=>Js gx a.1 z a.2 W (hg.later hW) ((a3 a ha).later hW));rw[D9,a2] at k;exact k
theorem Tr.ind{P:Tr->Prop}(h:∀op v name width args,(∀a∈args,P a)->P (.mk op v name width args)):∀t,P t:=by
 intro t;exact Tr.rec (motive_1:=P) (motive_2:=λ ts=>∀a∈ts,P a) (λ op v name width args ih=>h op v name width args ih) (λ a ha=>by cases ha) (λ t ts h1 h2 a ha=>by
  rcases List.mem_cons.1 ha with rfl | ha
  ·exact h1
  ·exact h2 a ha) t
mutual
def Tr.nodes:Tr->Nat
 | .mk _ _ _ _ args=>Tr.aQ args+1
def Tr.aQ:List Tr->Nat
 | []=>0
 | t::ts=>t.nodes+Tr.aQ ts
end
theorem fV:∀ts:List Tr,Tr.aQ ts=(ts.map Tr.nodes).sum
 | []=>rfl
 | t::ts=>by unfold Tr.aQ;rw[fV ts];rfl
theorem dN:∀ {ts:List Tr},Tr.cO ts↔∀t∈ts,t.ok
 | []=>by unfold Tr.cO;simp
 | t::ts=>by unfold Tr.cO;rw[dN];simp
variable{ts us:List Tr}
theorem mo:Tr.cO (ts++us)↔Tr.cO ts/\Tr.cO us:=by
 rw[dN,dN,dN];constructor
 ·intro h;exact⟨λ t ht=>h t (List.mem_append.2 (.inl ht)),λ t ht=>h t (List.mem_append.2 (.inr ht))⟩
 ·rintro⟨h1,h2⟩ t ht;rcases List.mem_append.1 ht with h | h
  ·exact h1 t h
  ·exact h2 t h
theorem I6 (k:Nat):(Et k).ok:=by unfold Et Tr.ok;refine⟨⟨by decide,by decide⟩,by simp,by decide,by decide,by decide,?_⟩;unfold Tr.cO;trivial
theorem og (aL:List Tr)(cols:List aX)(s:dz):Tr.turns aL cols [] s=.ok ([],s):=by unfold Tr.turns;rfl
theorem jP (aL:List Tr)(cols:List aX)(t:Tr)(ts:List Tr)(s:dz):Tr.turns aL cols (t::ts) s=match Tr.turn aL cols t s with
  | .error e=> .error e
  | .ok (y,s')=>match Tr.turns aL cols ts s' with
    | .error e=> .error e
    | .ok (ys,Lt)=> .ok (y::ys,Lt):=by
 conv=>lhs;unfold Tr.turns
 rfl
theorem yj (aL:List Tr)(cols:List aX):∀(l m:List Tr) (s:dz),Tr.turns aL cols (l++m) s=match Tr.turns aL cols l s with
  | .error e=> .error e
  | .ok (y,s')=>match Tr.turns aL cols m s' with
    | .error e=> .error e
    | .ok (ys,Lt)=> .ok (y++ys,Lt)
 | [],m,s=>by
   rw[nil_append,og];dsimp only;cases Tr.turns aL cols m s with
   | error e=>rfl
   | ok x=>rfl
 | t::l,m,s=>by
   rw[cons_append,jP,jP];cases Tr.turn aL cols t s with
   | error e=>rfl
   | ok x=>
     obtain⟨y,s1⟩:=x;dsimp only;rw[yj aL cols l m s1];cases Tr.turns aL cols l s1 with
     | error e=>rfl
     | ok x=>
       obtain⟨ys,s2⟩:=x;dsimp only;cases Tr.turns aL cols m s2 with
       | error e=>rfl
       | ok x=>rfl
theorem VP (aL:List Tr)(cols:List aX)(t:Tr)(s:dz):Tr.turns aL cols [t] s=match Tr.turn aL cols t s with
  | .error e=> .error e
  | .ok (y,s')=> .ok ([y],s'):=by
 rw[jP]
 cases Tr.turn aL cols t s with
 | error e=>rfl
 | ok x=>obtain⟨y,s1⟩:=x;dsimp only;rw[og]
variable{s s1 s2:dz}
theorem Qs{aL:List Tr} {cols:List aX} {l:List Tr} {t y:Tr}  {ys:List Tr}(h:Tr.turns aL cols l s=.ok (ys,s1))(k:Tr.turn aL cols t s1=.ok (y,s2)):Tr.turns aL cols (l++ [t]) s=.ok (ys++ [y],s2):=by rw[yj,h];dsimp only;rw[VP,k]
variable{m:List Tr}
theorem Qt{aL:List Tr} {cols:List aX} {l:List Tr} {t:Tr}  {ys:List Tr} {e:Int}(h:Tr.turns aL cols l s=.ok (ys,s1))(k:Tr.turn aL cols t s1=.error e):Tr.turns aL cols (l++t::m) s=.error e:=by rw[yj,h];dsimp only;rw[jP,k]
theorem sS{aL:List Tr} {cols:List aX}:∀ {l:List Tr} {s s1:dz} {ys:List Tr},Tr.turns aL cols l s=.ok (ys,s1)->ys.length=l.length
 | [],s,s1,ys,h=>by rw[og] at h;injection h with h;injection h with h1 h2;rw[<- h1]
 | t::l,s,s1,ys,h=>by
   rw[jP] at h;split at h
   ·cases h
   ·split at h
    ·cases h
    ·rename_i h2;injection h with h;injection h with h3 h4;rw[<- h3,length_cons,sS h2];rfl
theorem sT (aL:List Tr)(cols:List aX)(op:Int)(v:Val)(name:ByteArray)(width:Int)(args:List Tr)(s:dz):Tr.turn aL cols (.mk op v name width args) s=match aL.findIdx? (λ g=>g.same (.mk op v name width args))with
  | some k=> .ok (Et k,s)
  | none=>
    if isAgg op=true then
     if (fU cols op args).2≠0 then .error (fU cols op args).2
     else .ok (Et s.aL.length,⟨s.aF++ [.mk op v name width args],s.aL++ [⟨je s.aL.length,(fU cols op args).1⟩]⟩)
    else match Tr.turns aL cols args s with
     | .error e=> .error e
     | .ok (ys,s')=>
       if op=2 then .error (qT cols v name width ys.length)
       else if ((Tr.mk op v name width ys).type s'.aL).2≠0 then .error ((Tr.mk op v name width ys).type s'.aL).2
       else .ok (.mk op v name width ys,s'):=by
 conv=>lhs;unfold Tr.turn
 rfl
theorem I7 (cols:List aX)(v:Val)(name:ByteArray)(width:Int)(n:Nat):qT cols v name width n≠0:=by
 unfold qT;dsimp only;split
 ·assumption
 ·decide
structure Gs (t:Tr) (s:dz) (r:Except Int (Tr×dz)):Prop where
 err:∀e,r=.error e->e≠0
 ok:∀y s',r=.ok (y,s')->t.ok->y.ok
 len:∀y s',r=.ok (y,s')->s'.aL.length+s'.aF.length<=s.aL.length+s.aF.length+2*t.nodes
 aok:∀y s',r=.ok (y,s')->t.ok->Tr.cO s.aF->Tr.cO s'.aF
structure pE (ts:List Tr) (s:dz) (r:Except Int (List Tr×dz)):Prop where
 err:∀e,r=.error e->e≠0
 ok:∀y s',r=.ok (y,s')->Tr.cO ts->Tr.cO y
 len:∀y s',r=.ok (y,s')->s'.aL.length+s'.aF.length<=s.aL.length+s.aF.length+2*Tr.aQ ts
 aok:∀y s',r=.ok (y,s')->Tr.cO ts->Tr.cO s.aF->Tr.cO s'.aF
theorem kB{aL:List Tr} {cols:List aX}:∀ {ts:List Tr},(∀t∈ts,∀s,Gs t s (Tr.turn aL cols t s))->∀s,pE ts s (Tr.turns aL cols ts s)
 | [],_,s=>by rw[og];exact⟨λ e h=> Taa,λ y s' h _=>by injection h with h;injection h with h1 h2;rw[<- h1];unfold Tr.cO;trivial,λ y s' h=>by injection h with h;injection h with h1 h2;rw[<- h2];omega,λ y s' h _ ha=>by injection h with h;injection h with h1 h2;rw[<- h2];exact ha⟩
 | t::ts,H,s=>by
   have h1:=H t Vb s;rw[jP];cases hr:Tr.turn aL cols t s with
   | error e=>rw[hr] at h1;exact⟨λ e' h=>by injection h with h;rw[<- h];exact h1.err _ rfl,λ y s' h=> Taa,λ y s' h=> Taa,λ y s' h=> Taa⟩
   | ok x=>
     obtain⟨y1,s1⟩:=x;rw[hr] at h1;have h2:=kB (λ t ht=>H t (mem_cons_of_mem _ ht)) s1;dsimp only;cases hq:Tr.turns aL cols ts s1 with
     | error e=>rw[hq] at h2;exact⟨λ e' h=>by injection h with h;rw[<- h];exact h2.err _ rfl,λ y s' h=> Taa,λ y s' h=> Taa,λ y s' h=> Taa⟩
     | ok x=>
       obtain⟨ys,s2⟩:=x;rw[hq] at h2;have l1:=h1.len _ _ rfl;have l2:=h2.len _ _ rfl;refine⟨λ e' h=> Taa,λ y s' h aZ=>?_,λ y s' h=>?_,λ y s' h aZ ha=>?_⟩
       ·injection h with h;injection h with e1 e2;rw[<- e1];unfold Tr.cO at aZ ⊢;exact⟨h1.ok _ _ rfl aZ.1,h2.ok _ _ rfl aZ.2⟩
       ·injection h with h;injection h with e1 e2;rw[<- e2];have:Tr.aQ (t::ts)=t.nodes+Tr.aQ ts:=by rw[Tr.aQ]
        omega
       ·injection h with h;injection h with e1 e2;rw[<- e2];unfold Tr.cO at aZ;exact h2.aok _ _ rfl aZ.2 (h1.aok _ _ rfl aZ.1 ha)
theorem iG (aL:List Tr)(cols:List aX):∀(t:Tr) (s:dz),Gs t s (Tr.turn aL cols t s):=by
 refine Tr.ind ?_;intro op v name width args ih s;rw[sT];have hn:(Tr.mk op v name width args).nodes=Tr.aQ args+1:=by rw[Tr.nodes]
 cases hf:aL.findIdx? (λ g=>g.same (.mk op v name width args))with
 | some k=>dsimp only;exact⟨λ e h=> Taa,λ y s' h _=>by injection h with h;injection h with h1 h2;rw[<- h1];exact I6 k,λ y s' h=>by injection h with h;injection h with h1 h2;rw[<- h2];omega,λ y s' h _ ha=>by injection h with h;injection h with h1 h2;rw[<- h2];exact ha⟩
 | none=>
   dsimp only;by_cases ha:isAgg op=true
   ·rw[if_pos ha];by_cases ht:(fU cols op args).2≠0
    ·rw[if_pos ht];exact⟨λ e h=>by injection h with h;rw[<- h];exact ht,λ y s' h=> Taa,λ y s' h=> Taa,λ y s' h=> Taa⟩
    ·rw[if_neg ht];refine⟨λ e h=> Taa,λ y s' h aZ=>?_,λ y s' h=>?_,λ y s' h aZ hao=>?_⟩
     ·injection h with h;injection h with h1 h2;rw[<- h1];exact I6 _
     ·injection h with h;injection h with h1 h2;rw[<- h2];simp only[length_append,length_singleton];omega
     ·injection h with h;injection h with h1 h2;rw[<- h2,mo];refine⟨hao,?_⟩;unfold Tr.cO;refine⟨aZ,?_⟩;unfold Tr.cO;trivial
   ·rw[if_neg ha];have h2:=kB ih s
    cases hq:Tr.turns aL cols args s with
    | error e=>rw[hq] at h2;exact⟨λ e' h=>by injection h with h;rw[<- h];exact h2.err _ rfl,λ y s' h=> Taa,λ y s' h=> Taa,λ y s' h=> Taa⟩
    | ok x=>
      obtain⟨ys,s1⟩:=x;rw[hq] at h2;have hl:=sS hq;have l2:=h2.len _ _ rfl;dsimp only;by_cases ho:op=2
      ·rw[if_pos ho];exact⟨λ e' h=>by injection h with h;rw[<- h];exact I7 _ _ _ _ _,λ y s' h=> Taa,λ y s' h=> Taa,λ y s' h=> Taa⟩
      ·rw[if_neg ho];by_cases ht:((Tr.mk op v name width ys).type s1.aL).2≠0
       ·rw[if_pos ht];exact⟨λ e' h=>by injection h with h;rw[<- h];exact ht,λ y s' h=> Taa,λ y s' h=> Taa,λ y s' h=> Taa⟩
       ·rw[if_neg ht];refine⟨λ e' h=> Taa,λ y s' h aZ=>?_,λ y s' h=>?_,λ y s' h aZ hao=>?_⟩
        ·injection h with h;injection h with h1 h3;rw[<- h1];unfold Tr.ok at aZ ⊢;exact⟨aZ.1,by rw[hl];exact aZ.2.1,aZ.2.2.1,aZ.2.2.2.1,aZ.2.2.2.2.1,h2.ok _ _ rfl aZ.2.2.2.2.2⟩
        ·injection h with h;injection h with h1 h3;rw[<- h3];omega
        ·injection h with h;injection h with h1 h3;rw[<- h3];unfold Tr.ok at aZ;exact h2.aok _ _ rfl aZ.2.2.2.2.2 hao
theorem yl(h:w.grownBy w' (some q))(hB:B<=w.heap.size)(hq:B<=q):Below B w w':=
 ⟨h.os,h.tape,h.output,h.size,λ k hk=>h.block k Tq λ e=>by injection e with e;omega⟩
variable{u:Value}
theorem Mv.later(h:Mv w' u v)(hs:w.heap.size<=w'.heap.size):Mv w u v:=by
 rcases h with h | h
 ·exact .inl h
 ·exact .inr λ q hq=>Nat.le_trans hs (h q hq)
variable{lv:Value}{P:Program}
theorem zdr.KaE(h:p:=by refine⟨v',w',hr,ho,ha,?_⟩;exact ZfK):p:=h
theorem eM{size:Nat} {base:Nat}   {y:α}  (t ty:TypeId)(z:Value)(bytes:Nat)(ht:P.underlying t=some (.slice e))(jr:(P.info? e).map (λ i=>(i.zero,i.size,i.bytes))=some (some z,size,bytes))(hzs:z.cells.size=size)(hsz:0 < size)
  (hf:∀x,(f x).length=size) (h1:∀u∈f y,u.oneCell'=true) (hown:aH f e size w base lv l)
  (g0:Nat) (hg0:aB w g0 e (f y).toArray) (hlen:(l.length+1)*bytes<=140737488355328) (mI:l.length+1<=140737488355328) (hbase:base<=w.heap.size):
  ∃v' w',(Builtin.append_ #[t,t] ty #[lv,aI g0 1 1]).run P w=.ok v' w'/\aH f e size w' base v' (l++ [y])/\AR f e size base lv l y w w'/\Mv w lv v':=by
 open zdr in exact ZbF
structure PC where
 q0:Value
 q1:Value
 q2:Value
 q3:Value
 q5:Value
 q6:Value
 q7:Value
 gA:Option Addr
 gn:Nat
 gc:Nat
 cA:Option Addr
 cc:Nat
 aK:Bool
 aL:List Tr
 cols:List aX
structure Rest where
 h:Value
 i:Value
 j:Value
 o:Value
def PC.cells (c:PC)(r:Rest)(u v:Value):Array Value:= #[c.q0,c.q1,c.q2,c.q3,.slice c.gA c.gn c.gc,c.q5,c.q6,c.q7,.slice c.cA c.cols.length c.cc,u,v,.bool c.aK,r.h,r.i,r.j,r.o]
structure PC.Ok (c:PC) (w0:World):Prop where
 env:zL w0
 aL:gJ w0 c.aL c.gA c.gn
 gok:Tr.cO c.aL
 gl:c.aL.length<=1000000
 cols:RC w0 w0.heap.size c.cA c.cols
 cl:c.cols.length<=1000000
structure eH (c:PC) (w0:World) (gp:Nat) (r:Rest) (w:World) (u v:Value) (ya:List Ex) (s:dz):Prop where
 low:w0.heap.size<=gp
 base:aj w0 w
 blk:aB w gp 81 (c.cells r u v)
 kR:aH bF 46 7 w w0.heap.size u ya
 dK:aH aS 113 2 w w0.heap.size v s.aL
 aF:Tr.aO w0 (Old w0) s.aF ya
section
variable {c:PC} {w0 w w':World} {gp:Nat} {r:Rest} {u v:Value} {ya:List Ex} {s:dz}
theorem eH.later (h:eH c w0 gp r w u v ya s)(hb:aj w w'):eH c w0 gp r w' u v ya s:=
 ⟨h.low,Below.trans h.base (hb.mono h.base.size),h.blk.later hb,h.kR.later hb,h.dK.later hb,h.aF⟩
theorem eH.kp9 (h:eH c w0 gp r w u v ya s):∀q,u.ownBlock=some q->w0.heap.size<=q:=λ q hq=>(h.kR.lt hq).2.1
theorem eH.aul (h:eH c w0 gp r w u v ya s):∀q,v.ownBlock=some q->w0.heap.size<=q:=λ q hq=>(h.dK.lt hq).2.1
theorem eH.fresh (h:eH c w0 gp r w u v ya s) {w2:World} {g:Nat}(hg:w.heap.size<=g)(hg2:g < w2.heap.size):Kp w2 gp [u,v] g:=
 eu.2 ⟨hg2,by have:=h.blk.lt;omega,λ e=>by have:=(h.kR.lt e).1;omega,λ e=>by have:=(h.dK.lt e).1;omega⟩
theorem eH.aside (h:eH c w0 gp r w u v ya s) {q:Nat}(hg:w.grownBy w' (some q))(hq:Kp w gp [u,v] q)(hl:w0.heap.size<=q):eH c w0 gp r w' u v ya s:=by rw[eu] at hq;exact⟨h.low,Below.trans h.base (yl hg h.base.size hl),h.blk.grown hg (λ e=>by injection e with e;exact hq.2.1 e.symm),h.kR.grown hg hq.2.2.1,h.dK.grown hg hq.2.2.2,h.aF⟩
end
def rG (c:PC)(w0:World)(gp:Nat)(r:Rest)(u v:Value)(w:World)(x:Except Int (Tr×dz))(e:Ending)(w':World):Prop:=
 match x with
 | .error er=>∃(y:Ex) (u' v':Value),e=.returned (.tuple #[.agg (ay y),af er])/\gM gp w u v w' u' v'
 | .ok (t,s)=>∃y u' v' ya,e=.returned (.tuple #[.agg (ay y),af 0])/\t.at_ w' (λ b=>w.heap.size<=b/\Kp w' gp [u',v'] b) y/\eH c w0 gp r w' u' v' ya s/\gM gp w u v w' u' v'
def I8 (c:PC)(w0:World)(gp:Nat)(r:Rest)(t:Tr):Prop:=∀(z:Ex) (s:dz) (u v:Value) (ya:List Ex) (w:World),t.ok->t.at_ w0 (Old w0) z->eH c w0 gp r w u v ya s->s.aL.length+s.aF.length+2*t.nodes<=1000000->
 ar 99 #[aw gp,.agg (ay z)] w (rG c w0 gp r u v w (t.turn c.aL c.cols s))
theorem BV (k:Nat)(w:World)(S:Nat->Prop):(Et k).at_ w S (Lm k):=by unfold Et Tr.at_ Lm;exact Zhr
theorem zbL.Kak(h:p:=by
 refine bodyPost_ret (v:=.tuple #[.agg #[ag 2,ag 0,af 0,au,.string nm,af 0,az],af 0]) Tad rfl ?_;refine⟨⟨2,⟨0,0,⟨#[]⟩⟩,nm,0,none,0,0⟩,u,v,ya,rfl,by rw[SV.ae];exact BV k _ _,?_,?_⟩
 ·exact pF.ae.later hb9
 ·exact(gM.refl gp w u v).later hb9):p:=h
theorem zcu.Kat(h:p:=by
 have Qh:=aa My;obtain⟨nm,iZ⟩:∃nm,nm=je k:=⟨_,rfl⟩;rw[<- iZ];have SV:=aa iZ;clear iZ My;go_wp2_with fail;clear y0 y1 y2 y3 y4 y5 y6 Gu;generalize uD:World.setCell _ _ _=W9;have hR:aB W9 g4 46 #[ag 2,ag 0,af 0,au,.string nm,af 0,az]:=by rw[<- uD];simpa using(((((((Qh.ae.aT 0 _).aT 1 _).aT 2 _).aT 3 _).aT 4 _).aT 5 _).aT 6 _)
 have hb9:aj w W9:=by rw[<- uD];exact((((((((tD.ae).setCell (p:=⟨g4,0,none⟩) mE.ae _).setCell (p:=⟨g4,1,none⟩) mE.ae _).setCell (p:=⟨g4,2,none⟩) mE.ae _).setCell (p:=⟨g4,3,none⟩) mE.ae _).setCell (p:=⟨g4,4,none⟩) mE.ae _).setCell (p:=⟨g4,5,none⟩) mE.ae _).setCell (p:=⟨g4,6,none⟩) mE.ae _)
 open zbL in exact ZaE):p:=h
theorem za3.Kac(h:p:=by have OC:=oX k Tq Tq;have eL:=aa hb1;have CS:=aa (sR.ae.later hb1);have My:=uX.ae.later hb1;have aum:=aa (iV.ae.env.later CS.ae.base);clear c4 c8 c10 hb1 HX hf;go_wp2_with fail;refine(OC w1 aum.ae).mono ?_;rintro e w2 ⟨rfl,hb2⟩;have tD:=aa (ai.then zN.ae (ai.then eL.ae hb2));have uC:=aa (CS.ae.later hb2);replace My:=My.later hb2;have hz4:=My.lt;clear hb2 OC;unfold mz Lm;have Gu:=My.frozen;open zcu in exact Za9):p:=h
theorem Qv (c:PC)(w0:World)(gp:Nat)(r:Rest)(t:Tr)(z:Ex)(s:dz)(u v:Value)(ya:List Ex)(w:World)(k:Nat)(hf:c.aL.findIdx? (λ g=>g.same t)=some k)(aZ:c.Ok w0)(fW:t.ok)(hat:t.at_ w0 (Old w0) z)(oa:eH c w0 gp r w u v ya s):
  ar 99 #[aw gp,.agg (ay z)] w (rG c w0 gp r u v w (.ok (Et k,s))):=by
 have Ak:k < c.aL.length:=by obtain⟨h,_⟩:=List.findIdx?_eq_some_iff_getElem.1 hf;exact h
 have zE:k<=1000000:=by have:=aZ.gl;omega
 open za3 in exact Zat
theorem zbM.Kak(h:p:=by refine bodyPost_ret (v:=.tuple #[.agg dm,af er]) Tad rfl ?_;exact⟨⟨0,⟨0,0,⟨#[]⟩⟩,⟨#[]⟩,0,none,0,0⟩,u,v,rfl,(gM.refl gp w u v).later hb9⟩):p:=h
theorem zeR.Ka4(h:p:=by
 have hb9:aj w W9:=by rw[<- uD];exact((((((((tD.ae).setCell (p:=⟨g4,0,none⟩) mE.ae _).setCell (p:=⟨g4,1,none⟩) mE.ae _).setCell (p:=⟨g4,2,none⟩) mE.ae _).setCell (p:=⟨g4,3,none⟩) mE.ae _).setCell (p:=⟨g4,4,none⟩) mE.ae _).setCell (p:=⟨g4,5,none⟩) mE.ae _).setCell (p:=⟨g4,6,none⟩) mE.ae _)
 open zbM in exact ZaE):p:=h
theorem zgQ.KbN(h:p:=by have Qh:=aa My;clear My;open zeR in exact ZcO):p:=h
theorem zcs.Kas(h:p:=by
 have t1:(er != 0)=true:=by simp[her]
 have Gu:=My.frozen;open zgQ in exact ZeE):p:=h
theorem za4.Kac(h:p:=by open zcs in exact Za8):p:=h
theorem Ju (c:PC)(w0:World)(gp:Nat)(r:Rest)(t:Tr)(z:Ex)(s:dz)(u v:Value)(ya:List Ex)(w:World)(hf:c.aL.findIdx? (λ g=>g.same t)=none)(ha:isAgg t.op=true)(ty er:Int)(ht:fU c.cols t.op t.args=(ty,er))(her:er≠0)(aZ:c.Ok w0)(fW:t.ok)(hat:t.at_ w0 (Old w0) z)(oa:eH c w0 gp r w u v ya s):
  ar 99 #[aw gp,.agg (ay z)] w (rG c w0 gp r u v w (.error er)):=by
 open za4 in exact Zat
theorem wD(w:World)(g q:Nat)(t ty:TypeId)(cur cells:Array Value)(hg:w.heap[g]?=some (.cells cur t (0,0)))(hi:(P.info? ty).map (·.size)=some cells.size)
  (pD:q+cells.size<=cur.size) (h1:cells.all (·.oneCell')=true):
  (storeVar ty ⟨g,q,none⟩ (.agg cells)).run P w=.ok () (w.setRow g (cur.toList.take q++cells.toList++cur.toList.drop (q+cells.size)).toArray):=by
 have:=run_storeCells_at P g q t cells.toList 0 cur w hg (by simpa using pD) (λ v hv=>(Array.all_eq_true_iff_forall_mem.1 h1) v (by simpa using hv));simp only[Nat.add_zero,Array.length_toList] at this
 cases hq:P.info? ty with
 | none=>simp[hq] at hi
 | some i=>
   have hs:cells.size=i.size:=by simp[hq] at hi;omega
   simp[storeVar,sizeOf,typeInfo,hq,Value.cells,hs] at this ⊢;rw[this]
theorem aH.block{size base:Nat}   (h:aH f e size w base v l)(hne:l≠ []):∃g c,v=aI g l.length c/\base<=g/\g < w.heap.size:=by
 rcases h.2 with ⟨_,h0⟩|⟨g,cap,cur,rfl,hb,hg,_⟩
 ·exact absurd (eq_nil_of_length_eq_zero h0) hne
 ·exact⟨g,cap,rfl,hb,(h.lt rfl).1⟩
theorem Gv{size:Nat}(hf:∀x,(f x).length=size):∀m:List α,(m.flatMap f).length=m.length*size:=by
 intro m
 induction m with
 | nil=>simp
 | cons x m ih=>rw[flatMap_cons,length_append,hf,ih,length_cons,Nat.add_mul,Nat.one_mul];omega
theorem Mz{size:Nat}(hf:∀x,(f x).length=size)(y:α):∀(l:List α) (i:Nat),i < l.length->(l.set i y).flatMap f=(l.flatMap f).take (i*size)++f y++(l.flatMap f).drop (i*size+size):=by
 intro l
 induction l with
 | nil=>intro i hi;simp at hi
 | cons x l ih=>
   intro i hi
   cases i with
   | zero=>simp only[set_cons_zero,flatMap_cons,Nat.zero_mul,take_zero,nil_append,Nat.zero_add];rw[drop_append_of_le_length (by rw[hf];exact Nat.le_refl _),<- hf x,drop_length,nil_append]
   | succ i=>
     simp only[set_cons_succ,flatMap_cons];rw[ih i Tau];have e1:(i+1)*size=(f x).length+i*size:=by rw[hf,Nat.add_mul,Nat.one_mul];omega
     rw[e1,take_length_add_append,Nat.add_assoc,drop_length_add_append];simp[append_assoc]
variable{ops:Array Oper}{rest:List Oper}{a:Act}{Q:Exit->Act->World->Prop}
theorem zeo.KaU(h:p:=by
 unfold Oper.wp execOp;simp only[ho,hp,hx,Instr.storeAt,Instr.sureAddr,Sem.run_bind,Sem.run_pure,Result.andThen_ok,hrun];refine hK _ _ (h _ ⟨?_,.inr ⟨q,c,_,?_,hb,setRow_heap w q cur _ e (0,0) hg,?_,hm,?_,?_⟩⟩ ⟨rfl,rfl,rfl,by simp[World.setRow],λ k hk hne=>setRow_other w q k _ (λ e=>hne Ta9)⟩)
 ·rw[Gv hf]
 ·rw[e2,length_set]
 ·rw[length_set];exact hn
 ·rw[<- hs];simp[hf];omega
 ·exact ZbI):p:=h
theorem oh{size base:Nat}   {y:α}    {o:Oper}  (hgd:o.guard=none)(ty:TypeId)(p x:Operand)(ho:o.op=.store ty p x)
  (q n c i:Nat) (hf:∀x,(f x).length=size) (hown:aH f e size w base (aI q n c) l) (rW:i < l.length) (hp:a.eval p=ba q (i*size)) (hx:a.eval x=.agg (f y).toArray)
  (hi:(P.info? ty).map (·.size)=some size) (h1:(f y).toArray.all (·.oneCell')=true)
  (h:∀w',aH f e size w' base (aI q n c) (l.set i y)->w.grownBy w' (some q)->wpList P ops Q rest (a.put o.dst undef) w'):wpList P ops Q (o::rest) a w:=by
 refine wpList_plain hgd λ K hK=>?_
 rcases hown.2 with ⟨hv,_⟩|⟨g,cap,cur,hv,hb,hg,hn,hm,hs,ht⟩
 ·cases hv
 ·open zeo in exact Zcs
theorem wE{size base:Nat}   {z y:α}    {o:Oper}  (hgd:o.guard=none)(ty:TypeId)(p x:Operand)(ho:o.op=.store ty p x)
  (q n c:Nat) (hf:∀x,(f x).length=size) (hown:aH f e size w base (aI q n c) (l++ [z])) (hp:a.eval p=ba q (l.length*size)) (hx:a.eval x=.agg (f y).toArray)
  (hi:(P.info? ty).map (·.size)=some size) (h1:(f y).toArray.all (·.oneCell')=true)
  (h:∀w',aH f e size w' base (aI q n c) (l++ [y])->w.grownBy w' (some q)->wpList P ops Q rest (a.put o.dst undef) w'):wpList P ops Q (o::rest) a w:=by
 refine oh hgd ty p x ho q n c l.length hf hown Vb hp hx hi h1 λ w' h1 h2=>h w' ?_ h2
 exact ZgV
section
variable {c:PC} {w0 w w':World} {gp:Nat} {r:Rest} {u v u' v':Value} {ya:List Ex} {s:dz}
theorem eH.anL (h:eH c w0 gp r w u v ya s)(hg:w.grownBy w' u.ownBlock):aj w0 w':=
 Below.trans h.base (bj h.kR hg h.base.size)
theorem eH.afI (h:eH c w0 gp r w u v ya s)(hg:w.grownBy w' v.ownBlock):aj w0 w':=
 Below.trans h.base (bj h.dK hg h.base.size)
theorem dB {α:Type} {f:α->List Value} {e:TypeId} {size base:Nat} {l:List α} {x:Value} {q:Nat} {t:TypeId} {cs:Array Value}(hq:aB w q t cs)(h:aH f e size w base x l)(ht:t≠e)(hg:w.grownBy w' x.ownBlock):aB w' q t cs:=hq.grown hg λ e=>h.other hq ht e.symm
theorem eH.anM (h:eH c w0 gp r w u v ya s) {t:Tr} {z:Ex}(ho:aH bF 46 7 w' w0.heap.size u' (ya++ [z]))(hg:w.grownBy w' u.ownBlock)(ht:t.at_ w0 (Old w0) z):
  eH c w0 gp r (w'.setCell ⟨gp,9,none⟩ u') u' v (ya++ [z]) ⟨s.aF++ [t],s.aL⟩:=by
 have hb:=dB h.blk h.kR WC hg;refine⟨h.low,(h.anL hg).setCell h.low _,hb.aT 9 u',ho.keep λ g hg2=>?_,(h.dK.past h.kR WC hg).keep λ g hg2=>?_,Tr.all_append h.aF (Tr.fO ht)⟩
 ·exact Below.heap_setCell w' ⟨gp,9,none⟩ u' g λ e=>ho.other hb WC Taf
 ·exact Below.heap_setCell w' ⟨gp,9,none⟩ u' g λ e=>(h.dK.past h.kR WC hg).other hb WC Taf
theorem eH.Qw (h:eH c w0 gp r w u v ya s) {x:aX}(ho:aH aS 113 2 w' w0.heap.size v' (s.aL++ [x]))(hg:w.grownBy w' v.ownBlock):
  eH c w0 gp r (w'.setCell ⟨gp,10,none⟩ v') u v' ya ⟨s.aF,s.aL++ [x]⟩:=by
 have hb:=dB h.blk h.dK WC hg;refine⟨h.low,(h.afI hg).setCell h.low _,hb.aT 10 v',(h.kR.past h.dK WC hg).keep λ g hg2=>?_,ho.keep λ g hg2=>?_,h.aF⟩
 ·exact Below.heap_setCell w' ⟨gp,10,none⟩ v' g λ e=>(h.kR.past h.dK WC hg).other hb WC Taf
 ·exact Below.heap_setCell w' ⟨gp,10,none⟩ v' g λ e=>ho.other hb WC Taf
theorem gM.anN (hg:w.grownBy w' u.ownBlock)(hm:Mv w u u')(x:Value)(i:Nat):gM gp w u v (w'.setCell ⟨gp,i,none⟩ x) u' v:=
 ⟨hg.os,hg.tape,hg.output,by rw[World.size_setCell];exact hg.size,λ k hk=>(Below.heap_setCell w' ⟨gp,i,none⟩ x k (eu.1 hk).2.1).trans (hg.block k hk.1 λ e=>(eu.1 hk).2.2.1 e.symm),hm,.inl rfl⟩
theorem gM.I9 (hg:w.grownBy w' v.ownBlock)(hm:Mv w v v')(x:Value)(i:Nat):gM gp w u v (w'.setCell ⟨gp,i,none⟩ x) u v':=
 ⟨hg.os,hg.tape,hg.output,by rw[World.size_setCell];exact hg.size,λ k hk=>(Below.heap_setCell w' ⟨gp,i,none⟩ x k (eu.1 hk).2.1).trans (hg.block k hk.1 λ e=>(eu.1 hk).2.2.2 e.symm),.inl rfl,hm⟩
theorem gM.in9 {q:Nat}(hg:w.grownBy w' (some q))(hq:u.ownBlock=some q):gM gp w u v w' u v:=
 ⟨hg.os,hg.tape,hg.output,hg.size,λ k hk=>hg.block k hk.1 λ e=>(eu.1 hk).2.2.1 (hq.trans e.symm),.inl rfl,.inl rfl⟩
end
def aie (gp B:Nat)(w1:World)(u:Value)(l:List Ex)(z:Ex):Nat->World->Value->Prop
 | 0,_,v=>v=aw gp
 | 1,_,v=>v=aw gp
 | 2,_,v=>v=aw gp
 | 3,_,v=>v=ba gp 9
 | 4,_,v=>v=u
 | 5,_,v=>v=.agg (ay z)
 | 6,w,v=>∃q:Nat,v=aI q 1 1/\aB w q 46 (bF z).toArray/\u.ownBlock≠some q
 | 7,w,v=>∃q:Value,v=q/\aH bF 46 7 w B q (l++ [z])/\Mv w1 u q
 | 8,_,v=>v=aw gp
 | 9,_,v=>v=ba gp 9
 | _,_,_=>False
theorem Qx (gp B:Nat)(w1:World)(u:Value)(l:List Ex)(z:Ex):∀i w w' v,aie gp B w1 u l z i w v->AR bF 46 7 B u l z w w'->aie gp B w1 u l z i w' v:=by
 intro i w w' v h hl
 match i with
 | 0 | 1 | 2 | 3 | 4 | 5 | 8 | 9=>exact h
 | 6=>exact ZeC
 | 7=>exact ZfM
 | n+10=>exact h
def acV (gp g9 B:Nat)(w1:World)(vv:Value)(l:List aX)(nm:ByteArray)(ty:Int):Nat->World->Value->Prop
 | 0,_,v=>v=aw gp
 | 1,_,v=>v=aw gp
 | 2,_,v=>v=aw gp
 | 3,_,v=>v=ba gp 10
 | 4,_,v=>v=vv
 | 5,_,v=>v=ba g9 4
 | 6,_,v=>v=.string nm
 | 7,_,v=>v=ag ty
 | 8,_,v=>v=.agg #[.string nm,ag ty]
 | 9,w,v=>∃q:Nat,v=aI q 1 1/\aB w q 113 (aS ⟨nm,ty⟩).toArray/\vv.ownBlock≠some q
 | 10,w,v=>∃q:Value,v=q/\aH aS 113 2 w B q (l++ [⟨nm,ty⟩])/\Mv w1 vv q
 | 11,_,v=>v=aw gp
 | 12,_,v=>v=ba gp 10
 | _,_,_=>False
theorem CU (gp g9 B:Nat)(w1:World)(vv:Value)(l:List aX)(nm:ByteArray)(ty:Int):∀i w w' x,acV gp g9 B w1 vv l nm ty i w x->AR aS 113 2 B vv l ⟨nm,ty⟩ w w'->acV gp g9 B w1 vv l nm ty i w' x:=by
 intro i w w' x h hl
 match i with
 | 0 | 1 | 2 | 3 | 4 | 5 | 6 | 7 | 8 | 11 | 12=>exact h
 | 9=>exact ZeC
 | 10=>exact ZfM
 | n+13=>exact h
def wF:Ex:=⟨0,⟨0,0,⟨#[]⟩⟩,⟨#[]⟩,0,none,0,0⟩
theorem zct.Kas(h:p:=by
 have hy6:=My;have Cu:=aa My;clear My hy6 ht;obtain⟨UA,uc,hu,_⟩:=Mx.ae.kR.reads;obtain⟨VA,vc,hv,_⟩:=Mx.ae.dK.reads;have Aa:=aa (show ya.length=s.aF.length from Mx.ae.aF.length);subst hu hv;go_wp2_with fail;go_region
 ·generalize hW8:World.drew _=W8;have b7:aj w3 W8:=by rw[<- hW8];exact((Below.refl _ _).alloc (Nat.le_refl _) _).drew
  clear hW8;have pG:=aa (Mx.ae.later b7);have MO:=aa (Eg.ae.later b7);have MP:=aa (Cu.ae.later b7);have Gw:=aa (ai.then tD.ae b7);clear b7 Mx Eg Cu tD;have hk3:=pF.ae.fresh (w2:=W8) Jt.ae MO.ae.lt;have hk4:=pF.ae.fresh (w2:=W8) mE.ae MP.ae.lt;have Ea:=aa (eu.1 hk3);have CV:=aa (eu.1 hk4);clear hk3 hk4;go_wp2_with fail;refine fu _ _ (take_append_drop 10 _).symm (AR bF 46 7 w0.heap.size (Value.slice UA ya.length uc) ya z) AR.refl (λ _ _ _=>AR.trans) AR.drew (aie gp w0.heap.size W8 (Value.slice UA ya.length uc) ya z) (λ i w w' x h hr=>Qx _ _ _ _ _ _ _ _ _ _ h hr) T8 T8 T8 ?_ ?_
  ·simp only[take_succ_cons,take_zero];refine⟨ZaU,ZaU,ZaU,Zd2,?_,?_,?_,?_,ZaU,Zd2,trivial⟩
   ·intro ρ w3 hc hL hr;have h0:_=_:=hr.1;have jV:=dB pG.ae.blk pG.ae.kR WC hL.grown;unfold PC.cells at jV;have c9:=jV.cell 9;simp only[Uaa] at c9;exact aq (w':=w3) (by simp[go_sem,h0,c9];done) ⟨AR.refl _,rfl⟩
   ·intro ρ w3 hc hL hr;have h0:_=_:=hr.1;have VX:=MO.ae.grown hL.grown (Ne.symm Ea.ae.2.2.1);have z0:=VX.cell 0;have z1:=VX.cell 1;have x2:=VX.cell 2;have x3:=VX.cell 3;have x4:=VX.cell 4;have x5:=VX.cell 5;have x6:=VX.cell 6;simp only[Uaa] at z0 z1 x2 x3 x4 x5 x6;exact aq (w':=w3) (by simp[go_sem,h0,z0,z1,x2,x3,x4,x5,x6];done) ⟨AR.refl _,rfl⟩
   ·intro ρ w3 hc hL hr;have h0:_=_:=hr.1;refine aq (v:=.slice (some ⟨w3.heap.size,0,none⟩) 1 1) (w':=w3.alloc (.cells (ay z) 46)) Tan ⟨AR.later (ah w3 _),⟨_,rfl,aB.new w3 _ _,λ e=>?_⟩⟩;have:=((hL.old pG.ae.kR).lt e).1;omega
   ·intro ρ w3 hc hL hr;have h0:_=_:=hr.1;obtain⟨q1,h1,uE,Jv⟩:∃q:Nat,ρ (.tmp 60)=.slice (some ⟨q,0,none⟩) 1 1/\aB w3 q 46 (bF z).toArray/\(Value.slice UA ya.length uc).ownBlock≠some q:=hr.2.1;obtain⟨v',w',hrun,ho,yF,Ew⟩:=eM (P:=Tryz.prog) (w:=w3) 23 23 _ 88 Tryz.underlying23 fL rfl Tq (λ _=>rfl) TaB (hL.old pG.ae.kR) q1 uE Tar Tar (Nat.le_trans pG.ae.base.size hL.grown.size);exact ZbP
  intro W3 hL;simp only[Uab];rintro a0 - a1 - a2 - a3 - a4 - a5 - a6 - a7 ⟨q_7,rfl,U6,agv⟩ a8 - _ rfl;simp only[bD,Act.put,Uac];obtain⟨A4,QB,hv4,_⟩:=U6.reads;rw[length_append,length_singleton] at hv4;subst hv4;have O4:=aa U6;have HM4:=aa agv;have J4:=aa hL.grown;have jV:=dB pG.ae.blk pG.ae.kR WC hL.grown;have f9:=jV.frozen 9;unfold PC.cells at jV;have c9:=jV.cell 9;simp only[Uaa] at c9;clear U6 agv jV hL;go_upto_region 12 with fail;clear f9 c9;have CW:=aa (pG.ae.anM O4.ae J4.ae CQ.ae);have Qz:=aa ((gM.refl gp W8 (Value.slice UA ya.length uc) (Value.slice VA s.aL.length vc)).trans (gM.anN (gp:=gp) (v:=Value.slice VA s.aL.length vc) J4.ae HM4.ae (Value.slice A4 (ya.length+1) QB) 9));have HZA:=aa ((MP.ae.grown J4.ae (Ne.symm CV.ae.2.2.1)).far (p:=⟨gp,9,none⟩) CV.ae.2.1 (Value.slice A4 (ya.length+1) QB));clear pG MO MP O4 HM4 J4;generalize World.setCell W3 _ _=WA at*;obtain⟨UX,hUX⟩:∃UX,UX=Value.slice A4 (ya.length+1) QB:=⟨_,rfl⟩;rw[<- hUX] at CW Qz;clear hUX;exact Zac
 ·generalize hW8:World.drew _=W8;have b7:aj w3 W8:=by rw[<- hW8];exact((Below.refl _ _).alloc (Nat.le_refl _) _).drew
  clear hW8;have pG:=aa (Mx.ae.later b7);have MO:=aa (Eg.ae.later b7);have MP:=aa (Cu.ae.later b7);have Gw:=aa (ai.then tD.ae b7);clear b7 Mx Eg Cu tD;have hk3:=pF.ae.fresh (w2:=W8) Jt.ae MO.ae.lt;have hk4:=pF.ae.fresh (w2:=W8) mE.ae MP.ae.lt;have Ea:=aa (eu.1 hk3);have CV:=aa (eu.1 hk4);clear hk3 hk4;have J6:=aa (ah W8 (.cells dm 46));have gX:=pG.ae.blk;unfold PC.cells at gX;have c9:=gX.cell 9;simp only[Uaa] at c9;clear gX;go_upto_region 10 with (first
   |(at_builtin
     refine mZ (l:=ya) (y:=wF) rfl (.tmp 46) (.tmp 48) 23 rfl _ 88 Tryz.underlying23 fL rfl Tq rfl (by simp[bF,wF,Value.oneCell']) rfl (pG.ae.kR.later J6.ae) W8.heap.size rfl (aB.new W8 _ _) Tar Tar (Nat.le_trans pG.ae.base.size J6.ae.size) ?_
     intro v4 w4 LT gr4 m4
     obtain⟨q4,Kx,Ly,hq4,aur⟩:=LT.block Vb
     rw[length_append,length_singleton] at Ly
     subst Ly
     have CY:=aa (pG.ae.later J6.ae)
     have hb4:=dB CY.ae.blk CY.ae.kR WC gr4
     have f4:=hb4.frozen 9
     unfold PC.cells at hb4
     have cc9:=hb4.cell 9
     simp only[Uaa] at cc9
     have LE:=aa LT
     have G4:=aa (show(W8.alloc (.cells dm 46)).grownBy w4 (Value.slice UA ya.length uc).ownBlock from gr4)
     have M4:=aa (show Mv (W8.alloc (.cells dm 46)) (Value.slice UA ya.length uc) (Value.slice (some ⟨q4,0,none⟩) (ya.length+1) Kx)from m4)
     clear LT gr4 m4 hb4))
  clear cc9 f4 c9;have anS:=gM.anN (gp:=gp) (v:=Value.slice VA s.aL.length vc) G4.ae M4.ae (Value.slice (some ⟨q4,0,none⟩) (ya.length+1) Kx) 9;have anT:=aa (((gM.refl gp W8 (Value.slice UA ya.length uc) (Value.slice VA s.aL.length vc)).later J6.ae).trans anS);have vd:=aa ((CY.ae.anL G4.ae).setCell CY.ae.low (p:=⟨gp,9,none⟩) (Value.slice (some ⟨q4,0,none⟩) (ya.length+1) Kx));have hb4:=dB CY.ae.blk CY.ae.kR WC G4.ae;have anU:=aa (show aB (w4.setCell ⟨gp,9,none⟩ (Value.slice (some ⟨q4,0,none⟩) (ya.length+1) Kx)) gp 81 (c.cells r (Value.slice (some ⟨q4,0,none⟩) (ya.length+1) Kx) (Value.slice VA s.aL.length vc))from hb4.aT 9 _);have HO5:=aa (LE.ae.keep λ g hg2=>Below.heap_setCell w4 ⟨gp,9,none⟩ (Value.slice (some ⟨q4,0,none⟩) (ya.length+1) Kx) g λ e=>LE.ae.other hb4 WC Taf);have HV5:=aa ((CY.ae.dK.past CY.ae.kR WC G4.ae).keep λ g hg2=>Below.heap_setCell w4 ⟨gp,9,none⟩ (Value.slice (some ⟨q4,0,none⟩) (ya.length+1) Kx) g λ e=>(CY.ae.dK.past CY.ae.kR WC G4.ae).other hb4 WC Taf);have AB:=aa (((MO.ae.later J6.ae).grown G4.ae (Ne.symm Ea.ae.2.2.1)).far (p:=⟨gp,9,none⟩) Ea.ae.2.1 (Value.slice (some ⟨q4,0,none⟩) (ya.length+1) Kx));have HZ5:=aa (((MP.ae.later J6.ae).grown G4.ae (Ne.symm CV.ae.2.2.1)).far (p:=⟨gp,9,none⟩) CV.ae.2.1 (Value.slice (some ⟨q4,0,none⟩) (ya.length+1) Kx));have MC:=aa pG.ae.aF;have um:=aa pG.ae.low;have aik:=aa (show q4≠g4/\q4≠gp from⟨λ e=>by
   rcases M4.ae with h | h
   ·exact CV.ae.2.2.1 (by rw[<- h,e];rfl)
   ·have h1:=h q4 rfl
    have h2:=CV.ae.1
    have h3:=J6.ae.size
    omega,λ e=>LE.ae.other hb4 WC (by rw[e];rfl)⟩)
  clear anS hb4 CY pG MO MP LE G4 M4 hq4 aur;generalize World.setCell w4 _ _=w5 at*;have k1:=AB.ae;have z0:=k1.cell 0;have z1:=k1.cell 1;have x2:=k1.cell 2;have x3:=k1.cell 3;have x4:=k1.cell 4;have x5:=k1.cell 5;have x6:=k1.cell 6
  simp only[Uaa] at z0 z1 x2 x3 x4 x5 x6;clear k1;go_upto_region 12 with (first
   |(refine wE rfl 46 (.tmp 53) (.tmp 52) rfl q4 (ya.length+1) Kx (f:=bF) (y:=z) (l:=ya) (λ _=>rfl) HO5.ae rfl rfl T8 TaB ?_
     intro w6 ho6 rH
     have HO6:=aa ho6
     have xe:=aa rH
     clear ho6 rH))
  clear z0 z1 x2 x3 x4 x5 x6;have CW:=aa (show eH c w0 gp r w6 (Value.slice (some ⟨q4,0,none⟩) (ya.length+1) Kx) (Value.slice VA s.aL.length vc) (ya++ [z]) ⟨s.aF++ [t],s.aL⟩from
   ⟨um.ae,Below.trans vd.ae (yl xe.ae vd.ae.size (HO6.ae.lt rfl).2.1),anU.ae.grown xe.ae (λ e=>by injection e with e;exact aik.ae.2 e.symm),HO6.ae,HV5.ae.grown xe.ae (λ e=>by
     obtain⟨_,_,cu,h1⟩:=HV5.ae.lt e
     obtain⟨_,_,cu2,h2⟩:=HO5.ae.lt (g:=q4) rfl
     rw[h1] at h2
     injection h2 with h2
     injection h2 with _ h2 _
     exact absurd h2 WC),Tr.all_append MC.ae (Tr.fO CQ.ae)⟩)
  have Qz:=aa (anT.ae.trans (gM.in9 (gp:=gp) (u:=Value.slice (some ⟨q4,0,none⟩) (ya.length+1) Kx) (v:=Value.slice VA s.aL.length vc) xe.ae rfl));have HZA:=aa (HZ5.ae.grown xe.ae (λ e=>by injection e with e;exact aik.ae.1 e.symm));clear anT xe HO6 HO5 HV5 AB HZ5 anU vd MC um aik;generalize w6=WA at*;obtain⟨A4,hv4⟩:∃A4,A4=Value.slice (some ⟨q4,0,none⟩) (ya.length+1) Kx:=⟨_,rfl⟩;rw[<- hv4] at CW Qz;clear hv4;exact Zac):p:=h
theorem za5.Kac(h:p:=by open zct in exact Za8):p:=h
theorem MA (c:PC)(w0:World)(gp:Nat)(r:Rest)(t:Tr)(z:Ex)(s:dz)(u v:Value)(ya:List Ex)(w:World)(hf:c.aL.findIdx? (λ g=>g.same t)=none)(ha:isAgg t.op=true)(ty:Int)(ht:fU c.cols t.op t.args=(ty,0))(hlen:s.aL.length+s.aF.length<=999998)(aZ:c.Ok w0)(fW:t.ok)(hat:t.at_ w0 (Old w0) z)(oa:eH c w0 gp r w u v ya s):
  ar 99 #[.pointer (some ⟨gp,0,none⟩),.agg (ay z)] w (rG c w0 gp r u v w (.ok (Et s.aL.length,⟨s.aF++ [t],s.aL++ [⟨je s.aL.length,ty⟩]⟩))):=by
 open za5 in exact Zat
def Gy (gp k:Nat)(CA:Option Addr)(cn cc:Nat)(ty er:Int)(y:Ex):Nat->World->Value->Prop
 | 0,_,v=>v=.agg (ay y)
 | 1,_,v=>v=aw gp
 | 2,_,v=>v=aw gp
 | 3,_,v=>v=ba gp k
 | 4,_,v=>v=.slice CA cn cc
 | 5,_,v=>v=.tuple #[ag ty,af er]
 | 6,_,v=>v=.tuple #[ag ty,af er]
 | 7,_,v=>v=ag ty
 | 8,_,v=>v=af er
 | 9,_,v=>v=ag ty
 | 10,_,v=>v=af er
 | _,_,_=>False
theorem nd (gp k:Nat)(CA:Option Addr)(cn cc:Nat)(ty er:Int)(y:Ex):∀i w w' v,Gy gp k CA cn cc ty er y i w v->ai w w'->Gy gp k CA cn cc ty er y i w' v:=by exact Zds
def MD:Ex:=⟨1,⟨0,0,⟨#[]⟩⟩,⟨#[]⟩,0,none,0,0⟩
theorem IQ (w:World)(S:Nat->Prop):(Tr.mk 1 aN ByteArray.empty 0 []).at_ w S MD:=by unfold Tr.at_ MD;exact Zhr
theorem Ts (w:World)(S:Nat->Prop):∀n,Tr.aO w S (List.replicate n (.mk 1 aN ByteArray.empty 0 [])) (List.replicate n MD)
 | 0=>by unfold List.replicate Tr.aO;rfl
 | n+1=>by rw[replicate_succ,replicate_succ];unfold Tr.aO;exact⟨_,_,rfl,IQ w S,Ts w S n⟩
theorem Tt:∀n,Tr.cO (List.replicate n (.mk 1 aN ByteArray.empty 0 []))
 | 0=>by unfold List.replicate Tr.cO;trivial
 | n+1=>by rw[replicate_succ];unfold Tr.cO;refine⟨?_,Tt n⟩;unfold Tr.ok;refine⟨⟨by decide,by decide⟩,by simp,by decide,by decide,by decide,?_⟩;unfold Tr.cO;trivial
variable{ys:List Ex}
theorem pH{base:Nat}  (h:aH bF 46 7 w base v ys) (hS:∀q,v.ownBlock=some q->S q):∃A c,v=.slice A ys.length c/\ys.length<=c/\Yw w S A ys:=by
 obtain⟨A0,c0,e0,_,hle,_⟩:=h.reads;obtain⟨A,c,rfl,h1⟩:=eh (f:=bF) (size:=7) (λ _=>rfl) h;injection e0 with _ _ e0;refine⟨A,c,rfl,by rw[e0];exact hle,?_⟩;rcases h1 with h1 |⟨g,h1,h2,h3⟩
 ·exact .inl h1
 ·refine .inr ⟨g,0,h1,hS g (by rw[h1];rfl),λ i x hx=>?_⟩;have k:=λ j u hj hu=>h3 i x j u hx hj hu
  unfold ck;simp only[Nat.zero_add];exact⟨by simpa using k 0 _ Tq rfl,k 1 _ Tq rfl,k 2 _ Tq rfl,k 3 _ Tq rfl,k 4 _ Tq rfl,k 5 _ Tq rfl,k 6 _ Tq rfl⟩
theorem zgz.KbI(h:p:=by
 have xU:=aa hR;have GZ:=aa WO;clear hR WO xT;go_wp2_with fail;clear z6;go_loopw [5,11] (λ _ i wr=>∃(k:Nat) (zs:List Ex),k<=n/\i=af k/\zs.length=n/\zs.take k=List.replicate k MD/\aH bF 46 7 wr base (.slice A n c) zs/\W.grownBy wr (Value.slice A n c).ownBlock) (λ _ i _=>n - (intOf i).toNat);case atStart=>exact⟨0,ys,Nat.zero_le _,rfl,HN.ae.symm,rfl,HO.ae,World.grownBy.refl W _⟩
 case round=>
  obtain⟨k,zs,hk,rfl,hzl,Gz,ho,hg⟩:=hrel;have XS:=aa Gz;have oC:=aa hzl;have Lw:=aa ho;have KK:=aa hg;clear Gz ho hg hzl;have hx:=aa (xU.ae.grown KK.ae (Ne.symm aut.ae));by_cases hlt:k < n
  ·obtain⟨q,c2,Az,hbq,Tf⟩:=Lw.ae.block (λ e=>by have:=oC.ae;rw[e] at this;simp at this;omega);injection Az with hA Um hc2;subst hA;have z6:=hx.ae.cell 6;simp only[Uaa] at z6;clear hc2 Um hbq Tf UL;go_wp2_with (first
    |(refine oh rfl 46 (.tmp 18) (.tmp 17) rfl q n c k (f:=bF) (y:=MD) (λ _=>rfl) Lw.ae (by rw[oC.ae];exact hlt) rfl rfl T8 (by simp[bF,MD,Value.oneCell']) ?_
      intro w4 ho4 hg4
      have HO4:=aa ho4
      have Kg:=aa hg4
      clear ho4 hg4))
   go_roundw;case rel=>refine⟨k+1,zs.set k MD,hlt,by go_num,by rw[length_set];exact oC.ae,?_,HO4.ae,aY KK.ae Kg.ae⟩;have h1:=oC.ae;rw[take_add_one,take_set_of_le (Nat.le_refl _),XS.ae,getElem?_set_self Tq,replicate_succ'];rfl
   case measure=>exact Za2
  ·have fJ:k=n:=by omega
   subst fJ;have hzz:zs=List.replicate k MD:=by have:=XS.ae;rwa [take_of_length_le (by rw[oC.ae];exact Nat.le_refl _)] at this
   subst hzz;obtain⟨y,hy⟩:∃y:Ex,y=⟨2,v,name,width,A,k,c⟩:=⟨_,rfl⟩;have HX:=aa (show aB wr g2 46 (ay y) by rw[hy];exact hx.ae);have afP:wr.heap[gp]?=W.heap[gp]?:=KK.ae.block gp Kd.ae (Ne.symm nJ.ae);have NS:=aa ((bH afP 8).trans UL.ae);have QD:=aa (Nat.lt_of_lt_of_le Kd.ae KK.ae.size)
   have hC6:RC wr wr.heap.size CA cols:=by
    by_cases hc0:cols=[]
    ·exact .inl hc0
    rcases HC.ae with Kx |⟨b,off,h1,h2,h3⟩
    ·exact .inl Kx
    ·refine .inr ⟨b,off,h1,Nat.lt_of_lt_of_le h2 KK.ae.size,λ i x hx=>(h3 i x hx).keep λ o=>bH (KK.ae.block b h2 (Ne.symm (Eb.ae hc0 _ h1))) o⟩
   obtain⟨A2,c2,Ar,_,hres⟩:=pH Lw.ae (S:=Old wr) (λ q hq=>(Lw.ae.lt hq).1);injection Ar with e1 e2 e3;subst e1 e3;clear e2;have kH:=HN.ae;have hat:(Tr.mk 2 v name width (List.replicate k (.mk 1 aN ByteArray.empty 0 []))).at_ wr (Old wr) y:=by unfold Tr.at_;rw[hy];exact⟨rfl,rfl,rfl,rfl,by simp,_,hres,Ts _ _ _⟩
   have Ob:=iV.ae;rw[<- kH] at Ob;have xd:=aa (Tr.oP (cols:=cols) (CA:=CA) (cc:=cc) Tq _ y wr Ob hat hC6);have QF:=aa kH;have xp:qT cols v name width k=if ((Tr.mk 2 v name width (List.replicate k (.mk 1 aN ByteArray.empty 0 []))).type cols).2≠0 then((Tr.mk 2 v name width (List.replicate k (.mk 1 aN ByteArray.empty 0 []))).type cols).2 else 42:=rfl;generalize (Tr.mk 2 v name width (List.replicate k (.mk 1 aN ByteArray.empty 0 []))).type cols=r at*;obtain⟨ty,e0⟩:=r;dsimp only at xp xd;have Al:=aa xp;have jN:=aa (Below.trans (zN.ae.mono J7.ae) (bj HO.ae KK.ae afN.ae));clear afP hC6 hres hat Ob xp kH hlt hy hx Lw KK HC UL;go_upto_region 6 with fail;refine bB 11 (Gy gp 8 CA cols.length cc ty e0 y) (nd _ _ _ _ _ _ _ _) T8 T8 T8 ?_ ?_
   ·simp only[take_succ_cons,take_zero];refine⟨ZgY,Zab,Zab,Zab,Zcf,?_,Zab,Zab,Zab,Zab,Zab,trivial⟩
    ·intro ρ w3 hc hL hr;have h0:_=_:=hr.1;have h1:_=_:=hr.2.1;have e1:=hc.func 59;refine bw (f:=59) (args:= #[.agg (ay y),.slice CA cols.length cc]) (w':=w3) Tao ?_;exact Zf3
   intro W3 hL;simp only[Uab];rintro a0 - a1 - a2 - a3 - a4 - a5 - a6 - a7 - a8 - _ rfl _ rfl;simp only[bD,Act.put,Uac];have HBX:=aa (jN.ae.trans (hL.mono (Nat.le_trans J7.ae jN.ae.size)));clear hL jN HX NS xd;by_cases h:e0=0
   ·subst h;go_wp2_with fail;go_ret;exact⟨by rw[Al.ae];rfl,HBX.ae⟩
   ·have t1:(e0 != 0)=true:=by simp[h]
    have H:=aa h;clear h;go_wp2_with fail;go_ret;exact⟨by rw[Al.ae,if_pos H.ae];rfl,HBX.ae⟩):p:=h
theorem QC (gp:Nat)(v:Val)(name:ByteArray)(width:Int)(ys:List Ex)(av:Value)(base:Nat)(cols:List aX)(CA:Option Addr)(cc:Nat)(w:World)
  (aZ:(Tr.mk 2 v name width (List.replicate ys.length (.mk 1 aN ByteArray.empty 0 []))).ok) (hn:ys.length<=1000000) (hO:aH bF 46 7 w base av ys) (sB:gp < w.heap.size) (Zo:w.cell? ⟨gp,8,none⟩=some (.slice CA cols.length cc)) (hC:RC w w.heap.size CA cols) (bU:cols.length<=1000000) (hne:av.ownBlock≠some gp) (hCA:cols≠ []->∀a,CA=some a->av.ownBlock≠some a.block) (hbase:base<=w.heap.size):
  ar 154 #[aw gp,.agg #[ag 2,ag v.k,af v.n,.string v.s,.string name,af width,av]] w λ e w'=>e=.returned (af (qT cols v name width ys.length))/\Below base w w':=by
 obtain⟨A,c,rfl,hle,_⟩:=pH hO (S:=λ _=>True) (λ _ _=>trivial);have hR:=aB.new w 46 #[ag 2,ag v.k,af v.n,.string v.s,.string name,af width,.slice A ys.length c];have bb:=ah w (.cells #[ag 2,ag v.k,af v.n,.string v.s,.string name,af width,.slice A ys.length c] 46);have HO:=aa (hO.later bb);have UL:=aa ((bb.cell (p:=⟨gp,8,none⟩) sB).trans Zo);have HC:=aa (hC.later bb);have Kd:=aa (Nat.lt_of_lt_of_le sB bb.size);have zN:=aa bb;have iV:=aa aZ;have nJ:=aa hne;have Eb:=aa hCA;have afN:=aa (Nat.le_trans hbase bb.size);have J7:=aa hbase;have xT:(Value.slice A ys.length c).ownBlock≠some w.heap.size:=λ e=>by have:=(hO.lt e).1;omega
 obtain⟨n,ug⟩:∃n,n=ys.length:=⟨_,rfl⟩;have HN:=aa ug;rw[<- ug] at hn hle hR xT nJ Eb HO UL HC Kd zN afN ⊢;clear hO Zo hC sB bb aZ hne hCA hbase ug;go_enter Tryz.func154,Tryz.ntmps154;go_upto_region 1 with fail;generalize World.alloc w _=W at*;obtain⟨g2,WO⟩:∃g2,g2=w.heap.size:=⟨_,rfl⟩;rw[<- WO] at hR xT ⊢;have aut:=aa xT;open zgz in exact Zev
variable{gp:Nat}
theorem Kp.size{b:Nat} {us:List Value}(h:Kp w gp us b)(hs:w.heap.size<=w'.heap.size):Kp w' gp us b:=⟨Nat.lt_of_lt_of_le h.1 hs,h.2⟩
variable{w1 w2:World}{u1 v1:Value}
theorem gM.below(h:gM gp w u v w1 u1 v1)(hb:Below B w1 w2)(hB:w.heap.size<=B):gM gp w u v w2 u1 v1:=
 ⟨hb.os.trans h.os,hb.tape.trans h.tape,hb.output.trans h.output,Nat.le_trans h.size hb.size,λ k hk=>(hb.block k (Nat.lt_of_lt_of_le hk.1 hB)).trans (h.block k hk),h.mu,h.mv⟩
structure CZ (c:PC) (w0:World) (gp:Nat) (r:Rest) (w:World) (u0 v0:Value) (g3 g4 g10 B1:Nat) (z:Ex) (wr:World) (a u v:Value) (ys ya:List Ex) (ts:List Tr) (s:dz):Prop where
 ps:eH c w0 gp r wr u v ya s
 stp:gM gp w u0 v0 wr u v
 x:aB wr g3 46 (ay z)
 res:aB wr g4 46 dm
 y:aB wr g10 46 #[ag z.op,ag z.v.k,af z.v.n,.string z.v.s,.string z.name,af z.width,a]
 k3:Kp wr gp [u,v] g3
 k4:Kp wr gp [u,v] g4
 k10:Kp wr gp [u,v] g10
 own:aH bF 46 7 wr B1 a ys
 ka:∀q,a.ownBlock=some q->Kp wr gp [u,v] q
 trees:Tr.aO wr (λ b=>(B1<=b/\a.ownBlock≠some b)/\Kp wr gp [u,v] b) ts ys
 size:B1<=wr.heap.size
 low:w.heap.size<=g3/\g3 < g4/\g4 < g10/\g10 < B1
 base:w0.heap.size<=w.heap.size
variable{S':Nat->Prop}
theorem Tr.ym(hk:∀b,S b->(∀o,w'.cell? ⟨b,o,none⟩=w.cell? ⟨b,o,none⟩)/\S' b)(h:Tr.aO w S ts ys):Tr.aO w' S' ts ys:=Tr.aO.keep hk ts ys h
section
variable {c:PC} {w0 w wr w':World} {gp g3 g4 g10 B1:Nat} {r:Rest} {u0 v0 a u v a' u' v':Value} {z:Ex} {ys ya pZ:List Ex} {ts:List Tr} {s s':dz}
theorem CZ.call (h:CZ c w0 gp r w u0 v0 g3 g4 g10 B1 z wr a u v ys ya ts s)(hs:gM gp wr u v w' u' v')(hp:eH c w0 gp r w' u' v' pZ s'):CZ c w0 gp r w u0 v0 g3 g4 g10 B1 z w' a u' v' ys pZ ts s':=
 ⟨hp,h.stp.trans hs,hs.blk h.x h.k3,hs.blk h.res h.k4,hs.blk h.y h.k10,hs.kp h.k3,hs.kp h.k4,hs.kp h.k10,hs.atZ h.own h.ka,λ q hq=>hs.kp (h.ka q hq),hs.trees h.trees,Nat.le_trans h.size hs.size,h.low,h.base⟩
theorem CZ.later (h:CZ c w0 gp r w u0 v0 g3 g4 g10 B1 z wr a u v ys ya ts s)(hb:aj wr w'):CZ c w0 gp r w u0 v0 g3 g4 g10 B1 z w' a u v ys ya ts s:=
 h.call ((gM.refl gp wr u v).later hb) (h.ps.later hb)
theorem eH.ail (h:eH c w0 gp r w u v ya s) {o:Option Nat}(hg:w.grownBy w' o)(hq:∀q,o=some q->Kp w gp [u,v] q/\w0.heap.size<=q):eH c w0 gp r w' u v ya s:=by
 cases o with
 | none=>exact h.later (pB hg)
 | some q=>exact h.aside hg (hq q rfl).1 (hq q rfl).2
theorem CZ.push (h:CZ c w0 gp r w u0 v0 g3 g4 g10 B1 z wr a u v ys ya ts s) {t:Tr} {y:Ex}(hy:t.at_ wr (λ b=>(B1<=b/\a.ownBlock≠some b)/\Kp wr gp [u,v] b) y)
  (ho:aH bF 46 7 w' B1 a' (ys++ [y])) (hg:wr.grownBy w' a.ownBlock) (hm:Mv wr a a'):
  CZ c w0 gp r w u0 v0 g3 g4 g10 B1 z (w'.setCell ⟨g10,6,none⟩ a') a' u v (ys++ [y]) ya (ts++ [t]) s:=by
 have hl:=h.low;have hab:∀q,a.ownBlock=some q->B1<=q:=λ q hq=>(h.own.lt hq).2.1
 have Ot:∀q,a'.ownBlock=some q->B1<=q:=λ q hq=>(ho.lt hq).2.1
 have oa:eH c w0 gp r w' u v ya s:=h.ps.ail hg λ q hq=>⟨h.ka q hq,by have:=hab q hq;have:=h.base;omega⟩
 have hx:=h.x.grown hg (λ e=>by have:=hab g3 e.symm;omega);have hr:=h.res.grown hg (λ e=>by have:=hab g4 e.symm;omega);have Jw:=h.y.grown hg (λ e=>by have:=hab g10 e.symm;omega);have k3:=h.k3.size hg.size;have k4:=h.k4.size hg.size;have k10:=h.k10.size hg.size
 have ka:∀q,a'.ownBlock=some q->Kp w' gp [u,v] q:=λ q hq=>by
  rcases hm with hm | hm
  ·exact(h.ka q (by rw[<- hm];exact hq)).size hg.size
  ·exact h.ps.fresh (hm q hq) (ho.lt hq).1
 have htr:Tr.aO w' (λ b=>(B1<=b/\a'.ownBlock≠some b)/\Kp w' gp [u,v] b) (ts++ [t]) (ys++ [y]):=by refine Tr.ym ?_ (Tr.all_append h.trees (Tr.fO hy));rintro b ⟨⟨h1,h2⟩,h3⟩;exact⟨λ o=>bH (hg.block b h3.1 (Ne.symm h2)) o,⟨h1,hm.ne h3.1 h2⟩,h3.size hg.size⟩
 have pT:w'.grownBy (w'.setCell ⟨g10,6,none⟩ a') (some g10):=aC (aR (Below.refl _ _)) _ _;refine⟨oa.aside pT k10 (by have:=h.base;omega),?_,hx.far (p:=⟨g10,6,none⟩) (by show g3≠g10;omega) _,hr.far (p:=⟨g10,6,none⟩) (by show g4≠g10;omega) _,by simpa using Jw.aT 6 a',k3.size pT.size,k4.size pT.size,k10.size pT.size,ho.keep λ q hq=>Below.heap_setCell w' ⟨g10,6,none⟩ a' q (λ e=>by have:=Ot q hq;have e2:q=g10:=e;omega),λ q hq=>(ka q hq).size pT.size,?_,Nat.le_trans h.size (Nat.le_trans hg.size pT.size),hl,h.base⟩
 ·exact(h.stp.atY hg λ q hq=>by have:=hab q hq;omega).own pT Tq
 ·refine Tr.ym ?_ htr;rintro b ⟨⟨h1,h2⟩,h3⟩;exact⟨λ o=>bH (Below.heap_setCell w' ⟨g10,6,none⟩ a' b (λ e=>by have e2:b=g10:=e;omega)) o,⟨h1,h2⟩,h3.size pT.size⟩
end
variable{c:Nat}
theorem J8{base:Nat}   {l:List aX}(h:aH aS 113 2 w base (.slice A l.length c) l):RC w w.heap.size A l:=by
 obtain⟨A2,c2,hv,h1⟩:=eh (f:=aS) (size:=2) (λ _=>rfl) h;injection hv with e1 e2 e3;subst e1;rcases h1 with h1 |⟨g,h1,h2,h3⟩
 ·exact .inl h1
 ·refine .inr ⟨g,0,h1,h2,λ i x hx=>?_⟩;have k:=λ j u hj hu=>h3 i x j u hx hj hu
  unfold mL;simp only[Nat.zero_add];exact⟨by simpa using k 0 _ Tq rfl,k 1 _ Tq rfl⟩
theorem pI:∀ {ts:List Tr} {ys:List Ex} {k:Nat} (h:k < ts.length),Tr.aO w S ts ys->∃y,ys[k]?=some y/\ts[k].at_ w S y
 | t::ts,ys,0,h,ha=>by unfold Tr.aO at ha;obtain⟨y,ys',rfl,h1,h2⟩:=ha;exact⟨y,rfl,h1⟩
 | t::ts,ys,k+1,h,ha=>by unfold Tr.aO at ha;obtain⟨y,ys',rfl,h1,h2⟩:=ha;obtain⟨x,hx,hx2⟩:=pI (k:=k) Tah h2;exact⟨x,by simpa using hx,hx2⟩
theorem zbN.Kak(h:p:=by refine bodyPost_ret (v:=.tuple #[.agg dm,af er]) Tad rfl ?_;exact Zf0):p:=h
theorem zbO.Kak(h:p:=by refine bodyPost_ret (v:=.tuple #[.agg dm,af al]) Tad rfl ?_;exact Zf0):p:=h
theorem zbP.Kak(h:p:=by
 refine bodyPost_ret (v:=.tuple #[.agg (ay Kx),af er]) Tad rfl ?_;by_cases her:er=0
 ·subst her;have MH:=uW.ae;rw[if_neg WC] at MH;rw[MH];have h4:=Ad.ae.k4;refine⟨Kx,u1,_,Jy,rfl,?_,Ad.ae.ps.aside kK h4 (by have:=Ad.ae.base;have:=mE.ae;omega),Ad.ae.stp.own kK mE.ae⟩;have hl:=Ad.ae.low;exact Tr.at_.keep (λ b LT=>⟨λ o=>bH (kK.block b LT.2.1 (λ e=>by injection e with e;have:=LT.1;omega)) o,by have:=LT.1;omega,LT.2.size kK.size⟩) _ Kx auD.ae
 ·have MH:=uW.ae;rw[if_pos her] at MH;rw[MH];exact⟨Kx,_,_,rfl,Ad.ae.stp.own kK mE.ae⟩):p:=h
theorem zeS.Ka4(h:p:=by
 have kK:WD.grownBy W9 (some g4):=by rw[<- uD];exact aC (aC (aC (aC (aC (aC (aC (aR (Below.refl _ _)) _ _) _ _) _ _) _ _) _ _) _ _) _ _
 open zbN in exact ZaE):p:=h
theorem zcv.Kat(h:p:=by have Qh:=aa My;clear LE My bg aoa;go_upto_region 21 with fail;generalize w6.alloc (.cells (ay Kx) 46)=WD at*;open zeS in exact ZcO):p:=h
theorem zeT.Ka4(h:p:=by
 have kK:w7.grownBy W9 (some g4):=by rw[<- uD];exact aC (aC (aC (aC (aC (aC (aC (aR (Below.refl _ _)) _ _) _ _) _ _) _ _) _ _) _ _) _ _
 open zbO in exact ZaE):p:=h
theorem zcw.Kat(h:p:=by
 have Qh:=aa My;clear My NR gX c8 lT hz2;have xg:X=.error (qT c.cols z.v z.name z.width ys.length):=by have h1:=xO.ae;rw[if_pos Hx.ae] at h1;have h2:=HZE.ae;have h3:=HE4.ae;have h4:=Aa.ae;rw[h1,h2.2.1,h2.2.2,h3,h4]
 have uW:=aa xg;clear xg;obtain⟨al,xp⟩:∃al,al=qT c.cols z.v z.name z.width ys.length:=⟨_,rfl⟩;rw[<- xp] at uW ⊢;clear xp;open zeT in exact ZcO):p:=h
theorem zcx.Kat(h:p:=by
 clear Jw My;go_wp2_with fail;clear z0 z1 x2 x3 x4 x5 x6 y0 y1 y2 y3 y4 y5 y6 Gu;generalize uD:World.setCell _ _ _=W9;have hR:aB W9 g4 46 (ay Kx):=by rw[<- uD];simpa using(((((((Ad.ae.res.aT 0 _).aT 1 _).aT 2 _).aT 3 _).aT 4 _).aT 5 _).aT 6 _)
 have kK:W3.grownBy W9 (some g4):=by rw[<- uD];exact aC (aC (aC (aC (aC (aC (aC (aR (Below.refl _ _)) _ _) _ _) _ _) _ _) _ _) _ _) _ _
 open zbP in exact ZaE):p:=h
theorem zgo.KbF(h:p:=by have My:=Ad.ae.res;have Gu:=My.frozen;open zcx in exact Za9):p:=h
theorem zej.KaS(h:p:=by have auD:=aa (((gM.refl gp wr u1 (.slice VA s1.aL.length vc)).later hL).tree aoe.ae);clear hL Wc HP aoe NS xd jM afT;open zgo in exact Zer):p:=h
theorem zdL.KaJ(h:p:=by
 have hz:=at_root CQ.ae;rw[HHT.ae] at hz;have HZE:=aa (show z.op=op/\z.v=xv/\z.name=name from hz);clear hz;go_upto_region 16 with fail;have VU:=aB.new w2 46 (ay z);have J9:=ah w2 (.cells (ay z) 46);generalize w2.alloc (.cells (ay z) 46)=NT at*;obtain⟨g10,afR⟩:∃g10,g10=w2.heap.size:=⟨_,rfl⟩;rw[<- afR] at VU ⊢;have Ab:=aa (show g3 < g4/\g4 < g10/\g10 < NT.heap.size from⟨by have:=HI.ae;have:=Kg.ae;omega,by have:=XP.ae.lt;omega,VU.lt⟩);have afS:=aa (uC.ae.later J9);have ain:=aa (AB.ae.later J9);have anY:=aa (XP.ae.later J9);have tG:=aa (ai.then fG.ae J9);have EH:=aa VU;have hc6:=VU.cell 6;have hf6:=VU.frozen 6;simp only[Uaa] at hc6;have hx6:=ain.ae.cell 6;simp only[Uaa] at hx6;clear z0 z1 x2 x3 x4 x5 x6 VU J9 afR uC AB XP fG;go_upto_region 17 with fail;have pT:NT.grownBy (NT.setCell ⟨g10,6,none⟩ (az)) (some g10):=aC (aR (Below.refl _ _)) _ _;have fJ:=λ g (h1:w.heap.size<=g) (h2:g < NT.heap.size)=>pF.ae.fresh (w2:=NT) h1 h2
 have HP:=aa (show CZ c w0 gp r w u v g3 g4 g10 NT.heap.size z (NT.setCell ⟨g10,6,none⟩ (az)) (az) u v [] ya [] s from
  ⟨afS.ae.aside pT (fJ g10 TaP Ab.ae.2.2) (by have:=pF.ae.base.size;have:=mE.ae;have:=Ab.ae;omega),((gM.refl gp w u v).later tG.ae).own pT TaP,ain.ae.far (p:=⟨g10,6,none⟩) (by show g3≠g10;have:=Ab.ae;omega) _,anY.ae.far (p:=⟨g10,6,none⟩) (by show g4≠g10;have:=Ab.ae;omega) _,by simpa using EH.ae.aT 6 (az),
    (fJ g3 Jt.ae (by have:=Ab.ae;omega)).size pT.size,(fJ g4 mE.ae (by have:=Ab.ae;omega)).size pT.size,(fJ g10 TaP Ab.ae.2.2).size pT.size,aH.nil,λ q hq=>by simp[Value.ownBlock] at hq,by unfold Tr.aO;rfl,pT.size,⟨Jt.ae,Ab.ae⟩,pF.ae.base.size⟩)
 have anZ:=HP.ae.x.cell 6;simp only[Uaa] at anZ;obtain⟨B1,Ku⟩:∃B1,B1=NT.heap.size:=⟨_,rfl⟩;rw[<- Ku] at HP;clear pT fJ afS ain anY tG EH hc6 hf6 hx6 Ku Ab;generalize World.setCell NT _ _=WL at*;have nS:=CQ.ae;rw[HHT.ae] at nS;unfold Tr.at_ at nS;obtain⟨e1,e2,e3,e4,hzn,zs,hzr,hza⟩:=nS;have HE4:=aa e4;clear e1 e2 e3 e4;have HZN:=aa hzn;have HF:=aa hzr;have HZA:=aa hza;clear hzn hzr hza;have aio:=aa (show(Tr.mk op xv name width args).nodes=Tr.aQ args+1 by rw[Tr.nodes])
 have hnz:args.length<=1000000:=by
  have h1:∀l:List Tr,l.length<=Tr.aQ l:=by
   intro l
   induction l with
   | nil=>exact Nat.zero_le _
   | cons t l ih=>
     have h2:1<=t.nodes:=by cases t;rw[Tr.nodes];omega
     rw[Tr.aQ,length_cons];omega
  have:=h1 args;have:=aio.ae;have:=HLEN.ae;omega
 go_wp2_with fail;clear anZ;rw[HZN.ae];go_loopw [89] (λ i wr=>∃(k:Nat) (a u1 v1:Value) (ys Jy:List Ex) (ts:List Tr) (s1:dz),k<=args.length/\i=af k/\Tr.turns c.aL c.cols (args.take k) s=.ok (ts,s1)/\CZ c w0 gp r w u v g3 g4 g10 B1 z wr a u1 v1 ys Jy ts s1) (λ i _=>args.length - (intOf i).toNat);case atStart=>exact⟨0,_,u,v,[],ya,[],s,Nat.zero_le _,rfl,by rw[take_zero,og],HP.ae⟩
 case round=>
  clear HP;obtain⟨k,a,u1,v1,ys,Jy,ts,s1,hk,rfl,hturn,htu⟩:=hrel;have HT:=aa hturn;have HP:=aa htu;clear hturn htu;by_cases hlt:k < args.length
  ·obtain⟨y,hkz,rI⟩:=pI hlt HZA.ae
   obtain⟨b,off,hzA,Cr,hex⟩:∃b off,z.A=some ⟨b,off,none⟩/\b < w0.heap.size/\ck w0 b (off+k*7) y:=by
    rcases HF.ae with h |⟨b,off,h1,h2,h3⟩
    ·rw[h] at hkz;simp at hkz
    ·exact⟨b,off,h1,h2,h3 k y hkz⟩
   have iE:=hex.keep (λ o=>HP.ae.ps.base.cell (p:=⟨b,o,none⟩) Cr);unfold ck at iE;have xf:=aa rI;have aBz:=aa hzA;rw[hzA];clear hex hkz rI Cr hzA;go_upto_region 20 with fail;have k1:=aB.new wr 46 (ay y);have ME:=ah wr (.cells (ay y) 46);generalize wr.alloc (.cells (ay y) 46)=W2 at*;have MF:=aa (HP.ae.later ME);clear ME HP iE;generalize wr.heap.size=g12 at*;have z0:=k1.cell 0;have z1:=k1.cell 1;have x2:=k1.cell 2;have x3:=k1.cell 3;have x4:=k1.cell 4;have x5:=k1.cell 5;have x6:=k1.cell 6
   simp only[Uaa] at z0 z1 x2 x3 x4 x5 x6;clear k1;go_wp2_with fail;have Qq:=getElem_mem hlt;have hrun:=HIH.ae args[k] Qq y s1 u1 v1 Jy W2 (by
    have h1:=kE.ae
    rw[HHT.ae] at h1
    unfold Tr.ok at h1
    exact dN.1 h1.2.2.2.2.2 _ Qq) xf.ae MF.ae.ps (by
    have h1:=(kB (λ t _ s=>iG c.aL c.cols t s) s:pE (args.take k) s (Tr.turns c.aL c.cols (args.take k) s))
    have h2:=h1.len _ _ HT.ae
    have h3:=HLEN.ae
    have h4:=aio.ae
    have h5:Tr.aQ (args.take k)+args[k].nodes<=Tr.aQ args:=by
     rw[fV,fV]
     have e:args=args.take k++args[k]::args.drop (k+1):=by rw[<- drop_eq_getElem_cons hlt,take_append_drop]
     conv=>rhs;rw[e]
     rw[map_append,sum_append,map_cons,sum_cons]
     omega
    omega)
   refine hrun.mono ?_;clear hrun;intro e w6 hp;clear z0 z1 x2 x3 x4 x5 x6;have ve:=aa (iG c.aL c.cols args[k] s1)
   cases hr:Tr.turn c.aL c.cols args[k] s1 with
   | error er=>
     rw[hr] at hp ve;obtain⟨Kx,u',v',rfl,hst⟩:=hp;have her:=ve.ae.err _ rfl
     have xg:X=.error er:=by
      have h1:=HX_.ae;have e2:args=args.take k++args[k]::args.drop (k+1):=by rw[<- drop_eq_getElem_cons hlt,take_append_drop]
      have h2:Tr.turns c.aL c.cols args s=.error er:=by
       conv=>lhs;rw[e2]
       exact Qt HT.ae hr
      rw[h2] at h1;exact h1
     have uW:=aa xg;have d0:(er != 0)=true:=by simp[her]
     have LE:=hst.blk MF.ae.res MF.ae.k4;have aoa:=aa (MF.ae.stp.trans hst);clear xg hr her hst HX_;have bg:=ah w6 (.cells (ay Kx) 46);have My:=LE.later bg;have wG:=aa (aoa.ae.later bg);have Gu:=My.frozen;open zcv in exact Za9
   | ok q=>
     obtain⟨y1,s2⟩:=q;rw[hr] at hp;obtain⟨Kx,u',v',K7,rfl,uG,pJ,hst⟩:=hp;have aob:=aa uG;have HTS:=aa (Qs HT.ae hr);have hab:∀q,a.ownBlock=some q->q < W2.heap.size:=λ q hq=>(MF.ae.own.lt hq).1
     have HAB:=aa hab;have auz:=aa MF.ae.size;have K8:=aa (MF.ae.call hst pJ);clear hr uG pJ hst hab MF ve HT;obtain⟨aA,ac,rfl,auA,_⟩:=pH K8.ae.own (S:=λ _=>True) (λ _ _=>trivial);have bg:=ah w6 (.cells (ay Kx) 46);have VX:=aB.new w6 46 (ay Kx);have Ad:=aa (K8.ae.later bg);have auB:=aa (show y1.at_ (w6.alloc (.cells (ay Kx) 46)) (λ b=>(B1<=b/\(Value.slice aA ys.length ac).ownBlock≠some b)/\Kp (w6.alloc (.cells (ay Kx) 46)) gp [u',v'] b) Kx from
      Tr.at_.keep (λ b LT=>⟨λ o=>bg.cell (p:=⟨b,o,none⟩) LT.2.1,⟨Nat.le_trans auz.ae LT.1,λ e=>by have:=HAB.ae b e;have:=LT.1;omega⟩,LT.2.size bg.size⟩) y1 Kx aob.ae)
     have Aa:=aa (show ys.length=k by
      have h1:=K8.ae.trees.length
      have h2:=sS HTS.ae
      have h3:=K8.ae.trees.length
      rw[length_append,length_singleton,length_append,length_singleton,length_take] at h2
      omega)
     clear bg K8 aob HAB;go_upto_region 21 with fail;generalize w6.alloc (.cells (ay Kx) 46)=WD at*;generalize w6.heap.size=gY at*;have HO:=aa VX;have z0:=VX.cell 0;have z1:=VX.cell 1;have x2:=VX.cell 2;have x3:=VX.cell 3;have x4:=VX.cell 4;have x5:=VX.cell 5;have x6:=VX.cell 6
     simp only[Uaa] at z0 z1 x2 x3 x4 x5 x6;clear VX;have hy:=Ad.ae.y;have yf:=hy.frozen 6;have y6:=hy.cell 6;simp only[Uaa] at y6;clear hy;have K9:=aa (ah WD (.cells (ay Kx) 46));go_wp2_with (first
      |(at_builtin
        refine mZ (f:=bF) (l:=ys) (y:=Kx) rfl (.tmp 104) (.tmp 106) 23 rfl _ 88 Tryz.underlying23 fL rfl Tq rfl TaB rfl (Ad.ae.own.later K9.ae) WD.heap.size rfl (aB.new WD _ _) Tar Tar (Nat.le_trans Ad.ae.size K9.ae.size) ?_
        intro v4 w4 U6 gr4 m4
        obtain⟨A4,QB,hv4,_⟩:=U6.reads
        rw[length_append,length_singleton] at hv4
        subst hv4
        have L0:=Ad.ae.later K9.ae
        have aoc:(Value.slice aA ys.length ac).ownBlock≠some g10:=λ e=>by have:=(L0.own.lt e).2.1;have:=L0.low.2.2.2;omega
        have hb4:=L0.y.grown gr4 (λ e=>aoc e.symm)
        have f4:=hb4.frozen 6
        have cc6:=hb4.cell 6
        simp only[Uaa] at cc6
        have aod:y1.at_ (WD.alloc (.cells (ay Kx) 46)) (λ b=>(B1<=b/\(Value.slice aA ys.length ac).ownBlock≠some b)/\Kp (WD.alloc (.cells (ay Kx) 46)) gp [u',v'] b) Kx:=
         Tr.at_.keep (λ b LT=>⟨λ o=>K9.ae.cell (p:=⟨b,o,none⟩) LT.2.1,LT.1,LT.2.size K9.ae.size⟩) y1 Kx auB.ae
        have auC:=aa (L0.push aod U6 (show(WD.alloc (.cells (ay Kx) 46)).grownBy w4 (Value.slice aA ys.length ac).ownBlock from gr4) (show Mv (WD.alloc (.cells (ay Kx) 46)) (Value.slice aA ys.length ac) (Value.slice A4 (ys.length+1) QB)from m4))
        clear U6 gr4 m4 hb4 aod L0 aoc))
     go_roundw;case rel=>exact⟨k+1,_,u',v',ys++ [Kx],K7,ts++ [y1],s2,hlt,by go_num,by rw[take_add_one,getElem?_eq_getElem hlt];exact HTS.ae,auC.ae⟩
     case measure=>exact Za2
  ·have fJ:k=args.length:=by omega
   subst fJ;rw[take_length] at HT;have Qg:=HX_.ae;rw[HT.ae] at Qg;dsimp only at Qg;have xO:=aa Qg;have qA:=aa (sS HT.ae);have Aa:=aa (HP.ae.trees.length);clear Qg hlt HX_;have x7:=HP.ae.x.cell 0;simp only[Uaa] at x7;obtain⟨aA,ac,rfl,auA,hres⟩:=pH HP.ae.own (S:=λ b=>B1<=b/\Kp wr gp [u1,v1] b) (λ q hq=>⟨(HP.ae.own.lt hq).2.1,HP.ae.ka q hq⟩);have jM:=aa hres;have afT:=aa (show Tr.aO wr (λ b=>B1<=b/\Kp wr gp [u1,v1] b) ts ys from Tr.ym (λ b LT=>⟨λ _=>rfl,LT.1.1,LT.2⟩) HP.ae.trees);have Jw:=HP.ae.y;have y0:=Jw.cell 0;have y1:=Jw.cell 1;have y2:=Jw.cell 2;have y3:=Jw.cell 3;have y4:=Jw.cell 4;have y5:=Jw.cell 5;have y6:=Jw.cell 6;simp only[Uaa] at y0 y1 y2 y3 y4 y5 y6;clear hres Jw;by_cases oJ:op=2
   ·have d0:(z.op==2)=true:=by rw[HZE.ae.1];simp[oJ]
    have Hx:=aa oJ;clear oJ;go_wp2_with fail;clear y0 y1 y2 y3 y4 y5 y6 x7 d0;have hz2:z.op=2:=HZE.ae.1.trans Hx.ae;rw[hz2];have gX:=HP.ae.ps.blk;unfold PC.cells at gX;have c8:=gX.cell 8;simp only[Uaa] at c8;have lT:=kE.ae;rw[HHT.ae] at lT;unfold Tr.ok at lT;refine(QC gp z.v z.name z.width ys (.slice aA ys.length ac) B1 c.cols c.cA c.cc wr (by
     unfold Tr.ok
     have h1:=HZE.ae
     have h2:=HE4.ae
     refine⟨by rw[h1.2.1];exact lT.1,by rw[length_replicate];have:=Aa.ae;have:=qA.ae;omega,by decide,by rw[h2];exact lT.2.2.2.1,by rw[h1.2.1];exact lT.2.2.2.2.1,Tt _⟩) (by have:=Aa.ae;have:=qA.ae;omega) HP.ae.own gX.lt c8 (iV.ae.cols.later HP.ae.ps.base) (by exact iV.ae.cl) (λ e=>(eu.1 (HP.ae.ka gp e)).2.1 rfl) (λ hc0 a ha e=>by
     rcases iV.ae.cols with h |⟨b,off,h1,h2,h3⟩
     ·exact hc0 h
     ·rw[h1] at ha
      injection ha with ha
      have h4:=(HP.ae.own.lt e).2.1
      have h5:=HP.ae.low
      have h6:=HP.ae.base
      rw[<- ha] at h4
      have h7:B1<=b:=h4
      omega) HP.ae.size).mono ?_
    rintro e w7 ⟨rfl,NR⟩;have wG:=aa (HP.ae.stp.below NR (by have:=HP.ae.low;omega));have My:=HP.ae.res.below NR (by have:=HP.ae.low;omega);have Gu:=My.frozen;open zcw in exact Za9
   ·have d0:(z.op==2)=false:=by rw[HZE.ae.1];simp[oJ]
    have Hx:=aa oJ;clear oJ y0 y1 y2 y3 y4 y5 y6;go_upto_region 27 with fail
    clear x7 d0;obtain⟨Kx,hy⟩:∃Kx:Ex,Kx=⟨z.op,z.v,z.name,z.width,aA,ys.length,ac⟩:=⟨_,rfl⟩;have Wc:=aa (show aB wr g10 46 (ay Kx) by rw[hy];exact HP.ae.y);obtain⟨VA,vc,Oh,_⟩:=HP.ae.ps.dK.reads;subst Oh;have gX:=HP.ae.ps.blk;unfold PC.cells at gX;have NS:=aa (show wr.cell? ⟨gp,10,none⟩=some (.slice VA s1.aL.length vc)from by
     have:=gX.cell 10
     simpa using this)
    have QD:=aa gX.lt;have aip:(Tr.mk op xv name width ts).at_ wr (λ b=>B1<=b/\Kp wr gp [u1,.slice VA s1.aL.length vc] b) Kx:=by have h2:=HZE.ae;have h3:=HE4.ae;unfold Tr.at_;rw[hy];exact⟨h2.1,h2.2.1,h2.2.2,h3,Aa.ae,ys,jM.ae,afT.ae⟩
    have aoe:=aa aip;have NU:(Tr.mk op xv name width ts).ok:=by have h1:=kE.ae;rw[HHT.ae] at h1;unfold Tr.ok at h1 ⊢;exact⟨h1.1,by rw[qA.ae];exact h1.2.1,h1.2.2.1,h1.2.2.2.1,h1.2.2.2.2.1,((kB (λ t _ s=>iG c.aL c.cols t s) s:pE args s (Tr.turns c.aL c.cols args s)).ok _ _ HT.ae) h1.2.2.2.2.2⟩
    have zX:s1.aL.length<=140737488355328:=by have h1:=((kB (λ t _ s=>iG c.aL c.cols t s) s:pE args s (Tr.turns c.aL c.cols args s)).len _ _ HT.ae);have h2:=HLEN.ae;have h3:=aio.ae;omega
    have xd:=aa (Tr.oP (cols:=s1.aL) (CA:=VA) (cc:=vc) zX _ Kx wr NU (G1 aip) (J8 HP.ae.ps.dK));have hXN:=xO.ae;rw[if_neg Hx.ae] at hXN;generalize Ly:(Tr.mk op xv name width ts).type s1.aL=R at*;obtain⟨ty,er⟩:=R;dsimp only at hXN xd;have uW:=aa hXN;clear aip NU zX hXN Ly hy gX xO Hx;open zej in exact Zco):p:=h
theorem zfL.Kbq(h:p:=by rw[CT,show t.op=op from aim,ha] at px;have HIS:=aa px;have Vr:=aa CT;clear c4 c8 c10 hb1 hf px CT HX uX;go_wp2_with fail;have Vz:=aa kI;have KK:=aa tC;have hop:=Vr.ae;rw[hop,aim];refine(HIS.ae w1).mono ?_;rintro e w2 ⟨rfl,hb2⟩;rw[<- aim,<- hop];have uC:=aa (CS.ae.later hb2);have hb:=Vz.ae.later hb2;have XP:=aa (KK.ae.later hb2);have fG:=aa (ai.then zN.ae (ai.then eL.ae hb2));clear hxo kI tC hb2 hop Vz KK eL CS;open zdL in exact Zb0):p:=h
theorem za6.Kac(h:p:=by open zfL in exact ZdW):p:=h
theorem VT (c:PC)(w0:World)(gp:Nat)(r:Rest)(op:Int)(xv:Val)(name:ByteArray)(width:Int)(args:List Tr)(z:Ex)(s:dz)(u v:Value)(ya:List Ex)(w:World)(hf:c.aL.findIdx? (λ g=>g.same (.mk op xv name width args))=none)(ha:isAgg op=false)(ih:∀a∈args,I8 c w0 gp r a)(aZ:c.Ok w0)(fW:(Tr.mk op xv name width args).ok)(hat:(Tr.mk op xv name width args).at_ w0 (Old w0) z)(oa:eH c w0 gp r w u v ya s)(hlen:s.aL.length+s.aF.length+2*(Tr.mk op xv name width args).nodes<=1000000):
  ar 99 #[aw gp,.agg (ay z)] w (rG c w0 gp r u v w ((Tr.mk op xv name width args).turn c.aL c.cols s)):=by
 obtain⟨t,ht⟩:∃t,t=Tr.mk op xv name width args:=⟨_,rfl⟩;have aim:t.op=op:=by rw[ht];rfl
 have HIH:=aa ih;have HLEN:=aa hlen;have HHT:=aa ht;obtain⟨X,hX⟩:∃X,X=t.turn c.aL c.cols s:=⟨_,rfl⟩;have hXn:=hX;rw[ht,sT,hf] at hXn;dsimp only at hXn;rw[if_neg (by rw[ha];decide)] at hXn;have HX_:=aa hXn;have Lw:=aa (iG c.aL c.cols t s);rw[<- hX] at Lw;rw[<- ht] at hf fW hat ⊢;rw[<- hX];clear ht hX hXn ih hlen;open za6 in exact Zat
theorem adb (c:PC)(w0:World)(gp:Nat)(r:Rest)(aZ:c.Ok w0):∀t,I8 c w0 gp r t:=by
 refine Tr.ind ?_;intro op xv name width args ih z s u v ya w fW hat oa hlen
 cases hf:c.aL.findIdx? (λ g=>g.same (.mk op xv name width args))with
 | some k=>have h:=Qv c w0 gp r _ z s u v ya w k hf aZ fW hat oa;rw[sT,hf];exact h
 | none=>
   have hn:1<=(Tr.mk op xv name width args).nodes:=by rw[Tr.nodes];omega
   cases ha:isAgg op with
   | false=>exact VT c w0 gp r op xv name width args z s u v ya w hf ha ih aZ fW hat oa hlen
   | true=>
     obtain⟨q,hq⟩:∃q,q=fU c.cols op args:=⟨_,rfl⟩;obtain⟨ty,er⟩:=q;rw[sT,hf];dsimp only;rw[if_pos ha,<- hq];dsimp only;by_cases her:er=0
     ·subst her;rw[if_neg WC];exact MA c w0 gp r _ z s u v ya w hf ha ty hq.symm Tq aZ fW hat oa
     ·rw[if_pos her];exact Ju c w0 gp r _ z s u v ya w hf ha ty er hq.symm her aZ fW hat oa
def ownPost (c:PC)(w0:World)(gp:Nat)(r:Rest)(u v:Value)(w:World)(x:Except Int (Tr×Int×dz))(e:Ending)(w':World):Prop:=
 match x with
 | .error er=>∃(y:Ex) (ty:Int) (u' v':Value),e=.returned (.tuple #[.agg (ay y),ag ty,af er])/\gM gp w u v w' u' v'
 | .ok (t,ty,s)=>∃y u' v' ya,e=.returned (.tuple #[.agg (ay y),ag ty,af 0])/\t.at_ w' (λ b=>(b < w0.heap.size\/w.heap.size<=b)/\Kp w' gp [u',v'] b) y/\eH c w0 gp r w' u' v' ya s/\gM gp w u v w' u' v'
variable{w0:World}{ya:List Ex}
theorem eH.L1{c:PC}   {r:Rest}   (h:eH c w0 gp r w u v ya s) {t:Tr} (hat:t.at_ w0 (Old w0) z):t.at_ w (λ b=>b < w0.heap.size/\Kp w gp [u,v] b) z:=
 Tr.at_.keep (λ b hb=>⟨λ o=>h.base.cell (p:=⟨b,o,none⟩) hb,hb,eu.2 ⟨Nat.lt_of_lt_of_le hb h.base.size,λ e=>by have:=h.low;have:b < w0.heap.size:=hb;omega,λ e=>by have:=h.kp9 b e;have:b < w0.heap.size:=hb;omega,λ e=>by have:=h.aul b e;have:b < w0.heap.size:=hb;omega⟩⟩) t z hat
theorem zbQ.Kak(h:p:=by
 refine bodyPost_ret (v:=.tuple #[.agg (ay z),ag ty,af er]) Tas rfl ?_;by_cases her:er=0
 ·subst her;have MH:=uW.ae;rw[if_neg WC] at MH;rw[MH];refine⟨z,u,v,ya,rfl,?_,Kh.ae.aside kK MI.ae Tba,((gM.refl gp w u v).later aof.ae).own kK mE.ae⟩;exact Tr.at_.keep (λ b hb=>⟨λ o=>bH (kK.block b hb.2.1 (λ e=>by injection e with e;have:=hb.1;have:=pF.ae.base.size;have:=mE.ae;omega)) o,.inl hb.1,hb.2.size kK.size⟩) t z (Kh.ae.L1 CQ.ae)
 ·have MH:=uW.ae;rw[if_pos her] at MH;rw[MH];exact⟨z,ty,_,_,rfl,((gM.refl gp w u v).later aof.ae).own kK mE.ae⟩):p:=h
theorem zcy.Kat(h:p:=by
 have Gu:=My.frozen;clear k1 My;go_wp2_with fail;clear z0 z1 x2 x3 x4 x5 x6 y0 y1 y2 y3 y4 y5 y6 Gu;generalize uD:World.setCell _ _ _=W9;have hR:aB W9 g4 46 (ay z):=by rw[<- uD];simpa using(((((((HP.ae.aT 0 _).aT 1 _).aT 2 _).aT 3 _).aT 4 _).aT 5 _).aT 6 _)
 have kK:W3.grownBy W9 (some g4):=by rw[<- uD];exact aC (aC (aC (aC (aC (aC (aC (aR (Below.refl _ _)) _ _) _ _) _ _) _ _) _ _) _ _) _ _
 open zbQ in exact ZaE):p:=h
theorem zbm.Kaf(h:p:=by have My:=HP.ae;open zcy in exact Za9):p:=h
theorem zfN.Kbr(h:p:=by refine bodyPost_ret (v:=.tuple #[.agg (ay Kx),ag 0,af er]) Tas rfl ?_;rw[ade.ae];exact⟨Kx,0,_,_,rfl,HG.ae.own kK mE.ae⟩):p:=h
theorem zcz.Kat(h:p:=by
 have Gu:=My.frozen;clear k1 My VX;go_wp2_with fail;clear z0 z1 x2 x3 x4 x5 x6 y0 y1 y2 y3 y4 y5 y6 Gu hne;generalize hWX:World.setCell _ _ _=WX;have hR:aB WX g4 46 (ay Kx):=by rw[<- hWX];simpa using(((((((HP.ae.aT 0 _).aT 1 _).aT 2 _).aT 3 _).aT 4 _).aT 5 _).aT 6 _)
 have kK:W9.grownBy WX (some g4):=by rw[<- hWX];exact aC (aC (aC (aC (aC (aC (aC (aR (Below.refl _ _)) _ _) _ _) _ _) _ _) _ _) _ _) _ _
 open zfN in exact ZdY):p:=h
theorem zfO.Kbr(h:p:=by
 refine bodyPost_ret (v:=.tuple #[.agg (ay Kx),ag ty,af er]) Tas rfl ?_;by_cases her:er=0
 ·subst her;have MH:=ade.ae;rw[if_neg WC] at MH;rw[MH];refine⟨Kx,u',_,K7,rfl,?_,QQ.ae.aside kK HK8.ae Tba,uZ.ae.own kK mE.ae⟩;exact Tr.at_.keep (λ b hb=>⟨λ o=>bH (kK.block b hb.2.1 (λ e=>by injection e with e;have:=hb.1;have:=HWS.ae;omega)) o,.inr (by have:=hb.1;have:=HWS.ae;omega),hb.2.size kK.size⟩) t1 Kx auF.ae
 ·have MH:=ade.ae;rw[if_pos her] at MH;rw[MH];exact⟨Kx,ty,_,_,rfl,uZ.ae.own kK mE.ae⟩):p:=h
theorem zcA.Kat(h:p:=by
 have Gu:=My.frozen;clear k1 My;go_wp2_with fail;clear z0 z1 x2 x3 x4 x5 x6 y0 y1 y2 y3 y4 y5 y6 Gu hne;generalize hWX:World.setCell _ _ _=WX;have hR:aB WX g4 46 (ay Kx):=by rw[<- hWX];simpa using(((((((Ad.ae.aT 0 _).aT 1 _).aT 2 _).aT 3 _).aT 4 _).aT 5 _).aT 6 _)
 have kK:W3.grownBy WX (some g4):=by rw[<- hWX];exact aC (aC (aC (aC (aC (aC (aC (aR (Below.refl _ _)) _ _) _ _) _ _) _ _) _ _) _ _) _ _
 open zfO in exact ZdY):p:=h
theorem zei.KaS(h:p:=by have QQ:=aa (Kh.ae.later hL);have uZ:=aa (HG.ae.later hL);have auF:=aa (((gM.refl gp W9 u' (.slice VA s1.aL.length vc)).later hL).tree HYA.ae);have HK8:=aa (MI.ae.size hL.size);clear hL Wc HP Kh HG HYA MI NS xd;have hne:=nJ.ae;have k1:=Tm.ae;have z0:=k1.cell 0;have z1:=k1.cell 1;have x2:=k1.cell 2;have x3:=k1.cell 3;have x4:=k1.cell 4;have x5:=k1.cell 5;have x6:=k1.cell 6;simp only[Uaa] at z0 z1 x2 x3 x4 x5 x6;have My:=Ad.ae;open zcA in exact Za9):p:=h
theorem zbn.Kaf(h:p:=by
 clear k1;go_wp2_with fail;clear z0 z1 x2 x3 x4 x5 x6 c10;refine(adb c w0 gp r iV.ae t z s u v ya W kE.ae CQ.ae sR.ae HLEN.ae).mono ?_;intro e w6 hp;have ve:=aa (iG c.aL c.cols t s)
 cases hr:Tr.turn c.aL c.cols t s with
 | error er=>
   have jY:=uW.ae;rw[hr] at hp ve jY;obtain⟨Kx,u',v',rfl,hst⟩:=hp;have her:=ve.ae.err _ rfl;have ade:=aa (show X=.error er from jY);have t1:(er != 0)=true:=by simp[her]
   have bg:=ah w6 (.cells (ay Kx) 46);have VX:=aB.new w6 46 (ay Kx);have HP:=aa ((hst.blk uX.ae CV.ae).later bg);have HG:=aa ((((gM.refl gp w u v).later zN.ae).trans hst).later bg);have nJ:=aa (show g4≠w6.heap.size by have:=uX.ae.lt;have:=hst.size;omega);clear jY hr her hst uW bg;go_upto_region 5 with fail;generalize w6.alloc (.cells (ay Kx) 46)=W9 at*;generalize w6.heap.size=g9 at*;have hne:=nJ.ae;have k1:=VX;have z0:=k1.cell 0;have z1:=k1.cell 1;have x2:=k1.cell 2;have x3:=k1.cell 3;have x4:=k1.cell 4;have x5:=k1.cell 5;have x6:=k1.cell 6;simp only[Uaa] at z0 z1 x2 x3 x4 x5 x6;have My:=HP.ae;open zcz in exact Za9
 | ok q=>
   obtain⟨t1,s1⟩:=q;have jY:=uW.ae;rw[hr] at hp ve jY;obtain⟨Kx,u',v',K7,rfl,uG,pJ,hst⟩:=hp;have bg:=ah w6 (.cells (ay Kx) 46);have VX:=aB.new w6 46 (ay Kx);have HP:=aa ((hst.blk uX.ae CV.ae).later bg);have MI:=aa ((hst.kp CV.ae).size bg.size);have HG:=aa ((((gM.refl gp w u v).later zN.ae).trans hst).later bg);have Kh:=aa (pJ.later bg);have HYA:=aa (((gM.refl gp w6 u' v').later bg).tree uG);have nJ:=aa (show g4≠w6.heap.size by have:=uX.ae.lt;have:=hst.size;omega);have HWS:=aa (show g4 < W.heap.size/\w.heap.size<=W.heap.size from⟨uX.ae.lt,zN.ae.size⟩);clear hr hst pJ uG bg;go_upto_region 5 with fail
   generalize w6.alloc (.cells (ay Kx) 46)=W9 at*;generalize w6.heap.size=g9 at*;have Wc:=aa VX;clear VX;obtain⟨VA,vc,Oh,_⟩:=Kh.ae.dK.reads;subst Oh;have gX:=Kh.ae.blk;unfold PC.cells at gX;have NS:=aa (show W9.cell? ⟨gp,10,none⟩=some (.slice VA s1.aL.length vc)from by
    have:=gX.cell 10
    simpa using this)
   have QD:=aa gX.lt;have zX:s1.aL.length<=140737488355328:=by have h1:=ve.ae.len _ _ rfl;have h2:=HLEN.ae;omega
   have xd:=aa (Tr.oP (cols:=s1.aL) (CA:=VA) (cc:=vc) zX t1 Kx W9 (ve.ae.ok _ _ rfl kE.ae) (G1 HYA.ae) (J8 Kh.ae.dK));generalize KK:t1.type s1.aL=R at*;obtain⟨ty,er⟩:=R;dsimp only at jY xd;have ade:=aa jY;clear KK jY gX zX uW;go_wp2_with fail;open zei in exact Zco):p:=h
theorem zeq.KaV(h:p:=by
 have hk4:=pF.ae.fresh (w2:=W) mE.ae uX.ae.lt;have CV:=aa hk4;have uH:=aa (pF.ae.fresh (w2:=W) Jt.ae HX.ae.lt);clear hk4
 cases hg:c.aK with
 | false=>
   rw[hg] at c10;have jY:=HX_.ae;unfold oZ at jY;rw[hg,if_pos rfl] at jY;have NS:=aa c4;have QD:=aa sR.ae.blk.lt;have xd:=aa (Tr.oP (cols:=c.cols) (CA:=c.cA) (cc:=c.cc) (by have:=iV.ae.cl;omega) t z W kE.ae (CQ.ae.later sR.ae.base) (iV.ae.cols.later sR.ae.base));generalize KK:t.type c.cols=R at*;obtain⟨ty,er⟩:=R;dsimp only at jY xd;have uW:=aa jY;clear KK jY c4 c8 hg;go_wp2_with fail;clear c10;refine bB 11 (Gy gp 8 c.cA c.cols.length c.cc ty er z) (nd _ _ _ _ _ _ _ _) T8 T8 T8 ?_ ?_
   ·simp only[take_succ_cons,take_zero];refine⟨ZgY,Zab,Zab,Zab,Zcf,?_,Zab,Zab,Zab,Zab,Zab,trivial⟩
    ·intro ρ w3 hc hL hr;have h0:_=_:=hr.1;have h1:_=_:=hr.2.1;have e1:=hc.func 59;refine bw (f:=59) (args:= #[.agg (ay z),.slice c.cA c.cols.length c.cc]) (w':=w3) Tao ?_;exact Zf3
   intro W3 hL;simp only[Uab];rintro a0 - a1 - a2 - a3 - a4 - a5 - a6 - a7 - a8 - _ rfl _ rfl;simp only[bD,Act.put,Uac];have AB:=aa (HX.ae.later hL);have HP:=aa (uX.ae.later hL);have Kh:=aa (sR.ae.later hL);have aof:=aa (ai.then zN.ae hL);have MI:=aa (CV.ae.size hL.size);clear hL HX uX sR zN NS xd CV uH;have k1:=AB.ae;open zbm in exact Zay
 | true=>rw[hg] at c10;have jY:=HX_.ae;unfold oZ at jY;rw[hg,if_neg WC] at jY;have uW:=aa jY;clear jY c4 c8 hg HX_;have k1:=HX.ae;open zbn in exact Zay):p:=h
theorem zhN.Kcb(h:p:=by go_enter Tryz.func61,Tryz.ntmps61;open zeq in exact Zct):p:=h
theorem ze5.Ka9(h:p:=by have c4:=gX.cell 8;have c10:=gX.cell 11;have c8:=gX.cell 10;open zhN in exact Zge):p:=h
theorem Da (c:PC)(w0:World)(gp:Nat)(r:Rest)(t:Tr)(z:Ex)(s:dz)(u v:Value)(ya:List Ex)(w:World)(aZ:c.Ok w0)(fW:t.ok)(hat:t.at_ w0 (Old w0) z)(oa:eH c w0 gp r w u v ya s)(hlen:s.aL.length+s.aF.length+2*t.nodes<=1000000):
  ar 61 #[aw gp,.agg (ay z)] w (ownPost c w0 gp r u v w (oZ c.aK c.aL c.cols t s)):=by have HLEN:=aa hlen;clear hlen;obtain⟨X,hX⟩:∃X,X=oZ c.aK c.aL c.cols t s:=⟨_,rfl⟩;rw[<- hX];have HX_:=aa hX;clear hX;open ze5 in exact Zc1
variable{ρ:Operand->Value}{T:Value->World->Prop}
theorem zep.KaU(h:p:=by
 unfold xj execOp;simp only[ho,hp,hx,Instr.storeAt,Instr.sureAddr,Sem.run_bind,Sem.run_pure,Result.andThen_ok,hrun];refine h _ ⟨?_,.inr ⟨q,c,_,?_,hb,setRow_heap w q cur _ e (0,0) hg,?_,hm,?_,?_⟩⟩ ⟨rfl,rfl,rfl,by simp[World.setRow],λ k hk hne=>setRow_other w q k _ (λ e=>hne Ta9)⟩
 ·rw[Gv hf]
 ·rw[e2,length_set]
 ·rw[length_set];exact hn
 ·rw[<- hs];simp[hf];omega
 ·exact ZbI):p:=h
theorem EI{size base:Nat}   {y:α}  {o:Oper}  (ty:TypeId)(p x:Operand)(ho:o.op=.store ty p x)
  (q n c i:Nat) (hf:∀x,(f x).length=size) (hown:aH f e size w base (aI q n c) l) (rW:i < l.length) (hp:ρ p=ba q (i*size)) (hx:ρ x=.agg (f y).toArray)
  (hi:(P.info? ty).map (·.size)=some size) (h1:(f y).toArray.all (·.oneCell')=true)
  (h:∀w',aH f e size w' base (aI q n c) (l.set i y)->w.grownBy w' (some q)->T undef w'):xj P o ρ w T:=by
 rcases hown.2 with ⟨hv,_⟩|⟨g,cap,cur,hv,hb,hg,hn,hm,hs,ht⟩
 ·cases hv
 ·open zep in exact Zcs
theorem Db{size base:Nat}   {z y:α}  {o:Oper}  (ty:TypeId)(p x:Operand)(ho:o.op=.store ty p x)
  (q n c:Nat) (hf:∀x,(f x).length=size) (hown:aH f e size w base (aI q n c) (l++ [z])) (hp:ρ p=ba q (l.length*size)) (hx:ρ x=.agg (f y).toArray)
  (hi:(P.info? ty).map (·.size)=some size) (h1:(f y).toArray.all (·.oneCell')=true)
  (h:∀w',aH f e size w' base (aI q n c) (l++ [y])->w.grownBy w' (some q)->T undef w'):xj P o ρ w T:=by
 refine EI ty p x ho q n c l.length hf hown Vb hp hx hi h1 λ w' h1 h2=>h w' ?_ h2
 exact ZgV
variable{V V':Nat->World->Value->Prop}{K:Act->World->Prop}
theorem bD.weaken:∀ {l:List Oper} {k:Nat} {a:Act} {w:World},(∀i w v,V' i w v->V i w v)->bD V K l k a w->bD V' K l k a w:=by
 intro l
 induction l with
 | nil=>intro k a w _ h;exact h
 | cons o l ih=>
   intro k a w hv h;unfold bD at h ⊢;revert h
   cases o.dst with
   | none=>intro h;exact ih hv h
   | some d=>intro h;exact λ x hx=>ih hv (h x (hv _ _ _ hx))
structure LaA (W:World) (z:Option Value) (w:World):Prop where
 below:aj W w
 zero:∀x,z=some x->∃g0,x=aI g0 1 1/\aB w g0 46 (bF wF).toArray
structure LaB (gp k B:Nat) (W:World) (cs:Array Value) (r:Value) (ys:List Ex) (y:Ex) (a:Value) (s p:Bool) (w:World):Prop where
 row:∃q c,a=aI q (ys.length+1) c/\q≠gp
 own:aH bF 46 7 w B a (ys++ [if s=true then y else wF])
 blk:aB w gp 81 (if p=true then cs.setIfInBounds k a else cs)
 far:∀b,b < W.heap.size->b≠gp->r.ownBlock≠some b->w.heap[b]?=W.heap[b]?
 os:w.os=W.os
 tape:w.tape=W.tape
 output:w.output=W.output
 size:W.heap.size<=w.heap.size
 mv:Mv W r a
variable{W:World}{r:Value}
theorem LaB.later{a:Value}  {y:Ex} {s p:Bool}(h:LaB gp k B W cs r ys y a s p w)(hb:aj w w'):LaB gp k B W cs r ys y a s p w':=
 ⟨h.row,h.own.later hb,h.blk.later hb,λ b h1 h2 h3=>(hb.block b (Nat.lt_of_lt_of_le h1 h.size)).trans (h.far b h1 h2 h3),hb.os.trans h.os,hb.tape.trans h.tape,hb.output.trans h.output,Nat.le_trans h.size hb.size,h.mv⟩
def aoi (o0 o1 o2 o3 o4 o5 o6 o7 o8 o9 qp xh vg:Oper)(s0 s1 d0 d1 d2 d3 d4 d5 d6 d7 d8 d10 d11:Tmp):Bool:=
 (tmpsOf o0== [s0])&&(cW [o0,o1,o2,o3,o4,o5,o6,o7,o8,o9,qp,xh,vg] o0 s0==none)&&(tmpsOf o1== [d0])&&(cW [o0,o1,o2,o3,o4,o5,o6,o7,o8,o9,qp,xh,vg] o1 d0==some 0)&&(tmpsOf o2== [d1])&&(cW [o0,o1,o2,o3,o4,o5,o6,o7,o8,o9,qp,xh,vg] o2 d1==some 1)&&(tmpsOf o3== [d2])&&(cW [o0,o1,o2,o3,o4,o5,o6,o7,o8,o9,qp,xh,vg] o3 d2==some 2)&&(tmpsOf o4== [s1])&&(cW [o0,o1,o2,o3,o4,o5,o6,o7,o8,o9,qp,xh,vg] o4 s1==none)&&(tmpsOf o5== [d3])&&(cW [o0,o1,o2,o3,o4,o5,o6,o7,o8,o9,qp,xh,vg] o5 d3==some 3)&&(tmpsOf o6== [])&&(tmpsOf o7== [d3,d6])&&(cW [o0,o1,o2,o3,o4,o5,o6,o7,o8,o9,qp,xh,vg] o7 d3==some 3)&&(cW [o0,o1,o2,o3,o4,o5,o6,o7,o8,o9,qp,xh,vg] o7 d6==some 6)&&(tmpsOf o8== [d7,d5])&&(cW [o0,o1,o2,o3,o4,o5,o6,o7,o8,o9,qp,xh,vg] o8 d7==some 7)&&(cW [o0,o1,o2,o3,o4,o5,o6,o7,o8,o9,qp,xh,vg] o8 d5==some 5)&&(tmpsOf o9== [d8,d4])&&(cW [o0,o1,o2,o3,o4,o5,o6,o7,o8,o9,qp,xh,vg] o9 d8==some 8)&&(cW [o0,o1,o2,o3,o4,o5,o6,o7,o8,o9,qp,xh,vg] o9 d4==some 4)&&(tmpsOf qp== [d0])&&(cW [o0,o1,o2,o3,o4,o5,o6,o7,o8,o9,qp,xh,vg] qp d0==some 0)&&(tmpsOf xh== [d10])&&(cW [o0,o1,o2,o3,o4,o5,o6,o7,o8,o9,qp,xh,vg] xh d10==some 10)&&(tmpsOf vg== [d11,d7])&&(cW [o0,o1,o2,o3,o4,o5,o6,o7,o8,o9,qp,xh,vg] vg d11==some 11)&&(cW [o0,o1,o2,o3,o4,o5,o6,o7,o8,o9,qp,xh,vg] vg d7==some 7)&& o0.guard.isNone && o1.guard.isNone && o2.guard.isNone && o3.guard.isNone && o4.guard.isNone && o5.guard.isNone && o6.guard.isNone && o7.guard.isNone && o8.guard.isNone && o9.guard.isNone && qp.guard.isNone && xh.guard.isNone && vg.guard.isNone && ij o7 3 && ij o7 6 && ij o8 7 && ij o9 7 && ij vg 7
def Ac (gp k B:Nat)(W:World)(cs:Array Value)(r:Value)(ys:List Ex)(y:Ex)(σ:Nat->Option Value)(w:World):Prop:=
 match σ 7 with
 | none=>σ 8=none/\σ 9=none/\σ 12=none/\(∀x,σ 3=some x->x=r)/\LaA W (σ 6) w
 | some a=>(σ 3).isSome=true/\(σ 6).isSome=true/\(∀x,σ 3=some x->x=r)/\LaB gp k B W cs r ys y a (σ 9).isSome (σ 12).isSome w/\∀x,σ 8=some x->∃G cap,a=.slice (some ⟨G,0,none⟩) (ys.length+1) cap/\x=.pointer (some ⟨G,ys.length*7,none⟩)
theorem L3{y:Ex}(σ:Nat->Option Value)(w:World)(h:Ac gp k B W cs r ys y σ w):Ac gp k B W cs r ys y σ w.drew:=by
 have hb:aj w w.drew:=(Below.refl _ _).drew;unfold Ac at*
 cases ha:σ 7 with
 | none=>rw[ha] at h;obtain⟨h1,h2,h3,h4,h5⟩:=h;exact⟨h1,h2,h3,h4,⟨Below.trans h5.below (hb.mono h5.below.size),λ x hx=>by obtain⟨g0,k1,k2⟩:=h5.zero x hx;exact⟨g0,k1,k2.later hb⟩⟩⟩
 | some a=>rw[ha] at h;obtain⟨h1,h2,h3,h4,h5⟩:=h;exact⟨h1,h2,h3,h4.later hb,h5⟩
section
variable {gp k B gx:Nat} {W:World} {cs:Array Value} {r:Value} {ys:List Ex} {y:Ex} {Q:Exit->Act->World->Prop} {a0:Act} {id:Nat} {o0 o1 o2 o3 o4 o5 o6 o7 o8 o9 qp xh vg:Oper} {s0 s1 d0 d1 d2 d3 d4 d5 d6 d7 d8 d10 d11:Tmp}
theorem zhK.Kca(h:p:=by rw[ha] at r0;injection r0 with r0;refine aq (h8 ρ w q c (r0.symm.trans e1) r1) ?_;show Ac gp k B W cs r ys y _ _;unfold Ac;simp only[jJ,ha,pR,Nat.reduceEqDiff,if_true,if_false];exact⟨k1,k2,k3,zk,λ x e=>by injection e with e;exact⟨q,c,e1,e.symm⟩⟩):p:=h
theorem zhL.Kca(h:p:=by
 obtain⟨G2,Yt,e7,e8⟩:=k5 _ r0;rw[pR] at zk;have ho:=zk.own;rw[e7] at ho e1;injection e1 with e1 _ e3;injection e1 with e1;injection e1 with e1 _ _;subst e1 e3;refine Db 46 (.tmp d8) (.tmp d4) h9 G2 (ys.length+1) Yt (f:=bF) (y:=y) (l:=ys) (λ _=>rfl) ho e8 r1 T8 TaB ?_;intro w' AZ RU;show Ac gp k B W cs r ys y _ _;unfold Ac;simp only[jJ,ha,Nat.reduceEqDiff,if_true,if_false,Option.isSome_some];refine⟨k1,k2,k3,⟨⟨G2,Yt,e7,e2⟩,by rw[e7];exact AZ,zk.blk.grown RU (λ e=>by injection e with e;exact e2 e.symm),λ b h1 h2 h3=>?_,RU.os.trans zk.os,RU.tape.trans zk.tape,RU.output.trans zk.output,Nat.le_trans zk.size RU.size,zk.mv⟩,k5⟩;refine(RU.block b (Nat.lt_of_lt_of_le h1 zk.size) λ e=>?_).trans (zk.far b h1 h2 h3);injection e with e;rcases zk.mv with h | h
 ·rw[e7] at h;exact h3 (by rw[<- h,e];rfl)
 ·have:=h G2 (by rw[e7];rfl);omega):p:=h
theorem zhM.Kca(h:p:=by rw[ha] at r1;injection r1 with r1;rw[pR] at zk;have jV:aB w gp 81 cs:=zk.blk;have hrun:=h12 ρ w (some ⟨q,0,none⟩) (ys.length+1) c r0 (r1.symm.trans e1) (by rw[jV.cell];exact hcs) (jV.frozen _);unfold xj;rw[hrun];show Ac gp k B W cs r ys y _ _;unfold Ac;simp only[jJ,ha,Nat.reduceEqDiff,if_true,if_false,Option.isSome_some];have aoq:=zk.own;refine⟨k1,k2,k3,⟨⟨q,c,e1,e2⟩,aoq.keep λ g hg2=>Below.heap_setCell w ⟨gp,k,none⟩ _ g λ e=>?_,by have:=jV.aT k a;rw[e1] at this ⊢;exact this,λ b h1 h2 h3=>(Below.heap_setCell w ⟨gp,k,none⟩ _ b h2).trans (zk.far b h1 h2 h3),zk.os,zk.tape,zk.output,by rw[World.size_setCell];exact zk.size,zk.mv⟩,k5⟩;rw[e1] at hg2;injection hg2 with hg2;exact e2 (hg2.trans e)):p:=h
theorem GC (hm:Tryz.prog.follows .mixedOrders=true)(aZ:dO [o0,o1,o2,o3,o4,o5,o6,o7,o8,o9,qp,xh,vg] a0.tmps.size [o0,o1,o2,o3,o4,o5,o6,o7,o8,o9,qp,xh,vg] 0=true)(Cj:aoi o0 o1 o2 o3 o4 o5 o6 o7 o8 o9 qp xh vg s0 s1 d0 d1 d2 d3 d4 d5 d6 d7 d8 d10 d11=true)
  (es0:a0.eval (.tmp s0)=.pointer (some ⟨gp,0,none⟩)) (es1:a0.eval (.tmp s1)=.pointer (some ⟨gx,0,none⟩))
  (h0:∀ρ w,ρ (.tmp s0)=.pointer (some ⟨gp,0,none⟩)->(execOp ρ o0).run Tryz.prog w=.ok (.value (.pointer (some ⟨gp,0,none⟩))) w)
  (h1:∀ρ w,ρ (.tmp d0)=.pointer (some ⟨gp,0,none⟩)->(execOp ρ o1).run Tryz.prog w=.ok (.value (.pointer (some ⟨gp,0,none⟩))) w)
  (h2:∀ρ w,ρ (.tmp d1)=.pointer (some ⟨gp,0,none⟩)->(execOp ρ o2).run Tryz.prog w=.ok (.value (.pointer (some ⟨gp,k,none⟩))) w)
  (h3:∀ρ w,ρ (.tmp d2)=.pointer (some ⟨gp,k,none⟩)->w.cell? ⟨gp,k,none⟩=some r->(execOp ρ o3).run Tryz.prog w=.ok (.value (r)) w)
  (h4:∀ρ w,ρ (.tmp s1)=.pointer (some ⟨gx,0,none⟩)->aB w gx 46 (bF y).toArray->(execOp ρ o4).run Tryz.prog w=.ok (.value (.agg (bF y).toArray)) w)
  (h5:∀ρ w,ρ (.tmp d3)=r->(execOp ρ o5).run Tryz.prog w=.ok (.value (.int .i64 (ys.length:Int))) w)
  (h6:∀ρ w,oD ρ->(execOp ρ o6).run Tryz.prog w=.ok (.value (.slice (some ⟨w.heap.size,0,none⟩) 1 1)) (w.alloc (.cells (bF wF).toArray 46)))
  (h7:∀ρ w x v' w',ρ (.tmp d3)=r->ρ (.tmp d6)=x->(Builtin.append_ #[23,23] 23 #[r,x]).run Tryz.prog w=.ok v' w'->(execOp ρ o7).run Tryz.prog w=.ok (.value v') w')
  (h8:∀ρ w G cap,ρ (.tmp d7)=.slice (some ⟨G,0,none⟩) (ys.length+1) cap->ρ (.tmp d5)=.int .i64 (ys.length:Int)->(execOp ρ o8).run Tryz.prog w=.ok (.value (.pointer (some ⟨G,ys.length*7,none⟩))) w)
  (h9:o9.op=.store 46 (.tmp d8) (.tmp d4))
  (h10:∀ρ w,ρ (.tmp d0)=.pointer (some ⟨gp,0,none⟩)->(execOp ρ qp).run Tryz.prog w=.ok (.value (.pointer (some ⟨gp,0,none⟩))) w)
  (h11:∀ρ w,ρ (.tmp d10)=.pointer (some ⟨gp,0,none⟩)->(execOp ρ xh).run Tryz.prog w=.ok (.value (.pointer (some ⟨gp,k,none⟩))) w)
  (h12:∀ρ w A m c,ρ (.tmp d11)=.pointer (some ⟨gp,k,none⟩)->ρ (.tmp d7)=.slice A m c->w.cell? ⟨gp,k,none⟩=some r->w.frozen? ⟨gp,k,none⟩=false->(execOp ρ vg).run Tryz.prog w=.ok .skip (w.setCell ⟨gp,k,none⟩ (.slice A m c)))
  (hcs:cs[k]?=some r) (hB:B<=W.heap.size) (hblk:aB W gp 81 cs) (hown:aH bF 46 7 W B r ys) (hlen:ys.length<=1000000)
  (hgx:aB W gx 46 (bF y).toArray) (hxg:gx≠gp) (hxr:r.ownBlock≠some gx)
  (mg:∀a w,LaB gp k B W cs r ys y a true true w->bD (λ _ _ _=>True) (λ a w=>wpList Tryz.prog [o0,o1,o2,o3,o4,o5,o6,o7,o8,o9,qp,xh,vg].toArray Q [] a w) [o0,o1,o2,o3,o4,o5,o6,o7,o8,o9,qp,xh,vg] 0 a0 w):
  (Code.region id [o0,o1,o2,o3,o4,o5,o6,o7,o8,o9,qp,xh,vg].toArray true).wp Tryz.prog Q a0 W:=by
 simp only[aoi,Bool.and_eq_true,beq_iff_eq,Option.isNone_iff_eq_none] at Cj;obtain⟨⟨⟨⟨⟨⟨⟨⟨⟨⟨⟨⟨⟨⟨⟨⟨⟨⟨⟨⟨⟨⟨⟨⟨⟨⟨⟨⟨⟨⟨⟨⟨⟨⟨⟨⟨⟨⟨⟨⟨⟨⟨⟨⟨⟨⟨t0,auI⟩,t1⟩,auJ⟩,t2⟩,auK⟩,t3⟩,auL⟩,t4⟩,auM⟩,t5⟩,auN⟩,t6⟩,t7⟩,auO⟩,auP⟩,t8⟩,auQ⟩,auR⟩,t9⟩,auS⟩,auT⟩,t10⟩,aol⟩,t11⟩,aom⟩,t12⟩,aon⟩,aoo⟩,g0⟩,g1⟩,g2⟩,g3⟩,g4⟩,g5⟩,g6⟩,g7⟩,g8⟩,g9⟩,g10⟩,g11⟩,g12⟩,auU⟩,aBE⟩,auV⟩,auW⟩,aop⟩:=Cj;refine qR [] [o0,o1,o2,o3,o4,o5,o6,o7,o8,o9,qp,xh,vg] Vb (λ i=>if i=0 then .pointer (some ⟨gp,0,none⟩)else if i=1 then .pointer (some ⟨gp,0,none⟩)else if i=2 then .pointer (some ⟨gp,k,none⟩)else if i=4 then(.agg (bF y).toArray)else if i=5 then .int .i64 (ys.length:Int)else if i=10 then .pointer (some ⟨gp,0,none⟩)else if i=11 then .pointer (some ⟨gp,k,none⟩)else undef) [3,6,7,8,9,12] (Ac gp k B W cs r ys y) L3 ⟨rfl,rfl,rfl,(λ x e=>by cases e),⟨Below.refl _ _,λ x e=>by cases e⟩⟩ hm aZ rfl rfl ?_ ?_
 ·refine⟨?_,?_,?_,?_,?_,?_,?_,?_,?_,?_,?_,?_,?_,trivial⟩
  ·intro ρ w σ hc hG hr he hno;rw[t0] at hr;have r0:=hr.1;simp only[auI] at r0;refine⟨g0,?_⟩;exact h0 ρ w (r0.trans es0)
  ·intro ρ w σ hc hG hr he hno;rw[t1] at hr;have r0:=hr.1;simp only[auJ] at r0;unfold ny at r0;rw[if_neg WC] at r0;refine⟨g1,?_⟩;exact h1 ρ w r0
  ·intro ρ w σ hc hG hr he hno;rw[t2] at hr;have r0:=hr.1;simp only[auK] at r0;unfold ny at r0;rw[if_neg WC] at r0;refine⟨g2,?_⟩;exact h2 ρ w r0
  ·intro ρ w σ hc hG hr he hno;rw[t3] at hr;have r0:=hr.1;simp only[auL] at r0;unfold ny at r0;rw[if_neg WC] at r0;refine⟨g3,?_⟩;rw[if_pos WC];have pR:=hno WC;unfold Ac at hG
   have ha:σ 7=none:=by
    cases ha:σ 7 with
    | none=>rfl
    | some a=>rw[ha] at hG;have:=hG.1;rw[pR] at this;cases this
   rw[ha] at hG;obtain⟨k1,k2,k3,k4,hA⟩:=hG;refine aq (h3 ρ w r0 ?_) ?_
   ·rw[(hblk.later hA.below).cell];exact hcs
   show Ac gp k B W cs r ys y _ _;unfold Ac;simp only[jJ,ha,k1,k2,k3,Nat.reduceEqDiff,if_true,if_false];exact⟨trivial,trivial,trivial,λ x e=>by injection e with e;exact e.symm,hA⟩
  ·intro ρ w σ hc hG hr he hno;rw[t4] at hr;have r0:=hr.1;simp only[auM] at r0;refine⟨g4,?_⟩;refine h4 ρ w (r0.trans es1) ?_;unfold Ac at hG
   cases ha:σ 7 with
   | none=>rw[ha] at hG;exact hgx.later hG.2.2.2.2.below
   | some a=>rw[ha] at hG;exact(hG.2.2.2.1.far gx hgx.lt hxg hxr).trans hgx
  ·intro ρ w σ hc hG hr he hno;rw[t5] at hr;have r0:=hr.1;simp only[auN] at r0;unfold ny at r0;rw[if_pos WC] at r0;refine⟨g5,?_⟩;refine h5 ρ w ?_;unfold Ac at hG
   cases ha:σ 7 with
   | none=>rw[ha] at hG;exact hG.2.2.2.1 _ r0
   | some a=>rw[ha] at hG;exact hG.2.2.1 _ r0
  ·intro ρ w σ hc hG hr he hno;rw[t6] at hr;refine⟨g6,?_⟩;rw[if_pos WC];have pR:=hno WC;unfold Ac at hG
   have ha:σ 7=none:=by
    cases ha:σ 7 with
    | none=>rfl
    | some a=>rw[ha] at hG;have:=hG.2.1;rw[pR] at this;cases this
   rw[ha] at hG;obtain⟨k1,k2,k3,k4,hA⟩:=hG;refine aq (h6 ρ w hc) ?_;show Ac gp k B W cs r ys y _ _;unfold Ac;simp only[jJ,ha,k1,k2,k3,Nat.reduceEqDiff,if_true,if_false];exact⟨trivial,trivial,trivial,k4,⟨hA.below.alloc hA.below.size _,λ x e=>by injection e with e;exact⟨w.heap.size,e.symm,aB.new w _ _⟩⟩⟩
  ·intro ρ w σ hc hG hr he hno;rw[t7] at hr;have r0:=hr.1;simp only[auO] at r0;unfold ny at r0;rw[if_pos WC] at r0;have r1:=hr.2.1;simp only[auP] at r1;unfold ny at r1;rw[if_pos WC] at r1;refine⟨g7,?_⟩;rw[if_pos WC];have pR:=hno WC;unfold Ac at hG;rw[pR] at hG;obtain⟨k1,k2,k3,k4,hA⟩:=hG;have auX:=he 3 (cL.1 auU) WC;obtain⟨lv,hlv⟩:=Option.isSome_iff_exists.1 auX;obtain⟨z0,hz1,hz2⟩:=hA.zero _ r1;obtain⟨v',w',hrun,ho,yF,Ew⟩:=eM (P:=Tryz.prog) (w:=w) 23 23 _ 88 Tryz.underlying23 fL rfl Tq (λ _=>rfl) (y:=wF) (by simp[bF,wF,Value.oneCell']) (hown.later hA.below) z0 hz2 Tq Tq (Nat.le_trans hB hA.below.size);rw[<- hz1] at hrun;refine aq (h7 ρ w _ v' w' (k4 _ r0) rfl hrun) ?_;show Ac gp k B W cs r ys y _ _;unfold Ac;simp only[jJ,hlv,k1,k2,k3,r1,Nat.reduceEqDiff,if_true,if_false,Option.isSome_some,Option.isSome_none];have nK:=hblk.later hA.below;have hb2:=dB nK (hown.later hA.below) WC yF.grown;obtain⟨q,c,hq,_,_⟩:=ho.block Vb;refine⟨trivial,trivial,λ x e=>k4 x (hlv.trans e),⟨⟨q,c,by rw[hq,length_append];rfl,λ e=>ho.other hb2 WC (by rw[hq,e];rfl)⟩,ho,hb2,λ b h1 h2 h3=>(yF.grown.block b (Nat.lt_of_lt_of_le h1 hA.below.size) (Ne.symm h3)).trans (hA.below.block b h1),yF.grown.os.trans hA.below.os,yF.grown.tape.trans hA.below.tape,yF.grown.output.trans hA.below.output,Nat.le_trans hA.below.size yF.grown.size,Ew.later hA.below.size⟩,λ x e=>by cases e⟩
  ·intro ρ w σ hc hG hr he hno;rw[t8] at hr;have r0:=hr.1;simp only[auQ] at r0;unfold ny at r0;rw[if_pos WC] at r0;have r1:=hr.2.1;simp only[auR] at r1;unfold ny at r1;rw[if_neg WC] at r1;refine⟨g8,?_⟩;rw[if_pos WC];have pR:=hno WC;unfold Ac at hG;have ha:=he 7 (cL.1 auV) WC;open zhK in exact Zf2
  ·intro ρ w σ hc hG hr he hno;rw[t9] at hr;have r0:=hr.1;simp only[auS] at r0;unfold ny at r0;rw[if_pos WC] at r0;have r1:=hr.2.1;simp only[auT] at r1;unfold ny at r1;rw[if_neg WC] at r1;refine⟨g9,?_⟩;rw[if_pos WC];have pR:=hno WC;unfold Ac at hG;have ha:=he 7 (cL.1 auW) WC;open zhL in exact Zf2
  ·intro ρ w σ hc hG hr he hno;rw[t10] at hr;have r0:=hr.1;simp only[aol] at r0;unfold ny at r0;rw[if_neg WC] at r0;refine⟨g10,?_⟩;exact h10 ρ w r0
  ·intro ρ w σ hc hG hr he hno;rw[t11] at hr;have r0:=hr.1;simp only[aom] at r0;unfold ny at r0;rw[if_neg WC] at r0;refine⟨g11,?_⟩;exact h11 ρ w r0
  ·intro ρ w σ hc hG hr he hno;rw[t12] at hr;have r0:=hr.1;simp only[aon] at r0;unfold ny at r0;rw[if_neg WC] at r0;have r1:=hr.2.1;simp only[aoo] at r1;unfold ny at r1;rw[if_pos WC] at r1;refine⟨g12,?_⟩;rw[if_pos WC];have pR:=hno WC;unfold Ac at hG;have ha:=he 7 (cL.1 aop) WC;open zhM in exact Zf2
 ·intro σ w hall hG;have ha:=hall 7 WC;obtain⟨a,ha⟩:=Option.isSome_iff_exists.1 ha;have h9:=hall 9 WC;have h12:=hall 12 WC;unfold Ac at hG;rw[ha,h9,h12] at hG;exact bD.weaken (λ _ _ _ _=>trivial) (mg a w hG.2.2.2.1)
end
end Go.Proofs.YtndgjggokjickaaGreatDoor
