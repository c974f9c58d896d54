/- Parts of the proof. -/
import Derived.RangeFuncNested
import Derived.RangeFuncBound
import Derived.Shelf.RegionOpen
import Derived.OwnWalkIn
import Derived.LoopNIn
import Derived.LoopIn
import Derived.Test.YtndgjggokjickaaGreatDoorXW6
namespace Go.Proofs.YtndgjggokjickaaGreatDoor
variable{p:Prop}
set_option maxHeartbeats 90000000
set_option maxRecDepth 100000
open Go.ChangeShapes Go.WideShapes Go.ChangeAt Go.RowKit List
set_option linter.unusedVariables false
set_option linter.unusedSimpArgs false
theorem Ey (gx:Nat)(A:Option Addr)(c:Nat)(args:List (Ex×Bool))(w:World)(hl:args.length<=1599289640356)(hA:RE w w.heap.size A (args.map (·.1)))(hE:∀a∈args,∀W,aj w W->ar 151 #[.agg (ay a.1),aw gx] W λ e w'=>e=.returned (.bool a.2)/\aj W w'):
  ar 150 #[.slice A args.length c,.func (.func 151) #[] #[.pointer (some ⟨gx,0,none⟩)]] w λ e w'=>e=.returned (.int .i64 (fU (args.map (·.2))))/\aj w w':=by exact ZaM
theorem Jg (gx:Nat)(y x:Ex)(b:Bool)(w:World)(hg:aB w gx 46 (bF x).toArray)(h:mJ w y x b):
  ar 151 #[.agg (ay y),aw gx] w λ e w'=>e=.returned (.bool b)/\aj w w':=by
 have hgx:=hg.lt;have bb:=ah w (.cells (ay y) 46);have hR:=aB.new w 46 (ay y);have HX:=hg.later bb;unfold bF at HX;have hs:=h _ bb;have zJ:=aa bb;have HS:=aa hs;have PX:=aa hgx;clear hs h bb hg hgx;go_enter Tryz.func151,Tryz.ntmps151;go_upto_region 1 with fail;have jq:=λ i=>HX.cell i
 have xO:=λ i=>hR.cell i
 have fx:=HX.frozen;generalize World.alloc w _=W at*;obtain⟨g2,Wo⟩:∃g2,g2=w.heap.size:=⟨_,rfl⟩;rw[<- Wo] at hR xO ⊢;clear Wo hR HX;have c0:=jq 0;have c1:=jq 1;have c2:=jq 2;have y3:=jq 3;have c4:=jq 4;have c5:=jq 5;have c6:=jq 6;have b0:=xO 0;have b1:=xO 1;have b2:=xO 2;have b3:=xO 3;have b4:=xO 4;have b5:=xO 5;have b6:=xO 6;clear jq xO fx;simp only[Uaa] at c0 c1 c2 y3 c4 c5 c6 b0 b1 b2 b3 b4 b5 b6;go_wp2_with fail;refine HS.ae.mono ?_;rintro e w1 ⟨rfl,b1⟩;have hb1:=ai.then zJ.ae b1;clear c0 c1 c2 y3 c4 c5 c6 b0 b1 b2 b3 b4 b5 b6;go_wp2_with fail;go_ret;exact⟨rfl,hb1⟩
variable{α:Type}
theorem nV(f:α->Bool):∀l:List α,fU (l.map f)=match l.findIdx? f with | some k=>(k:Int)| none=> -1
 | []=>rfl
 | x::l=>by
   rw[map_cons,findIdx?_cons];unfold fU;by_cases h:f x=true
   ·rw[if_pos h,if_pos h];rfl
   ·rw[if_neg h,if_neg h,nV f l];cases l.findIdx? f with
    | none=>rfl
    | some k=>show(if (k:Int)< 0 then(-1:Int)else(k:Int)+1)=((k+1:Nat):Int);rw[if_neg WC];rfl
theorem CC:∀(ts:List Tr) (ys:List Ex) (x:Tr) (z:Ex) (w:World),Tr.cL ts->x.ok->Tr.aO w (Old w) ts ys->x.at_ w (Old w) z->∃args:List (Ex×Bool),args.map (·.1)=ys/\args.map (·.2)=ts.map (λ g=>g.same x)/\∀a∈args,mJ w a.1 z a.2
 | [],ys,x,z,w,_,_,hat,_=>by unfold Tr.aO at hat;subst hat;exact⟨[],rfl,rfl,by simp⟩
 | t::ts,ys,x,z,w,aZ,hx,hat,hz=>by
   unfold Tr.aO at hat;unfold Tr.cL at aZ;obtain⟨y,ys',rfl,h2,h3⟩:=hat;obtain⟨l,ft,hl2,tT⟩:=CC ts ys' x z w aZ.2 hx h3 hz;refine⟨(y,t.same x)::l,by simp[ft],by simp[hl2],λ a ha=>?_⟩;rcases List.mem_cons.1 ha with rfl | ha
   ·exact Tr.Kz t x y z w aZ.1 hx h2 hz
   ·exact tT a ha
variable{w w':World}{z:Ex}
theorem mJ.later{y:Ex} {b:Bool}(h:mJ w y z b)(hb:aj w w'):mJ w' y z b:=λ W hW=>h W (ai.then hb hW)
theorem lx (aL:List Tr)(A:Option Addr)(n c gx:Nat)(x:Tr)(z:Ex)(w:World)(hl:aL.length<=1599289640356)(hG:gJ w aL A n)(aZ:Tr.cL aL)(hx:x.ok)(hz:x.at_ w (Old w) z)(hg:aB w gx 46 (bF z).toArray):
  ar 150 #[.slice A n c,.func (.func 151) #[] #[.pointer (some ⟨gx,0,none⟩)]] w λ e w'=>e=.returned (.int .i64 (fU (aL.map λ g=>g.same x)))/\aj w w':=by
 obtain⟨rfl,Kx,h1,h2⟩:=hG;obtain⟨ys,a1,a2,a3⟩:=CC aL Kx x z w aZ hx h2 hz;have C3:ys.length=aL.length:=by have:=congrArg List.length a2;simpa using this
 have k:=Ey gx A c ys w WC (by rw[a1];exact h1.old) (λ a ha W hW=>Jg gx a.1 z a.2 W (hg.later hW) ((a3 a ha).later hW));rw[C3,a2] at k;exact k
theorem Tr.ind{P:Tr->Prop}(h:∀op v name width args,(∀a∈args,P a)->P (.mk op v name width args)):∀t,P t:=by
 intro t;exact Tr.rec (motive_1:=P) (motive_2:=λ ts=>∀a∈ts,P a) (λ op v name width args ih=>h op v name width args ih) (λ a ha=>by cases ha) (λ t ts h1 h2 a ha=>by
  rcases List.mem_cons.1 ha with rfl | ha
  ·exact h1
  ·exact h2 a ha) t
mutual
def Tr.nodes:Tr->Nat
 | .mk _ _ _ _ args=>Tr.aQ args+1
def Tr.aQ:List Tr->Nat
 | []=>0
 | t::ts=>t.nodes+Tr.aQ ts
end
theorem fW:∀ts:List Tr,Tr.aQ ts=(ts.map Tr.nodes).sum
 | []=>rfl
 | t::ts=>by unfold Tr.aQ;rw[fW ts];rfl
theorem dM:∀ {ts:List Tr},Tr.cL ts↔∀t∈ts,t.ok
 | []=>by unfold Tr.cL;simp
 | t::ts=>by unfold Tr.cL;rw[dM];simp
variable{ts us:List Tr}
theorem mh:Tr.cL (ts++us)↔Tr.cL ts/\Tr.cL us:=by
 rw[dM,dM,dM];constructor
 ·intro h;exact⟨λ t ht=>h t (List.mem_append.2 (.inl ht)),λ t ht=>h t (List.mem_append.2 (.inr ht))⟩
 ·rintro⟨h1,h2⟩ t ht;rcases List.mem_append.1 ht with h | h
  ·exact h1 t h
  ·exact h2 t h
theorem G1 (k:Nat):(Eh k).ok:=by unfold Eh Tr.ok;refine⟨⟨by decide,by decide⟩,by simp,by decide,by decide,by decide,?_⟩;unfold Tr.cL;trivial
theorem nX (aL:List Tr)(cols:List aW)(s:dy):Tr.turns aL cols [] s=.ok ([],s):=by unfold Tr.turns;rfl
theorem jK (aL:List Tr)(cols:List aW)(t:Tr)(ts:List Tr)(s:dy):Tr.turns aL cols (t::ts) s=match Tr.turn aL cols t s with
  | .error e=> .error e
  | .ok (y,s')=>match Tr.turns aL cols ts s' with
    | .error e=> .error e
    | .ok (ys,Lf)=> .ok (y::ys,Lf):=by
 conv=>lhs;unfold Tr.turns
 rfl
theorem xU (aL:List Tr)(cols:List aW):∀(l m:List Tr) (s:dy),Tr.turns aL cols (l++m) s=match Tr.turns aL cols l s with
  | .error e=> .error e
  | .ok (y,s')=>match Tr.turns aL cols m s' with
    | .error e=> .error e
    | .ok (ys,Lf)=> .ok (y++ys,Lf)
 | [],m,s=>by
   rw[nil_append,nX];dsimp only;cases Tr.turns aL cols m s with
   | error e=>rfl
   | ok x=>rfl
 | t::l,m,s=>by
   rw[cons_append,jK,jK];cases Tr.turn aL cols t s with
   | error e=>rfl
   | ok x=>
     obtain⟨y,s1⟩:=x;dsimp only;rw[xU aL cols l m s1];cases Tr.turns aL cols l s1 with
     | error e=>rfl
     | ok x=>
       obtain⟨ys,s2⟩:=x;dsimp only;cases Tr.turns aL cols m s2 with
       | error e=>rfl
       | ok x=>rfl
theorem Vw (aL:List Tr)(cols:List aW)(t:Tr)(s:dy):Tr.turns aL cols [t] s=match Tr.turn aL cols t s with
  | .error e=> .error e
  | .ok (y,s')=> .ok ([y],s'):=by
 rw[jK]
 cases Tr.turn aL cols t s with
 | error e=>rfl
 | ok x=>obtain⟨y,s1⟩:=x;dsimp only;rw[nX]
variable{t:Tr}{s s1 s2:dy}
theorem PY{aL:List Tr} {cols:List aW} {l:List Tr} {y:Tr}  {ys:List Tr}(h:Tr.turns aL cols l s=.ok (ys,s1))(k:Tr.turn aL cols t s1=.ok (y,s2)):Tr.turns aL cols (l++ [t]) s=.ok (ys++ [y],s2):=by rw[xU,h];dsimp only;rw[Vw,k]
variable{m:List Tr}
theorem PZ{aL:List Tr} {cols:List aW} {l:List Tr}   {ys:List Tr} {e:Int}(h:Tr.turns aL cols l s=.ok (ys,s1))(k:Tr.turn aL cols t s1=.error e):Tr.turns aL cols (l++t::m) s=.error e:=by rw[xU,h];dsimp only;rw[jK,k]
theorem sQ{aL:List Tr} {cols:List aW}:∀ {l:List Tr} {s s1:dy} {ys:List Tr},Tr.turns aL cols l s=.ok (ys,s1)->ys.length=l.length
 | [],s,s1,ys,h=>by rw[nX] at h;injection h with h;injection h with h1 h2;rw[<- h1]
 | t::l,s,s1,ys,h=>by
   rw[jK] at h;split at h
   ·cases h
   ·split at h
    ·cases h
    ·rename_i h2;injection h with h;injection h with h3 h4;rw[<- h3,length_cons,sQ h2];rfl
theorem sR (aL:List Tr)(cols:List aW)(op:Int)(v:Val)(name:ByteArray)(width:Int)(args:List Tr)(s:dy):Tr.turn aL cols (.mk op v name width args) s=match aL.findIdx? (λ g=>g.same (.mk op v name width args))with
  | some k=> .ok (Eh k,s)
  | none=>
    if isAgg op=true then
     if (fV cols op args).2≠0 then .error (fV cols op args).2
     else .ok (Eh s.aL.length,⟨s.aJ++ [.mk op v name width args],s.aL++ [⟨jb s.aL.length,(fV cols op args).1⟩]⟩)
    else match Tr.turns aL cols args s with
     | .error e=> .error e
     | .ok (ys,s')=>
       if op=2 then .error (qV cols v name width ys.length)
       else if ((Tr.mk op v name width ys).type s'.aL).2≠0 then .error ((Tr.mk op v name width ys).type s'.aL).2
       else .ok (.mk op v name width ys,s'):=by
 conv=>lhs;unfold Tr.turn
 rfl
theorem G3 (cols:List aW)(v:Val)(name:ByteArray)(width:Int)(n:Nat):qV cols v name width n≠0:=by
 unfold qV;dsimp only;split
 ·assumption
 ·decide
structure Gm (t:Tr) (s:dy) (r:Except Int (Tr×dy)):Prop where
 err:∀e,r=.error e->e≠0
 ok:∀y s',r=.ok (y,s')->t.ok->y.ok
 len:∀y s',r=.ok (y,s')->s'.aL.length+s'.aJ.length<=s.aL.length+s.aJ.length+2*t.nodes
 aok:∀y s',r=.ok (y,s')->t.ok->Tr.cL s.aJ->Tr.cL s'.aJ
structure pC (ts:List Tr) (s:dy) (r:Except Int (List Tr×dy)):Prop where
 err:∀e,r=.error e->e≠0
 ok:∀y s',r=.ok (y,s')->Tr.cL ts->Tr.cL y
 len:∀y s',r=.ok (y,s')->s'.aL.length+s'.aJ.length<=s.aL.length+s.aJ.length+2*Tr.aQ ts
 aok:∀y s',r=.ok (y,s')->Tr.cL ts->Tr.cL s.aJ->Tr.cL s'.aJ
theorem ku{aL:List Tr} {cols:List aW}:∀ {ts:List Tr},(∀t∈ts,∀s,Gm t s (Tr.turn aL cols t s))->∀s,pC ts s (Tr.turns aL cols ts s)
 | [],_,s=>by rw[nX];exact⟨λ e h=> Tad,λ y s' h _=>by injection h with h;injection h with h1 h2;rw[<- h1];unfold Tr.cL;trivial,λ y s' h=>by injection h with h;injection h with h1 h2;rw[<- h2];omega,λ y s' h _ ha=>by injection h with h;injection h with h1 h2;rw[<- h2];exact ha⟩
 | t::ts,H,s=>by
   have h1:=H t Tac s;rw[jK];cases hr:Tr.turn aL cols t s with
   | error e=>rw[hr] at h1;exact⟨λ e' h=>by injection h with h;rw[<- h];exact h1.err _ rfl,λ y s' h=> Tad,λ y s' h=> Tad,λ y s' h=> Tad⟩
   | ok x=>
     obtain⟨y1,s1⟩:=x;rw[hr] at h1;have h2:=ku (λ t ht=>H t (mem_cons_of_mem _ ht)) s1;dsimp only;cases hq:Tr.turns aL cols ts s1 with
     | error e=>rw[hq] at h2;exact⟨λ e' h=>by injection h with h;rw[<- h];exact h2.err _ rfl,λ y s' h=> Tad,λ y s' h=> Tad,λ y s' h=> Tad⟩
     | ok x=>
       obtain⟨ys,s2⟩:=x;rw[hq] at h2;have l1:=h1.len _ _ rfl;have l2:=h2.len _ _ rfl;refine⟨λ e' h=> Tad,λ y s' h aZ=>?_,λ y s' h=>?_,λ y s' h aZ ha=>?_⟩
       ·injection h with h;injection h with e1 e2;rw[<- e1];unfold Tr.cL at aZ ⊢;exact⟨h1.ok _ _ rfl aZ.1,h2.ok _ _ rfl aZ.2⟩
       ·injection h with h;injection h with e1 e2;rw[<- e2];have:Tr.aQ (t::ts)=t.nodes+Tr.aQ ts:=by rw[Tr.aQ]
        omega
       ·injection h with h;injection h with e1 e2;rw[<- e2];unfold Tr.cL at aZ;exact h2.aok _ _ rfl aZ.2 (h1.aok _ _ rfl aZ.1 ha)
theorem iG (aL:List Tr)(cols:List aW):∀(t:Tr) (s:dy),Gm t s (Tr.turn aL cols t s):=by
 refine Tr.ind ?_;intro op v name width args ih s;rw[sR];have hn:(Tr.mk op v name width args).nodes=Tr.aQ args+1:=by rw[Tr.nodes]
 cases hf:aL.findIdx? (λ g=>g.same (.mk op v name width args))with
 | some k=>dsimp only;exact⟨λ e h=> Tad,λ y s' h _=>by injection h with h;injection h with h1 h2;rw[<- h1];exact G1 k,λ y s' h=>by injection h with h;injection h with h1 h2;rw[<- h2];omega,λ y s' h _ ha=>by injection h with h;injection h with h1 h2;rw[<- h2];exact ha⟩
 | none=>
   dsimp only;by_cases ha:isAgg op=true
   ·rw[if_pos ha];by_cases ht:(fV cols op args).2≠0
    ·rw[if_pos ht];exact⟨λ e h=>by injection h with h;rw[<- h];exact ht,λ y s' h=> Tad,λ y s' h=> Tad,λ y s' h=> Tad⟩
    ·rw[if_neg ht];refine⟨λ e h=> Tad,λ y s' h aZ=>?_,λ y s' h=>?_,λ y s' h aZ hao=>?_⟩
     ·injection h with h;injection h with h1 h2;rw[<- h1];exact G1 _
     ·injection h with h;injection h with h1 h2;rw[<- h2];simp only[length_append,length_singleton];omega
     ·injection h with h;injection h with h1 h2;rw[<- h2,mh];refine⟨hao,?_⟩;unfold Tr.cL;refine⟨aZ,?_⟩;unfold Tr.cL;trivial
   ·rw[if_neg ha];have h2:=ku ih s
    cases hq:Tr.turns aL cols args s with
    | error e=>rw[hq] at h2;exact⟨λ e' h=>by injection h with h;rw[<- h];exact h2.err _ rfl,λ y s' h=> Tad,λ y s' h=> Tad,λ y s' h=> Tad⟩
    | ok x=>
      obtain⟨ys,s1⟩:=x;rw[hq] at h2;have hl:=sQ hq;have l2:=h2.len _ _ rfl;dsimp only;by_cases ho:op=2
      ·rw[if_pos ho];exact⟨λ e' h=>by injection h with h;rw[<- h];exact G3 _ _ _ _ _,λ y s' h=> Tad,λ y s' h=> Tad,λ y s' h=> Tad⟩
      ·rw[if_neg ho];by_cases ht:((Tr.mk op v name width ys).type s1.aL).2≠0
       ·rw[if_pos ht];exact⟨λ e' h=>by injection h with h;rw[<- h];exact ht,λ y s' h=> Tad,λ y s' h=> Tad,λ y s' h=> Tad⟩
       ·rw[if_neg ht];refine⟨λ e' h=> Tad,λ y s' h aZ=>?_,λ y s' h=>?_,λ y s' h aZ hao=>?_⟩
        ·injection h with h;injection h with h1 h3;rw[<- h1];unfold Tr.ok at aZ ⊢;exact⟨aZ.1,by rw[hl];exact aZ.2.1,aZ.2.2.1,aZ.2.2.2.1,aZ.2.2.2.2.1,h2.ok _ _ rfl aZ.2.2.2.2.2⟩
        ·injection h with h;injection h with h1 h3;rw[<- h3];omega
        ·injection h with h;injection h with h1 h3;rw[<- h3];unfold Tr.ok at aZ;exact h2.aok _ _ rfl aZ.2.2.2.2.2 hao
variable{q B:Nat}
theorem xV(h:w.grownBy w' (some q))(hB:B<=w.heap.size)(hq:B<=q):Below B w w':=
 ⟨h.os,h.tape,h.output,h.size,λ k hk=>h.block k WC λ e=>by injection e with e;omega⟩
variable{u v:Value}
theorem Mv.later(h:Mv w' u v)(hs:w.heap.size<=w'.heap.size):Mv w u v:=by
 rcases h with h | h
 ·exact .inl h
 ·exact .inr λ q hq=>Nat.le_trans hs (h q hq)
variable{f:α->List Value}{e:TypeId}{lv:Value}{l:List α}{P:Program}
theorem zdw.KaF(h:p:=by refine⟨v',w',hr,ho,ha,?_⟩;exact ZfE):p:=h
theorem eN{size:Nat} {base:Nat}   {y:α}  (t ty:TypeId)(z:Value)(bytes:Nat)(ht:P.underlying t=some (.slice e))(jr:(P.info? e).map (λ i=>(i.zero,i.size,i.bytes))=some (some z,size,bytes))(hzs:z.cells.size=size)(hsz:0 < size)
  (hf:∀x,(f x).length=size) (h1:∀u∈f y,u.oneCell'=true) (hown:aF f e size w base lv l)
  (g0:Nat) (hg0:aB w g0 e (f y).toArray) (hlen:(l.length+1)*bytes<=140737488355328) (mD:l.length+1<=140737488355328) (hbase:base<=w.heap.size):
  ∃v' w',(Builtin.append_ #[t,t] ty #[lv,aI g0 1 1]).run P w=.ok v' w'/\aF f e size w' base v' (l++ [y])/\AR f e size base lv l y w w'/\Mv w lv v':=by
 open zdw in exact ZbD
structure PC where
 q0:Value
 q1:Value
 q2:Value
 q3:Value
 q5:Value
 q6:Value
 q7:Value
 gA:Option Addr
 gn:Nat
 gc:Nat
 cA:Option Addr
 cc:Nat
 aK:Bool
 aL:List Tr
 cols:List aW
structure Rest where
 h:Value
 i:Value
 j:Value
 o:Value
def PC.cells (c:PC)(r:Rest)(u v:Value):Array Value:= #[c.q0,c.q1,c.q2,c.q3,.slice c.gA c.gn c.gc,c.q5,c.q6,c.q7,.slice c.cA c.cols.length c.cc,u,v,.bool c.aK,r.h,r.i,r.j,r.o]
structure PC.Ok (c:PC) (w0:World):Prop where
 env:zH w0
 aL:gJ w0 c.aL c.gA c.gn
 gok:Tr.cL c.aL
 gl:c.aL.length<=1000000
 cols:RC w0 w0.heap.size c.cA c.cols
 cl:c.cols.length<=1000000
structure eJ (c:PC) (w0:World) (gp:Nat) (r:Rest) (w:World) (u v:Value) (ya:List Ex) (s:dy):Prop where
 low:w0.heap.size<=gp
 base:aj w0 w
 blk:aB w gp 81 (c.cells r u v)
 kN:aF bF 46 7 w w0.heap.size u ya
 dJ:aF aS 113 2 w w0.heap.size v s.aL
 aJ:Tr.aO w0 (Old w0) s.aJ ya
section
variable {c:PC} {w0 w w':World} {gp:Nat} {r:Rest} {u v:Value} {ya:List Ex} {s:dy}
theorem eJ.later (h:eJ c w0 gp r w u v ya s)(hb:aj w w'):eJ c w0 gp r w' u v ya s:=
 ⟨h.low,Below.trans h.base (hb.mono h.base.size),h.blk.later hb,h.kN.later hb,h.dJ.later hb,h.aJ⟩
theorem eJ.kp9 (h:eJ c w0 gp r w u v ya s):∀q,u.ownBlock=some q->w0.heap.size<=q:=λ q hq=>(h.kN.lt hq).2.1
theorem eJ.aua (h:eJ c w0 gp r w u v ya s):∀q,v.ownBlock=some q->w0.heap.size<=q:=λ q hq=>(h.dJ.lt hq).2.1
theorem eJ.fresh (h:eJ c w0 gp r w u v ya s) {w2:World} {g:Nat}(hg:w.heap.size<=g)(hg2:g < w2.heap.size):Kp w2 gp [u,v] g:=
 ew.2 ⟨hg2,by have:=h.blk.lt;omega,λ e=>by have:=(h.kN.lt e).1;omega,λ e=>by have:=(h.dJ.lt e).1;omega⟩
theorem eJ.aside (h:eJ c w0 gp r w u v ya s) {q:Nat}(hg:w.grownBy w' (some q))(hq:Kp w gp [u,v] q)(hl:w0.heap.size<=q):eJ c w0 gp r w' u v ya s:=by rw[ew] at hq;exact⟨h.low,Below.trans h.base (xV hg h.base.size hl),h.blk.grown hg (λ e=>by injection e with e;exact hq.2.1 e.symm),h.kN.grown hg hq.2.2.1,h.dJ.grown hg hq.2.2.2,h.aJ⟩
end
def rG (c:PC)(w0:World)(gp:Nat)(r:Rest)(u v:Value)(w:World)(x:Except Int (Tr×dy))(e:Ending)(w':World):Prop:=
 match x with
 | .error er=>∃(y:Ex) (u' v':Value),e=.returned (.tuple #[.agg (ay y),af er])/\gL gp w u v w' u' v'
 | .ok (t,s)=>∃y u' v' ya,e=.returned (.tuple #[.agg (ay y),af 0])/\t.at_ w' (λ b=>w.heap.size<=b/\Kp w' gp [u',v'] b) y/\eJ c w0 gp r w' u' v' ya s/\gL gp w u v w' u' v'
def G5 (c:PC)(w0:World)(gp:Nat)(r:Rest)(t:Tr):Prop:=∀(z:Ex) (s:dy) (u v:Value) (ya:List Ex) (w:World),t.ok->t.at_ w0 (Old w0) z->eJ c w0 gp r w u v ya s->s.aL.length+s.aJ.length+2*t.nodes<=1000000->
 ar 99 #[aw gp,.agg (ay z)] w (rG c w0 gp r u v w (t.turn c.aL c.cols s))
theorem BK (k:Nat)(w:World)(S:Nat->Prop):(Eh k).at_ w S (KZ k):=by unfold Eh Tr.at_ KZ;exact Zhi
theorem zbL.Kak(h:p:=by
 refine bodyPost_ret (v:=.tuple #[.agg #[ag 2,ag 0,af 0,au,.string nm,af 0,az],af 0]) Tah rfl ?_;refine⟨⟨2,⟨0,0,⟨#[]⟩⟩,nm,0,none,0,0⟩,u,v,ya,rfl,by rw[SB.ae];exact BK k _ _,?_,?_⟩
 ·exact pD.ae.later hb9
 ·exact(gL.refl gp w u v).later hb9):p:=h
theorem zcz.Kau(h:p:=by
 have PK:=aa hb;obtain⟨nm,iX⟩:∃nm,nm=jb k:=⟨_,rfl⟩;rw[<- iX];have SB:=aa iX;clear iX hb;go_wp2_with fail;clear c0 c1 c2 y3 c4 c5 c6 Gp;generalize uw:World.setCell _ _ _=W9;have hR:aB W9 g4 46 #[ag 2,ag 0,af 0,au,.string nm,af 0,az]:=by rw[<- uw];simpa using(((((((PK.ae.aU 0 _).aU 1 _).aU 2 _).aU 3 _).aU 4 _).aU 5 _).aU 6 _)
 have hb9:aj w W9:=by rw[<- uw];exact((((((((tq.ae).setCell (p:=⟨g4,0,none⟩) mz.ae _).setCell (p:=⟨g4,1,none⟩) mz.ae _).setCell (p:=⟨g4,2,none⟩) mz.ae _).setCell (p:=⟨g4,3,none⟩) mz.ae _).setCell (p:=⟨g4,4,none⟩) mz.ae _).setCell (p:=⟨g4,5,none⟩) mz.ae _).setCell (p:=⟨g4,6,none⟩) mz.ae _)
 open zbL in exact ZaB):p:=h
theorem za3.Kac(h:p:=by have Od:=oU k WC WC;have eB:=aa hb1;have CE:=aa (sP.ae.later hb1);have hb:=qu.ae.later hb1;have aub:=aa (ia.ae.env.later CE.ae.base);clear c8 Kx c10 hb1 Gn hf;go_wp2_with fail;refine(Od w1 aub.ae).mono ?_;rintro e w2 ⟨rfl,hb2⟩;have tq:=aa (ai.then zJ.ae (ai.then eB.ae hb2));have uv:=aa (CE.ae.later hb2);replace hb:=hb.later hb2;have hz4:=hb.lt;clear hb2 Od;unfold mn KZ;have Gp:=hb.frozen;open zcz in exact Za7):p:=h
theorem Qa (c:PC)(w0:World)(gp:Nat)(r:Rest)(t:Tr)(z:Ex)(s:dy)(u v:Value)(ya:List Ex)(w:World)(k:Nat)(hf:c.aL.findIdx? (λ g=>g.same t)=some k)(aZ:c.Ok w0)(fX:t.ok)(hat:t.at_ w0 (Old w0) z)(nU:eJ c w0 gp r w u v ya s):
  ar 99 #[aw gp,.agg (ay z)] w (rG c w0 gp r u v w (.ok (Eh k,s))):=by
 have zu:k < c.aL.length:=by obtain⟨h,_⟩:=List.findIdx?_eq_some_iff_getElem.1 hf;exact h
 have zA:k<=1000000:=by have:=aZ.gl;omega
 open za3 in exact Zaq
theorem zbM.Kak(h:p:=by refine bodyPost_ret (v:=.tuple #[.agg dh,af er]) Tah rfl ?_;exact⟨⟨0,⟨0,0,⟨#[]⟩⟩,⟨#[]⟩,0,none,0,0⟩,u,v,rfl,(gL.refl gp w u v).later hb9⟩):p:=h
theorem zeY.Ka5(h:p:=by
 have hb9:aj w W9:=by rw[<- uw];exact((((((((tq.ae).setCell (p:=⟨g4,0,none⟩) mz.ae _).setCell (p:=⟨g4,1,none⟩) mz.ae _).setCell (p:=⟨g4,2,none⟩) mz.ae _).setCell (p:=⟨g4,3,none⟩) mz.ae _).setCell (p:=⟨g4,4,none⟩) mz.ae _).setCell (p:=⟨g4,5,none⟩) mz.ae _).setCell (p:=⟨g4,6,none⟩) mz.ae _)
 open zbM in exact ZaB):p:=h
theorem zgT.KbN(h:p:=by have PK:=aa hb;clear hb;open zeY in exact ZcL):p:=h
theorem zcx.Kat(h:p:=by
 have t1:(er != 0)=true:=by simp[her]
 have Gp:=hb.frozen;open zgT in exact Zey):p:=h
theorem za4.Kac(h:p:=by open zcx in exact Za6):p:=h
theorem Ji (c:PC)(w0:World)(gp:Nat)(r:Rest)(t:Tr)(z:Ex)(s:dy)(u v:Value)(ya:List Ex)(w:World)(hf:c.aL.findIdx? (λ g=>g.same t)=none)(ha:isAgg t.op=true)(ty er:Int)(ht:fV c.cols t.op t.args=(ty,er))(her:er≠0)(aZ:c.Ok w0)(fX:t.ok)(hat:t.at_ w0 (Old w0) z)(nU:eJ c w0 gp r w u v ya s):
  ar 99 #[aw gp,.agg (ay z)] w (rG c w0 gp r u v w (.error er)):=by
 open za4 in exact Zaq
theorem wj(w:World)(g q:Nat)(t ty:TypeId)(cur cells:Array Value)(hg:w.heap[g]?=some (.cells cur t (0,0)))(hi:(P.info? ty).map (·.size)=some cells.size)
  (pA:q+cells.size<=cur.size) (h1:cells.all (·.oneCell')=true):
  (storeVar ty ⟨g,q,none⟩ (.agg cells)).run P w=.ok () (w.setRow g (cur.toList.take q++cells.toList++cur.toList.drop (q+cells.size)).toArray):=by
 have:=run_storeCells_at P g q t cells.toList 0 cur w hg (by simpa using pA) (λ v hv=>(Array.all_eq_true_iff_forall_mem.1 h1) v (by simpa using hv));simp only[Nat.add_zero,Array.length_toList] at this
 cases hq:P.info? ty with
 | none=>simp[hq] at hi
 | some i=>
   have hs:cells.size=i.size:=by simp[hq] at hi;omega
   simp[storeVar,sizeOf,typeInfo,hq,Value.cells,hs] at this ⊢;rw[this]
theorem aF.block{size base:Nat}   (h:aF f e size w base v l)(hne:l≠ []):∃g c,v=aI g l.length c/\base<=g/\g < w.heap.size:=by
 rcases h.2 with ⟨_,h0⟩|⟨g,cap,cur,rfl,hb,hg,_⟩
 ·exact absurd (eq_nil_of_length_eq_zero h0) hne
 ·exact⟨g,cap,rfl,hb,(h.lt rfl).1⟩
theorem Gq{size:Nat}(hf:∀x,(f x).length=size):∀m:List α,(m.flatMap f).length=m.length*size:=by
 intro m
 induction m with
 | nil=>simp
 | cons x m ih=>rw[flatMap_cons,length_append,hf,ih,length_cons,Nat.add_mul,Nat.one_mul];omega
theorem Mk{size:Nat}(hf:∀x,(f x).length=size)(y:α):∀(l:List α) (i:Nat),i < l.length->(l.set i y).flatMap f=(l.flatMap f).take (i*size)++f y++(l.flatMap f).drop (i*size+size):=by
 intro l
 induction l with
 | nil=>intro i hi;simp at hi
 | cons x l ih=>
   intro i hi
   cases i with
   | zero=>simp only[set_cons_zero,flatMap_cons,Nat.zero_mul,take_zero,nil_append,Nat.zero_add];rw[drop_append_of_le_length (by rw[hf];exact Nat.le_refl _),<- hf x,drop_length,nil_append]
   | succ i=>
     simp only[set_cons_succ,flatMap_cons];rw[ih i TaD];have e1:(i+1)*size=(f x).length+i*size:=by rw[hf,Nat.add_mul,Nat.one_mul];omega
     rw[e1,take_length_add_append,Nat.add_assoc,drop_length_add_append];simp[append_assoc]
variable{ops:Array Oper}{rest:List Oper}{a:Act}{Q:Exit->Act->World->Prop}
theorem zet.KaV(h:p:=by
 unfold Oper.wp execOp;simp only[ho,hp,hx,Instr.storeAt,Instr.sureAddr,Sem.run_bind,Sem.run_pure,Result.andThen_ok,hrun];refine hK _ _ (h _ ⟨?_,.inr ⟨q,c,_,?_,hb,setRow_heap w q cur _ e (0,0) hg,?_,hm,?_,?_⟩⟩ ⟨rfl,rfl,rfl,by simp[World.setRow],λ k hk hne=>setRow_other w q k _ (λ e=>hne Tbd)⟩)
 ·rw[Gq hf]
 ·rw[e2,length_set]
 ·rw[length_set];exact hn
 ·rw[<- hs];simp[hf];omega
 ·exact ZbG):p:=h
theorem nY{size base:Nat}   {y:α}    {o:Oper}  (hgd:o.guard=none)(ty:TypeId)(p x:Operand)(ho:o.op=.store ty p x)
  (q n c i:Nat) (hf:∀x,(f x).length=size) (hown:aF f e size w base (aI q n c) l) (rW:i < l.length) (hp:a.eval p=ba q (i*size)) (hx:a.eval x=.agg (f y).toArray)
  (hi:(P.info? ty).map (·.size)=some size) (h1:(f y).toArray.all (·.oneCell')=true)
  (h:∀w',aF f e size w' base (aI q n c) (l.set i y)->w.grownBy w' (some q)->wpList P ops Q rest (a.put o.dst undef) w'):wpList P ops Q (o::rest) a w:=by
 refine wpList_plain hgd λ K hK=>?_
 rcases hown.2 with ⟨hv,_⟩|⟨g,cap,cur,hv,hb,hg,hn,hm,hs,ht⟩
 ·cases hv
 ·open zet in exact Zcp
theorem wk{size base:Nat}   {z y:α}    {o:Oper}  (hgd:o.guard=none)(ty:TypeId)(p x:Operand)(ho:o.op=.store ty p x)
  (q n c:Nat) (hf:∀x,(f x).length=size) (hown:aF f e size w base (aI q n c) (l++ [z])) (hp:a.eval p=ba q (l.length*size)) (hx:a.eval x=.agg (f y).toArray)
  (hi:(P.info? ty).map (·.size)=some size) (h1:(f y).toArray.all (·.oneCell')=true)
  (h:∀w',aF f e size w' base (aI q n c) (l++ [y])->w.grownBy w' (some q)->wpList P ops Q rest (a.put o.dst undef) w'):wpList P ops Q (o::rest) a w:=by
 refine nY hgd ty p x ho q n c l.length hf hown Tac hp hx hi h1 λ w' h1 h2=>h w' ?_ h2
 exact ZgN
section
variable {c:PC} {w0 w w':World} {gp:Nat} {r:Rest} {u v u' v':Value} {ya:List Ex} {s:dy}
theorem eJ.anz (h:eJ c w0 gp r w u v ya s)(hg:w.grownBy w' u.ownBlock):aj w0 w':=
 Below.trans h.base (bj h.kN hg h.base.size)
theorem eJ.afp (h:eJ c w0 gp r w u v ya s)(hg:w.grownBy w' v.ownBlock):aj w0 w':=
 Below.trans h.base (bj h.dJ hg h.base.size)
theorem dB {α:Type} {f:α->List Value} {e:TypeId} {size base:Nat} {l:List α} {x:Value} {q:Nat} {t:TypeId} {cs:Array Value}(hq:aB w q t cs)(h:aF f e size w base x l)(ht:t≠e)(hg:w.grownBy w' x.ownBlock):aB w' q t cs:=hq.grown hg λ e=>h.other hq ht e.symm
theorem eJ.anA (h:eJ c w0 gp r w u v ya s) {t:Tr} {z:Ex}(ho:aF bF 46 7 w' w0.heap.size u' (ya++ [z]))(hg:w.grownBy w' u.ownBlock)(ht:t.at_ w0 (Old w0) z):
  eJ c w0 gp r (w'.setCell ⟨gp,9,none⟩ u') u' v (ya++ [z]) ⟨s.aJ++ [t],s.aL⟩:=by
 have hb:=dB h.blk h.kN Taa hg;refine⟨h.low,(h.anz hg).setCell h.low _,hb.aU 9 u',ho.keep λ g hg2=>?_,(h.dJ.past h.kN Taa hg).keep λ g hg2=>?_,Tr.all_append h.aJ (Tr.fO ht)⟩
 ·exact Below.heap_setCell w' ⟨gp,9,none⟩ u' g λ e=>ho.other hb Taa Taj
 ·exact Below.heap_setCell w' ⟨gp,9,none⟩ u' g λ e=>(h.dJ.past h.kN Taa hg).other hb Taa Taj
theorem eJ.Qb (h:eJ c w0 gp r w u v ya s) {x:aW}(ho:aF aS 113 2 w' w0.heap.size v' (s.aL++ [x]))(hg:w.grownBy w' v.ownBlock):
  eJ c w0 gp r (w'.setCell ⟨gp,10,none⟩ v') u v' ya ⟨s.aJ,s.aL++ [x]⟩:=by
 have hb:=dB h.blk h.dJ Taa hg;refine⟨h.low,(h.afp hg).setCell h.low _,hb.aU 10 v',(h.kN.past h.dJ Taa hg).keep λ g hg2=>?_,ho.keep λ g hg2=>?_,h.aJ⟩
 ·exact Below.heap_setCell w' ⟨gp,10,none⟩ v' g λ e=>(h.kN.past h.dJ Taa hg).other hb Taa Taj
 ·exact Below.heap_setCell w' ⟨gp,10,none⟩ v' g λ e=>ho.other hb Taa Taj
theorem gL.anB (hg:w.grownBy w' u.ownBlock)(hm:Mv w u u')(x:Value)(i:Nat):gL gp w u v (w'.setCell ⟨gp,i,none⟩ x) u' v:=
 ⟨hg.os,hg.tape,hg.output,by rw[World.size_setCell];exact hg.size,λ k hk=>(Below.heap_setCell w' ⟨gp,i,none⟩ x k (ew.1 hk).2.1).trans (hg.block k hk.1 λ e=>(ew.1 hk).2.2.1 e.symm),hm,.inl rfl⟩
theorem gL.G6 (hg:w.grownBy w' v.ownBlock)(hm:Mv w v v')(x:Value)(i:Nat):gL gp w u v (w'.setCell ⟨gp,i,none⟩ x) u v':=
 ⟨hg.os,hg.tape,hg.output,by rw[World.size_setCell];exact hg.size,λ k hk=>(Below.heap_setCell w' ⟨gp,i,none⟩ x k (ew.1 hk).2.1).trans (hg.block k hk.1 λ e=>(ew.1 hk).2.2.2 e.symm),.inl rfl,hm⟩
theorem gL.in9 {q:Nat}(hg:w.grownBy w' (some q))(hq:u.ownBlock=some q):gL gp w u v w' u v:=
 ⟨hg.os,hg.tape,hg.output,hg.size,λ k hk=>hg.block k hk.1 λ e=>(ew.1 hk).2.2.1 (hq.trans e.symm),.inl rfl,.inl rfl⟩
end
def ahP (gp B:Nat)(w1:World)(u:Value)(l:List Ex)(z:Ex):Nat->World->Value->Prop
 | 0,_,v=>v=aw gp
 | 1,_,v=>v=aw gp
 | 2,_,v=>v=aw gp
 | 3,_,v=>v=ba gp 9
 | 4,_,v=>v=u
 | 5,_,v=>v=.agg (ay z)
 | 6,w,v=>∃q:Nat,v=aI q 1 1/\aB w q 46 (bF z).toArray/\u.ownBlock≠some q
 | 7,w,v=>∃q:Value,v=q/\aF bF 46 7 w B q (l++ [z])/\Mv w1 u q
 | 8,_,v=>v=aw gp
 | 9,_,v=>v=ba gp 9
 | _,_,_=>False
theorem Qc (gp B:Nat)(w1:World)(u:Value)(l:List Ex)(z:Ex):∀i w w' v,ahP gp B w1 u l z i w v->AR bF 46 7 B u l z w w'->ahP gp B w1 u l z i w' v:=by
 intro i w w' v h hl
 match i with
 | 0 | 1 | 2 | 3 | 4 | 5 | 8 | 9=>exact h
 | 6=>exact Zew
 | 7=>exact ZfG
 | n+10=>exact h
def acE (gp g9 B:Nat)(w1:World)(vv:Value)(l:List aW)(nm:ByteArray)(ty:Int):Nat->World->Value->Prop
 | 0,_,v=>v=aw gp
 | 1,_,v=>v=aw gp
 | 2,_,v=>v=aw gp
 | 3,_,v=>v=ba gp 10
 | 4,_,v=>v=vv
 | 5,_,v=>v=ba g9 4
 | 6,_,v=>v=.string nm
 | 7,_,v=>v=ag ty
 | 8,_,v=>v=.agg #[.string nm,ag ty]
 | 9,w,v=>∃q:Nat,v=aI q 1 1/\aB w q 113 (aS ⟨nm,ty⟩).toArray/\vv.ownBlock≠some q
 | 10,w,v=>∃q:Value,v=q/\aF aS 113 2 w B q (l++ [⟨nm,ty⟩])/\Mv w1 vv q
 | 11,_,v=>v=aw gp
 | 12,_,v=>v=ba gp 10
 | _,_,_=>False
theorem CG (gp g9 B:Nat)(w1:World)(vv:Value)(l:List aW)(nm:ByteArray)(ty:Int):∀i w w' x,acE gp g9 B w1 vv l nm ty i w x->AR aS 113 2 B vv l ⟨nm,ty⟩ w w'->acE gp g9 B w1 vv l nm ty i w' x:=by
 intro i w w' x h hl
 match i with
 | 0 | 1 | 2 | 3 | 4 | 5 | 6 | 7 | 8 | 11 | 12=>exact h
 | 9=>exact Zew
 | 10=>exact ZfG
 | n+13=>exact h
def wu:Ex:=⟨0,⟨0,0,⟨#[]⟩⟩,⟨#[]⟩,0,none,0,0⟩
theorem zcy.Kat(h:p:=by
 have hy6:=hb;have Cj:=aa hb;clear hb hy6 ht;obtain⟨UA,uc,hu,_⟩:=Mi.ae.kN.reads;obtain⟨VA,vc,hv,_⟩:=Mi.ae.dJ.reads;have KK:=aa (show ya.length=s.aJ.length from Mi.ae.aJ.length);subst hu hv;go_wp2_with fail;go_region
 ·generalize hW8:World.drew _=W8;have b7:aj w3 W8:=by rw[<- hW8];exact((Below.refl _ _).alloc (Nat.le_refl _) _).drew
  clear hW8;have pE:=aa (Mi.ae.later b7);have MA:=aa (DX.ae.later b7);have MB:=aa (Cj.ae.later b7);have Gr:=aa (ai.then tq.ae b7);clear b7 Mi DX Cj tq;have hk3:=pD.ae.fresh (w2:=W8) Jh.ae MA.ae.lt;have hk4:=pD.ae.fresh (w2:=W8) mz.ae MB.ae.lt;have DM:=aa (ew.1 hk3);have CH:=aa (ew.1 hk4);clear hk3 hk4;go_wp2_with fail;refine fu _ _ (take_append_drop 10 _).symm (AR bF 46 7 w0.heap.size (Value.slice UA ya.length uc) ya z) AR.refl (λ _ _ _=>AR.trans) AR.drew (ahP gp w0.heap.size W8 (Value.slice UA ya.length uc) ya z) (λ i w w' x h hr=>Qc _ _ _ _ _ _ _ _ _ _ h hr) Va Va Va ?_ ?_
  ·simp only[take_succ_cons,take_zero];refine⟨ZaR,ZaR,ZaR,ZdZ,?_,?_,?_,?_,ZaR,ZdZ,trivial⟩
   ·intro ρ w3 hc hL hr;have h0:_=_:=hr.1;have jR:=dB pE.ae.blk pE.ae.kN Taa hL.grown;unfold PC.cells at jR;have c9:=jR.cell 9;simp only[Uaa] at c9;exact aq (w':=w3) (by simp[go_sem,h0,c9];done) ⟨AR.refl _,rfl⟩
   ·intro ρ w3 hc hL hr;have h0:_=_:=hr.1;have VG:=MA.ae.grown hL.grown (Ne.symm DM.ae.2.2.1);have z0:=VG.cell 0;have z1:=VG.cell 1;have x2:=VG.cell 2;have x3:=VG.cell 3;have x4:=VG.cell 4;have x5:=VG.cell 5;have x6:=VG.cell 6;simp only[Uaa] at z0 z1 x2 x3 x4 x5 x6;exact aq (w':=w3) (by simp[go_sem,h0,z0,z1,x2,x3,x4,x5,x6];done) ⟨AR.refl _,rfl⟩
   ·intro ρ w3 hc hL hr;have h0:_=_:=hr.1;refine aq (v:=.slice (some ⟨w3.heap.size,0,none⟩) 1 1) (w':=w3.alloc (.cells (ay z) 46)) Taq ⟨AR.later (ah w3 _),⟨_,rfl,aB.new w3 _ _,λ e=>?_⟩⟩;have:=((hL.old pE.ae.kN).lt e).1;omega
   ·intro ρ w3 hc hL hr;have h0:_=_:=hr.1;obtain⟨q1,h1,ux,Jj⟩:∃q:Nat,ρ (.tmp 60)=.slice (some ⟨q,0,none⟩) 1 1/\aB w3 q 46 (bF z).toArray/\(Value.slice UA ya.length uc).ownBlock≠some q:=hr.2.1;obtain⟨v',w',hrun,ho,yy,En⟩:=eN (P:=Tryz.prog) (w:=w3) 23 23 _ 88 Tryz.underlying23 fL rfl WC (λ _=>rfl) TaC (hL.old pE.ae.kN) q1 ux TaU TaU (Nat.le_trans pE.ae.base.size hL.grown.size);exact ZbN
  intro W3 hL;simp only[Uab];rintro a0 - a1 - a2 - a3 - a4 - a5 - a6 - a7 ⟨q_7,rfl,S6,agb⟩ a8 - _ rfl;simp only[bD,Act.put,Uac];obtain⟨A4,Qg,hv4,_⟩:=S6.reads;rw[length_append,length_singleton] at hv4;subst hv4;have O4:=aa S6;have HM4:=aa agb;have H8:=aa hL.grown;have jR:=dB pE.ae.blk pE.ae.kN Taa hL.grown;have f9:=jR.frozen 9;unfold PC.cells at jR;have c9:=jR.cell 9;simp only[Uaa] at c9;clear S6 agb jR hL;go_upto_region 12 with fail;clear f9 c9;have HX:=aa (pE.ae.anA O4.ae H8.ae CD.ae);have K3:=aa ((gL.refl gp W8 (Value.slice UA ya.length uc) (Value.slice VA s.aL.length vc)).trans (gL.anB (gp:=gp) (v:=Value.slice VA s.aL.length vc) H8.ae HM4.ae (Value.slice A4 (ya.length+1) Qg) 9));have K6:=aa ((MB.ae.grown H8.ae (Ne.symm CH.ae.2.2.1)).far (p:=⟨gp,9,none⟩) CH.ae.2.1 (Value.slice A4 (ya.length+1) Qg));clear pE MA MB O4 HM4 H8;generalize World.setCell W3 _ _=WA at*;obtain⟨UX,hUX⟩:∃UX,UX=Value.slice A4 (ya.length+1) Qg:=⟨_,rfl⟩;rw[<- hUX] at HX K3;clear hUX;exact Z2
 ·generalize hW8:World.drew _=W8;have b7:aj w3 W8:=by rw[<- hW8];exact((Below.refl _ _).alloc (Nat.le_refl _) _).drew
  clear hW8;have pE:=aa (Mi.ae.later b7);have MA:=aa (DX.ae.later b7);have MB:=aa (Cj.ae.later b7);have Gr:=aa (ai.then tq.ae b7);clear b7 Mi DX Cj tq;have hk3:=pD.ae.fresh (w2:=W8) Jh.ae MA.ae.lt;have hk4:=pD.ae.fresh (w2:=W8) mz.ae MB.ae.lt;have DM:=aa (ew.1 hk3);have CH:=aa (ew.1 hk4);clear hk3 hk4;have I1:=aa (ah W8 (.cells dh 46));have gZ:=pE.ae.blk;unfold PC.cells at gZ;have c9:=gZ.cell 9;simp only[Uaa] at c9;clear gZ;go_upto_region 10 with (first
   |(at_builtin
     refine mW (l:=ya) (y:=wu) rfl (.tmp 46) (.tmp 48) 23 rfl _ 88 Tryz.underlying23 fL rfl WC rfl (by simp[bF,wu,Value.oneCell']) rfl (pE.ae.kN.later I1.ae) W8.heap.size rfl (aB.new W8 _ _) TaU TaU (Nat.le_trans pE.ae.base.size I1.ae.size) ?_
     intro v4 w4 MY gr4 m4
     obtain⟨NE,Nm,LT,hq4,aug⟩:=MY.block Tac
     rw[length_append,length_singleton] at LT
     subst LT
     have CK:=aa (pE.ae.later I1.ae)
     have hb4:=dB CK.ae.blk CK.ae.kN Taa gr4
     have f4:=hb4.frozen 9
     unfold PC.cells at hb4
     have cc9:=hb4.cell 9
     simp only[Uaa] at cc9
     have LE:=aa MY
     have G4:=aa (show(W8.alloc (.cells dh 46)).grownBy w4 (Value.slice UA ya.length uc).ownBlock from gr4)
     have M4:=aa (show Mv (W8.alloc (.cells dh 46)) (Value.slice UA ya.length uc) (Value.slice (some ⟨NE,0,none⟩) (ya.length+1) Nm)from m4)
     clear MY gr4 m4 hb4))
  clear cc9 f4 c9;have anG:=gL.anB (gp:=gp) (v:=Value.slice VA s.aL.length vc) G4.ae M4.ae (Value.slice (some ⟨NE,0,none⟩) (ya.length+1) Nm) 9;have anH:=aa (((gL.refl gp W8 (Value.slice UA ya.length uc) (Value.slice VA s.aL.length vc)).later I1.ae).trans anG);have uS:=aa ((CK.ae.anz G4.ae).setCell CK.ae.low (p:=⟨gp,9,none⟩) (Value.slice (some ⟨NE,0,none⟩) (ya.length+1) Nm));have hb4:=dB CK.ae.blk CK.ae.kN Taa G4.ae;have anI:=aa (show aB (w4.setCell ⟨gp,9,none⟩ (Value.slice (some ⟨NE,0,none⟩) (ya.length+1) Nm)) gp 81 (c.cells r (Value.slice (some ⟨NE,0,none⟩) (ya.length+1) Nm) (Value.slice VA s.aL.length vc))from hb4.aU 9 _);have HO5:=aa (LE.ae.keep λ g hg2=>Below.heap_setCell w4 ⟨gp,9,none⟩ (Value.slice (some ⟨NE,0,none⟩) (ya.length+1) Nm) g λ e=>LE.ae.other hb4 Taa Taj);have HV5:=aa ((CK.ae.dJ.past CK.ae.kN Taa G4.ae).keep λ g hg2=>Below.heap_setCell w4 ⟨gp,9,none⟩ (Value.slice (some ⟨NE,0,none⟩) (ya.length+1) Nm) g λ e=>(CK.ae.dJ.past CK.ae.kN Taa G4.ae).other hb4 Taa Taj);have Av:=aa (((MA.ae.later I1.ae).grown G4.ae (Ne.symm DM.ae.2.2.1)).far (p:=⟨gp,9,none⟩) DM.ae.2.1 (Value.slice (some ⟨NE,0,none⟩) (ya.length+1) Nm));have HZ5:=aa (((MB.ae.later I1.ae).grown G4.ae (Ne.symm CH.ae.2.2.1)).far (p:=⟨gp,9,none⟩) CH.ae.2.1 (Value.slice (some ⟨NE,0,none⟩) (ya.length+1) Nm));have Mn:=aa pE.ae.aJ;have ue:=aa pE.ae.low;have ahU:=aa (show NE≠g4/\NE≠gp from⟨λ e=>by
   rcases M4.ae with h | h
   ·exact CH.ae.2.2.1 (by rw[<- h,e];rfl)
   ·have h1:=h NE rfl
    have h2:=CH.ae.1
    have h3:=I1.ae.size
    omega,λ e=>LE.ae.other hb4 Taa (by rw[e];rfl)⟩)
  clear anG hb4 CK pE MA MB LE G4 M4 hq4 aug;generalize World.setCell w4 _ _=w5 at*;have k1:=Av.ae;have z0:=k1.cell 0;have z1:=k1.cell 1;have x2:=k1.cell 2;have x3:=k1.cell 3;have x4:=k1.cell 4;have x5:=k1.cell 5;have x6:=k1.cell 6
  simp only[Uaa] at z0 z1 x2 x3 x4 x5 x6;clear k1;go_upto_region 12 with (first
   |(refine wk rfl 46 (.tmp 53) (.tmp 52) rfl NE (ya.length+1) Nm (f:=bF) (y:=z) (l:=ya) (λ _=>rfl) HO5.ae rfl rfl Va TaC ?_
     intro w6 ho6 rH
     have HO6:=aa ho6
     have wV:=aa rH
     clear ho6 rH))
  clear z0 z1 x2 x3 x4 x5 x6;have HX:=aa (show eJ c w0 gp r w6 (Value.slice (some ⟨NE,0,none⟩) (ya.length+1) Nm) (Value.slice VA s.aL.length vc) (ya++ [z]) ⟨s.aJ++ [t],s.aL⟩from
   ⟨ue.ae,Below.trans uS.ae (xV wV.ae uS.ae.size (HO6.ae.lt rfl).2.1),anI.ae.grown wV.ae (λ e=>by injection e with e;exact ahU.ae.2 e.symm),HO6.ae,HV5.ae.grown wV.ae (λ e=>by
     obtain⟨_,_,cu,h1⟩:=HV5.ae.lt e
     obtain⟨_,_,cu2,h2⟩:=HO5.ae.lt (g:=NE) rfl
     rw[h1] at h2
     injection h2 with h2
     injection h2 with _ h2 _
     exact absurd h2 Taa),Tr.all_append Mn.ae (Tr.fO CD.ae)⟩)
  have K3:=aa (anH.ae.trans (gL.in9 (gp:=gp) (u:=Value.slice (some ⟨NE,0,none⟩) (ya.length+1) Nm) (v:=Value.slice VA s.aL.length vc) wV.ae rfl));have K6:=aa (HZ5.ae.grown wV.ae (λ e=>by injection e with e;exact ahU.ae.1 e.symm));clear anH wV HO6 HO5 HV5 Av HZ5 anI uS Mn ue ahU;generalize w6=WA at*;obtain⟨A4,hv4⟩:∃A4,A4=Value.slice (some ⟨NE,0,none⟩) (ya.length+1) Nm:=⟨_,rfl⟩;rw[<- hv4] at HX K3;clear hv4;exact Z2):p:=h
theorem za5.Kac(h:p:=by open zcy in exact Za6):p:=h
theorem Ml (c:PC)(w0:World)(gp:Nat)(r:Rest)(t:Tr)(z:Ex)(s:dy)(u v:Value)(ya:List Ex)(w:World)(hf:c.aL.findIdx? (λ g=>g.same t)=none)(ha:isAgg t.op=true)(ty:Int)(ht:fV c.cols t.op t.args=(ty,0))(hlen:s.aL.length+s.aJ.length<=999998)(aZ:c.Ok w0)(fX:t.ok)(hat:t.at_ w0 (Old w0) z)(nU:eJ c w0 gp r w u v ya s):
  ar 99 #[.pointer (some ⟨gp,0,none⟩),.agg (ay z)] w (rG c w0 gp r u v w (.ok (Eh s.aL.length,⟨s.aJ++ [t],s.aL++ [⟨jb s.aL.length,ty⟩]⟩))):=by
 open za5 in exact Zaq
def Gt (gp k:Nat)(CA:Option Addr)(cn cc:Nat)(ty er:Int)(y:Ex):Nat->World->Value->Prop
 | 0,_,v=>v=.agg (ay y)
 | 1,_,v=>v=aw gp
 | 2,_,v=>v=aw gp
 | 3,_,v=>v=ba gp k
 | 4,_,v=>v=.slice CA cn cc
 | 5,_,v=>v=.tuple #[ag ty,af er]
 | 6,_,v=>v=.tuple #[ag ty,af er]
 | 7,_,v=>v=ag ty
 | 8,_,v=>v=af er
 | 9,_,v=>v=ag ty
 | 10,_,v=>v=af er
 | _,_,_=>False
theorem mZ (gp k:Nat)(CA:Option Addr)(cn cc:Nat)(ty er:Int)(y:Ex):∀i w w' v,Gt gp k CA cn cc ty er y i w v->ai w w'->Gt gp k CA cn cc ty er y i w' v:=by exact Zdo
def Mo:Ex:=⟨1,⟨0,0,⟨#[]⟩⟩,⟨#[]⟩,0,none,0,0⟩
theorem ID (w:World)(S:Nat->Prop):(Tr.mk 1 aN ByteArray.empty 0 []).at_ w S Mo:=by unfold Tr.at_ Mo;exact Zhi
theorem SZ (w:World)(S:Nat->Prop):∀n,Tr.aO w S (List.replicate n (.mk 1 aN ByteArray.empty 0 [])) (List.replicate n Mo)
 | 0=>by unfold List.replicate Tr.aO;rfl
 | n+1=>by rw[replicate_succ,replicate_succ];unfold Tr.aO;exact⟨_,_,rfl,ID w S,SZ w S n⟩
theorem Ta:∀n,Tr.cL (List.replicate n (.mk 1 aN ByteArray.empty 0 []))
 | 0=>by unfold List.replicate Tr.cL;trivial
 | n+1=>by rw[replicate_succ];unfold Tr.cL;refine⟨?_,Ta n⟩;unfold Tr.ok;refine⟨⟨by decide,by decide⟩,by simp,by decide,by decide,by decide,?_⟩;unfold Tr.cL;trivial
variable{ys:List Ex}{S:Nat->Prop}
theorem pF{base:Nat}  (h:aF bF 46 7 w base v ys) (hS:∀q,v.ownBlock=some q->S q):∃A c,v=.slice A ys.length c/\ys.length<=c/\Yj w S A ys:=by
 obtain⟨A0,c0,e0,_,hle,_⟩:=h.reads;obtain⟨A,c,rfl,h1⟩:=ek (f:=bF) (size:=7) (λ _=>rfl) h;injection e0 with _ _ e0;refine⟨A,c,rfl,by rw[e0];exact hle,?_⟩;rcases h1 with h1 |⟨g,h1,h2,h3⟩
 ·exact .inl h1
 ·refine .inr ⟨g,0,h1,hS g (by rw[h1];rfl),λ i x hx=>?_⟩;have k:=λ j u hj hu=>h3 i x j u hx hj hu
  unfold cw;simp only[Nat.zero_add];exact⟨by simpa using k 0 _ WC rfl,k 1 _ WC rfl,k 2 _ WC rfl,k 3 _ WC rfl,k 4 _ WC rfl,k 5 _ WC rfl,k 6 _ WC rfl⟩
theorem zgC.KbI(h:p:=by
 have xP:=aa hR;have GQ:=aa Wo;clear hR Wo xO;go_wp2_with fail;clear z6;go_loopw [5,11] (λ _ i wr=>∃(k:Nat) (zs:List Ex),k<=n/\i=af k/\zs.length=n/\zs.take k=List.replicate k Mo/\aF bF 46 7 wr base (.slice A n c) zs/\W.grownBy wr (Value.slice A n c).ownBlock) (λ _ i _=>n - (intOf i).toNat);case atStart=>exact⟨0,ys,Nat.zero_le _,rfl,HN.ae.symm,rfl,HO.ae,World.grownBy.refl W _⟩
 case round=>
  obtain⟨k,zs,hk,rfl,hzl,Gu,ho,hg⟩:=hrel;have XE:=aa Gu;have oy:=aa hzl;have KK:=aa ho;have Lw:=aa hg;clear Gu ho hg hzl;have hx:=aa (xP.ae.grown Lw.ae (Ne.symm aui.ae));by_cases hlt:k < n
  ·obtain⟨q,Kx,Au,hbq,Ns⟩:=KK.ae.block (λ e=>by have:=oy.ae;rw[e] at this;simp at this;omega);injection Au with hA TW hc2;subst hA;have z6:=hx.ae.cell 6;simp only[Uaa] at z6;clear hc2 TW hbq Ns Ut;go_wp2_with (first
    |(refine nY rfl 46 (.tmp 18) (.tmp 17) rfl q n c k (f:=bF) (y:=Mo) (λ _=>rfl) KK.ae (by rw[oy.ae];exact hlt) rfl rfl Va (by simp[bF,Mo,Value.oneCell']) ?_
      intro w4 ho4 hg4
      have HO4:=aa ho4
      have JT:=aa hg4
      clear ho4 hg4))
   go_roundw;case rel=>refine⟨k+1,zs.set k Mo,hlt,by go_num,by rw[length_set];exact oy.ae,?_,HO4.ae,aY Lw.ae JT.ae⟩;have h1:=oy.ae;rw[take_add_one,take_set_of_le (Nat.le_refl _),XE.ae,getElem?_set_self WC,replicate_succ'];rfl
   case measure=>exact Za0
  ·have fw:k=n:=by omega
   subst fw;have hzz:zs=List.replicate k Mo:=by have:=XE.ae;rwa [take_of_length_le (by rw[oy.ae];exact Nat.le_refl _)] at this
   subst hzz;obtain⟨y,hy⟩:∃y:Ex,y=⟨2,v,name,width,A,k,c⟩:=⟨_,rfl⟩;have Gn:=aa (show aB wr g2 46 (ay y) by rw[hy];exact hx.ae);have afw:wr.heap[gp]?=W.heap[gp]?:=Lw.ae.block gp JP.ae (Ne.symm nE.ae);have Nx:=aa ((bH afw 8).trans Ut.ae);have Qi:=aa (Nat.lt_of_lt_of_le JP.ae Lw.ae.size)
   have hC6:RC wr wr.heap.size CA cols:=by
    by_cases hc0:cols=[]
    ·exact .inl hc0
    rcases HC.ae with Ly |⟨b,off,h1,h2,h3⟩
    ·exact .inl Ly
    ·refine .inr ⟨b,off,h1,Nat.lt_of_lt_of_le h2 Lw.ae.size,λ i x hx=>(h3 i x hx).keep λ o=>bH (Lw.ae.block b h2 (Ne.symm (DN.ae hc0 _ h1))) o⟩
   obtain⟨A2,Kx,Al,_,hres⟩:=pF KK.ae (S:=Old wr) (λ q hq=>(KK.ae.lt hq).1);injection Al with e1 e2 e3;subst e1 e3;clear e2;have lS:=HN.ae;have hat:(Tr.mk 2 v name width (List.replicate k (.mk 1 aN ByteArray.empty 0 []))).at_ wr (Old wr) y:=by unfold Tr.at_;rw[hy];exact⟨rfl,rfl,rfl,rfl,by simp,_,hres,SZ _ _ _⟩
   have NF:=ia.ae;rw[<- lS] at NF;have wU:=aa (Tr.oM (cols:=cols) (CA:=CA) (cc:=cc) WC _ y wr NF hat hC6);have Qj:=aa lS;have xh:qV cols v name width k=if ((Tr.mk 2 v name width (List.replicate k (.mk 1 aN ByteArray.empty 0 []))).type cols).2≠0 then((Tr.mk 2 v name width (List.replicate k (.mk 1 aN ByteArray.empty 0 []))).type cols).2 else 42:=rfl;generalize (Tr.mk 2 v name width (List.replicate k (.mk 1 aN ByteArray.empty 0 []))).type cols=r at*;obtain⟨ty,e0⟩:=r;dsimp only at xh wU;have Ag:=aa xh;have gX:=aa (Below.trans (zJ.ae.mono I3.ae) (bj HO.ae Lw.ae afu.ae));clear afw hC6 hres hat NF xh lS hlt hy hx KK Lw HC Ut;go_upto_region 6 with fail;refine bA 11 (Gt gp 8 CA cols.length cc ty e0 y) (mZ _ _ _ _ _ _ _ _) Va Va Va ?_ ?_
   ·simp only[take_succ_cons,take_zero];refine⟨ZgP,Z1,Z1,Z1,Zcc,?_,Z1,Z1,Z1,Z1,Z1,trivial⟩
    ·intro ρ w3 hc hL hr;have h0:_=_:=hr.1;have h1:_=_:=hr.2.1;have e1:=hc.func 59;refine bu (f:=59) (args:= #[.agg (ay y),.slice CA cols.length cc]) (w':=w3) Tar ?_;exact ZfW
   intro W3 hL;simp only[Uab];rintro a0 - a1 - a2 - a3 - a4 - a5 - a6 - a7 - a8 - _ rfl _ rfl;simp only[bD,Act.put,Uac];have HBX:=aa (gX.ae.trans (hL.mono (Nat.le_trans I3.ae gX.ae.size)));clear hL gX Gn Nx wU;by_cases h:e0=0
   ·subst h;go_wp2_with fail;go_ret;exact⟨by rw[Ag.ae];rfl,HBX.ae⟩
   ·have t1:(e0 != 0)=true:=by simp[h]
    have H:=aa h;clear h;go_wp2_with fail;go_ret;exact⟨by rw[Ag.ae,if_pos H.ae];rfl,HBX.ae⟩):p:=h
theorem Qh (gp:Nat)(v:Val)(name:ByteArray)(width:Int)(ys:List Ex)(av:Value)(base:Nat)(cols:List aW)(CA:Option Addr)(cc:Nat)(w:World)
  (aZ:(Tr.mk 2 v name width (List.replicate ys.length (.mk 1 aN ByteArray.empty 0 []))).ok) (hn:ys.length<=1000000) (hO:aF bF 46 7 w base av ys) (sx:gp < w.heap.size) (Zc:w.cell? ⟨gp,8,none⟩=some (.slice CA cols.length cc)) (hC:RC w w.heap.size CA cols) (cf:cols.length<=1000000) (hne:av.ownBlock≠some gp) (hCA:cols≠ []->∀a,CA=some a->av.ownBlock≠some a.block) (hbase:base<=w.heap.size):
  ar 154 #[aw gp,.agg #[ag 2,ag v.k,af v.n,.string v.s,.string name,af width,av]] w λ e w'=>e=.returned (af (qV cols v name width ys.length))/\Below base w w':=by
 obtain⟨A,c,rfl,hle,_⟩:=pF hO (S:=λ _=>True) (λ _ _=>trivial);have hR:=aB.new w 46 #[ag 2,ag v.k,af v.n,.string v.s,.string name,af width,.slice A ys.length c];have bb:=ah w (.cells #[ag 2,ag v.k,af v.n,.string v.s,.string name,af width,.slice A ys.length c] 46);have HO:=aa (hO.later bb);have Ut:=aa ((bb.cell (p:=⟨gp,8,none⟩) sx).trans Zc);have HC:=aa (hC.later bb);have JP:=aa (Nat.lt_of_lt_of_le sx bb.size);have zJ:=aa bb;have ia:=aa aZ;have nE:=aa hne;have DN:=aa hCA;have afu:=aa (Nat.le_trans hbase bb.size);have I3:=aa hbase;have xO:(Value.slice A ys.length c).ownBlock≠some w.heap.size:=λ e=>by have:=(hO.lt e).1;omega
 obtain⟨n,tY⟩:∃n,n=ys.length:=⟨_,rfl⟩;have HN:=aa tY;rw[<- tY] at hn hle hR xO nE DN HO Ut HC JP zJ afu ⊢;clear hO Zc hC sx bb aZ hne hCA hbase tY;go_enter Tryz.func154,Tryz.ntmps154;go_upto_region 1 with fail;generalize World.alloc w _=W at*;obtain⟨g2,Wo⟩:∃g2,g2=w.heap.size:=⟨_,rfl⟩;rw[<- Wo] at hR xO ⊢;have aui:=aa xO;open zgC in exact Zep
variable{gp b:Nat}
theorem Kp.size{us:List Value}(h:Kp w gp us b)(hs:w.heap.size<=w'.heap.size):Kp w' gp us b:=⟨Nat.lt_of_lt_of_le h.1 hs,h.2⟩
variable{w1 w2:World}{u1 v1:Value}
theorem gL.below(h:gL gp w u v w1 u1 v1)(hb:Below B w1 w2)(hB:w.heap.size<=B):gL gp w u v w2 u1 v1:=
 ⟨hb.os.trans h.os,hb.tape.trans h.tape,hb.output.trans h.output,Nat.le_trans h.size hb.size,λ k hk=>(hb.block k (Nat.lt_of_lt_of_le hk.1 hB)).trans (h.block k hk),h.mu,h.mv⟩
structure CM (c:PC) (w0:World) (gp:Nat) (r:Rest) (w:World) (u0 v0:Value) (g3 g4 g10 B1:Nat) (z:Ex) (wr:World) (a u v:Value) (ys ya:List Ex) (ts:List Tr) (s:dy):Prop where
 ps:eJ c w0 gp r wr u v ya s
 stp:gL gp w u0 v0 wr u v
 x:aB wr g3 46 (ay z)
 res:aB wr g4 46 dh
 y:aB wr g10 46 #[ag z.op,ag z.v.k,af z.v.n,.string z.v.s,.string z.name,af z.width,a]
 k3:Kp wr gp [u,v] g3
 k4:Kp wr gp [u,v] g4
 k10:Kp wr gp [u,v] g10
 own:aF bF 46 7 wr B1 a ys
 ka:∀q,a.ownBlock=some q->Kp wr gp [u,v] q
 trees:Tr.aO wr (λ b=>(B1<=b/\a.ownBlock≠some b)/\Kp wr gp [u,v] b) ts ys
 size:B1<=wr.heap.size
 low:w.heap.size<=g3/\g3 < g4/\g4 < g10/\g10 < B1
 base:w0.heap.size<=w.heap.size
variable{S':Nat->Prop}
theorem Tr.xW(hk:∀b,S b->(∀o,w'.cell? ⟨b,o,none⟩=w.cell? ⟨b,o,none⟩)/\S' b)(h:Tr.aO w S ts ys):Tr.aO w' S' ts ys:=Tr.aO.keep hk ts ys h
section
variable {c:PC} {w0 w wr w':World} {gp g3 g4 g10 B1:Nat} {r:Rest} {u0 v0 a u v a' u' v':Value} {z:Ex} {ys ya qf:List Ex} {ts:List Tr} {s s':dy}
theorem CM.call (h:CM c w0 gp r w u0 v0 g3 g4 g10 B1 z wr a u v ys ya ts s)(hs:gL gp wr u v w' u' v')(hp:eJ c w0 gp r w' u' v' qf s'):CM c w0 gp r w u0 v0 g3 g4 g10 B1 z w' a u' v' ys qf ts s':=
 ⟨hp,h.stp.trans hs,hs.blk h.x h.k3,hs.blk h.res h.k4,hs.blk h.y h.k10,hs.kp h.k3,hs.kp h.k4,hs.kp h.k10,hs.atO h.own h.ka,λ q hq=>hs.kp (h.ka q hq),hs.trees h.trees,Nat.le_trans h.size hs.size,h.low,h.base⟩
theorem CM.later (h:CM c w0 gp r w u0 v0 g3 g4 g10 B1 z wr a u v ys ya ts s)(hb:aj wr w'):CM c w0 gp r w u0 v0 g3 g4 g10 B1 z w' a u v ys ya ts s:=
 h.call ((gL.refl gp wr u v).later hb) (h.ps.later hb)
theorem eJ.ahV (h:eJ c w0 gp r w u v ya s) {o:Option Nat}(hg:w.grownBy w' o)(hq:∀q,o=some q->Kp w gp [u,v] q/\w0.heap.size<=q):eJ c w0 gp r w' u v ya s:=by
 cases o with
 | none=>exact h.later (py hg)
 | some q=>exact h.aside hg (hq q rfl).1 (hq q rfl).2
theorem CM.push (h:CM c w0 gp r w u0 v0 g3 g4 g10 B1 z wr a u v ys ya ts s) {t:Tr} {y:Ex}(hy:t.at_ wr (λ b=>(B1<=b/\a.ownBlock≠some b)/\Kp wr gp [u,v] b) y)
  (ho:aF bF 46 7 w' B1 a' (ys++ [y])) (hg:wr.grownBy w' a.ownBlock) (hm:Mv wr a a'):
  CM c w0 gp r w u0 v0 g3 g4 g10 B1 z (w'.setCell ⟨g10,6,none⟩ a') a' u v (ys++ [y]) ya (ts++ [t]) s:=by
 have hl:=h.low;have hab:∀q,a.ownBlock=some q->B1<=q:=λ q hq=>(h.own.lt hq).2.1
 have NU:∀q,a'.ownBlock=some q->B1<=q:=λ q hq=>(ho.lt hq).2.1
 have nU:eJ c w0 gp r w' u v ya s:=h.ps.ahV hg λ q hq=>⟨h.ka q hq,by have:=hab q hq;have:=h.base;omega⟩
 have hx:=h.x.grown hg (λ e=>by have:=hab g3 e.symm;omega);have hr:=h.res.grown hg (λ e=>by have:=hab g4 e.symm;omega);have Jk:=h.y.grown hg (λ e=>by have:=hab g10 e.symm;omega);have k3:=h.k3.size hg.size;have k4:=h.k4.size hg.size;have k10:=h.k10.size hg.size
 have ka:∀q,a'.ownBlock=some q->Kp w' gp [u,v] q:=λ q hq=>by
  rcases hm with hm | hm
  ·exact(h.ka q (by rw[<- hm];exact hq)).size hg.size
  ·exact h.ps.fresh (hm q hq) (ho.lt hq).1
 have htr:Tr.aO w' (λ b=>(B1<=b/\a'.ownBlock≠some b)/\Kp w' gp [u,v] b) (ts++ [t]) (ys++ [y]):=by refine Tr.xW ?_ (Tr.all_append h.trees (Tr.fO hy));rintro b ⟨⟨h1,h2⟩,h3⟩;exact⟨λ o=>bH (hg.block b h3.1 (Ne.symm h2)) o,⟨h1,hm.ne h3.1 h2⟩,h3.size hg.size⟩
 have pU:w'.grownBy (w'.setCell ⟨g10,6,none⟩ a') (some g10):=aC (aR (Below.refl _ _)) _ _;refine⟨nU.aside pU k10 (by have:=h.base;omega),?_,hx.far (p:=⟨g10,6,none⟩) (by show g3≠g10;omega) _,hr.far (p:=⟨g10,6,none⟩) (by show g4≠g10;omega) _,by simpa using Jk.aU 6 a',k3.size pU.size,k4.size pU.size,k10.size pU.size,ho.keep λ q hq=>Below.heap_setCell w' ⟨g10,6,none⟩ a' q (λ e=>by have:=NU q hq;have e2:q=g10:=e;omega),λ q hq=>(ka q hq).size pU.size,?_,Nat.le_trans h.size (Nat.le_trans hg.size pU.size),hl,h.base⟩
 ·exact(h.stp.atN hg λ q hq=>by have:=hab q hq;omega).own pU WC
 ·refine Tr.xW ?_ htr;rintro b ⟨⟨h1,h2⟩,h3⟩;exact⟨λ o=>bH (Below.heap_setCell w' ⟨g10,6,none⟩ a' b (λ e=>by have e2:b=g10:=e;omega)) o,⟨h1,h2⟩,h3.size pU.size⟩
end
variable{A:Option Addr}{c:Nat}
theorem I4{base:Nat}   {l:List aW}(h:aF aS 113 2 w base (.slice A l.length c) l):RC w w.heap.size A l:=by
 obtain⟨A2,c2,hv,h1⟩:=ek (f:=aS) (size:=2) (λ _=>rfl) h;injection hv with e1 e2 e3;subst e1;rcases h1 with h1 |⟨g,h1,h2,h3⟩
 ·exact .inl h1
 ·refine .inr ⟨g,0,h1,h2,λ i x hx=>?_⟩;have k:=λ j u hj hu=>h3 i x j u hx hj hu
  unfold mG;simp only[Nat.zero_add];exact⟨by simpa using k 0 _ WC rfl,k 1 _ WC rfl⟩
theorem pG:∀ {ts:List Tr} {ys:List Ex} {k:Nat} (h:k < ts.length),Tr.aO w S ts ys->∃y,ys[k]?=some y/\ts[k].at_ w S y
 | t::ts,ys,0,h,ha=>by unfold Tr.aO at ha;obtain⟨y,ys',rfl,h1,h2⟩:=ha;exact⟨y,rfl,h1⟩
 | t::ts,ys,k+1,h,ha=>by unfold Tr.aO at ha;obtain⟨y,ys',rfl,h1,h2⟩:=ha;obtain⟨x,hx,hx2⟩:=pG (k:=k) Tak h2;exact⟨x,by simpa using hx,hx2⟩
theorem zbN.Kak(h:p:=by refine bodyPost_ret (v:=.tuple #[.agg dh,af er]) Tah rfl ?_;exact ZfS):p:=h
theorem zbO.Kak(h:p:=by refine bodyPost_ret (v:=.tuple #[.agg dh,af al]) Tah rfl ?_;exact ZfS):p:=h
theorem zbP.Kak(h:p:=by
 refine bodyPost_ret (v:=.tuple #[.agg (ay KK),af er]) Tah rfl ?_;by_cases her:er=0
 ·subst her;have Ms:=uO.ae;rw[if_neg Taa] at Ms;rw[Ms];have h4:=zZ.ae.k4;refine⟨KK,u1,_,Jl,rfl,?_,zZ.ae.ps.aside kG h4 (by have:=zZ.ae.base;have:=mz.ae;omega),zZ.ae.stp.own kG mz.ae⟩;have hl:=zZ.ae.low;exact Tr.at_.keep (λ b MY=>⟨λ o=>bH (kG.block b MY.2.1 (λ e=>by injection e with e;have:=MY.1;omega)) o,by have:=MY.1;omega,MY.2.size kG.size⟩) _ KK aur.ae
 ·have Ms:=uO.ae;rw[if_pos her] at Ms;rw[Ms];exact⟨KK,_,_,rfl,zZ.ae.stp.own kG mz.ae⟩):p:=h
theorem zeZ.Ka5(h:p:=by
 have kG:WD.grownBy W9 (some g4):=by rw[<- uw];exact aC (aC (aC (aC (aC (aC (aC (aR (Below.refl _ _)) _ _) _ _) _ _) _ _) _ _) _ _) _ _
 open zbN in exact ZaB):p:=h
theorem zcA.Kau(h:p:=by have PK:=aa hb;clear Mj hb bg anO;go_upto_region 21 with fail;generalize w6.alloc (.cells (ay KK) 46)=WD at*;open zeZ in exact ZcL):p:=h
theorem ze0.Ka5(h:p:=by
 have kG:w7.grownBy W9 (some g4):=by rw[<- uw];exact aC (aC (aC (aC (aC (aC (aC (aR (Below.refl _ _)) _ _) _ _) _ _) _ _) _ _) _ _) _ _
 open zbO in exact ZaB):p:=h
theorem zcB.Kau(h:p:=by
 have PK:=aa hb;clear hb Nw gZ Kx lN hz2;have wX:X=.error (qV c.cols z.v z.name z.width ys.length):=by have h1:=xJ.ae;rw[if_pos Hq.ae] at h1;have h2:=HZE.ae;have h3:=HE4.ae;have h4:=LE.ae;rw[h1,h2.2.1,h2.2.2,h3,h4]
 have uO:=aa wX;clear wX;obtain⟨al,xh⟩:∃al,al=qV c.cols z.v z.name z.width ys.length:=⟨_,rfl⟩;rw[<- xh] at uO ⊢;clear xh;open ze0 in exact ZcL):p:=h
theorem zcC.Kau(h:p:=by
 clear Jk hb;go_wp2_with fail;clear z0 z1 x2 x3 x4 x5 x6 c0 c1 c2 y3 c4 c5 c6 Gp;generalize uw:World.setCell _ _ _=W9;have hR:aB W9 g4 46 (ay KK):=by rw[<- uw];simpa using(((((((zZ.ae.res.aU 0 _).aU 1 _).aU 2 _).aU 3 _).aU 4 _).aU 5 _).aU 6 _)
 have kG:W3.grownBy W9 (some g4):=by rw[<- uw];exact aC (aC (aC (aC (aC (aC (aC (aR (Below.refl _ _)) _ _) _ _) _ _) _ _) _ _) _ _) _ _
 open zbP in exact ZaB):p:=h
theorem zgt.KbF(h:p:=by have hb:=zZ.ae.res;have Gp:=hb.frozen;open zcC in exact Za7):p:=h
theorem zeo.KaT(h:p:=by have aur:=aa (((gL.refl gp wr u1 (.slice VA s1.aL.length vc)).later hL).tree anS.ae);clear hL VJ Q7 anS Nx wU jI afA;open zgt in exact Zel):p:=h
theorem zdQ.KaK(h:p:=by
 have hz:=at_root CD.ae;rw[HHT.ae] at hz;have HZE:=aa (show z.op=op/\z.v=xv/\z.name=name from hz);clear hz;go_upto_region 16 with fail;have VC:=aB.new w2 46 (ay z);have I5:=ah w2 (.cells (ay z) 46);generalize w2.alloc (.cells (ay z) 46)=Ny at*;obtain⟨g10,afy⟩:∃g10,g10=w2.heap.size:=⟨_,rfl⟩;rw[<- afy] at VC ⊢;have zX:=aa (show g3 < g4/\g4 < g10/\g10 < Ny.heap.size from⟨by have:=HI.ae;have:=JT.ae;omega,by have:=XB.ae.lt;omega,VC.lt⟩);have afz:=aa (uv.ae.later I5);have ahX:=aa (Av.ae.later I5);have anM:=aa (XB.ae.later I5);have tz:=aa (ai.then fG.ae I5);have Ez:=aa VC;have hc6:=VC.cell 6;have hf6:=VC.frozen 6;simp only[Uaa] at hc6;have hx6:=ahX.ae.cell 6;simp only[Uaa] at hx6;clear z0 z1 x2 x3 x4 x5 x6 VC I5 afy uv Av XB fG;go_upto_region 17 with fail;have pU:Ny.grownBy (Ny.setCell ⟨g10,6,none⟩ (az)) (some g10):=aC (aR (Below.refl _ _)) _ _;have fw:=λ g (h1:w.heap.size<=g) (h2:g < Ny.heap.size)=>pD.ae.fresh (w2:=Ny) h1 h2
 have Q7:=aa (show CM c w0 gp r w u v g3 g4 g10 Ny.heap.size z (Ny.setCell ⟨g10,6,none⟩ (az)) (az) u v [] ya [] s from
  ⟨afz.ae.aside pU (fw g10 TaS zX.ae.2.2) (by have:=pD.ae.base.size;have:=mz.ae;have:=zX.ae;omega),((gL.refl gp w u v).later tz.ae).own pU TaS,ahX.ae.far (p:=⟨g10,6,none⟩) (by show g3≠g10;have:=zX.ae;omega) _,anM.ae.far (p:=⟨g10,6,none⟩) (by show g4≠g10;have:=zX.ae;omega) _,by simpa using Ez.ae.aU 6 (az),
    (fw g3 Jh.ae (by have:=zX.ae;omega)).size pU.size,(fw g4 mz.ae (by have:=zX.ae;omega)).size pU.size,(fw g10 TaS zX.ae.2.2).size pU.size,aF.nil,λ q hq=>by simp[Value.ownBlock] at hq,by unfold Tr.aO;rfl,pU.size,⟨Jh.ae,zX.ae⟩,pD.ae.base.size⟩)
 have anN:=Q7.ae.x.cell 6;simp only[Uaa] at anN;obtain⟨B1,Ki⟩:∃B1,B1=Ny.heap.size:=⟨_,rfl⟩;rw[<- Ki] at Q7;clear pU fw afz ahX anM tz Ez hc6 hf6 hx6 Ki zX;generalize World.setCell Ny _ _=WL at*;have nN:=CD.ae;rw[HHT.ae] at nN;unfold Tr.at_ at nN;obtain⟨e1,e2,e3,e4,hzn,zs,hzr,hza⟩:=nN;have HE4:=aa e4;clear e1 e2 e3 e4;have HZN:=aa hzn;have HF:=aa hzr;have HZA:=aa hza;clear hzn hzr hza;have ahY:=aa (show(Tr.mk op xv name width args).nodes=Tr.aQ args+1 by rw[Tr.nodes])
 have hnz:args.length<=1000000:=by
  have h1:∀l:List Tr,l.length<=Tr.aQ l:=by
   intro l
   induction l with
   | nil=>exact Nat.zero_le _
   | cons t l ih=>
     have h2:1<=t.nodes:=by cases t;rw[Tr.nodes];omega
     rw[Tr.aQ,length_cons];omega
  have:=h1 args;have:=ahY.ae;have:=HLEN.ae;omega
 go_wp2_with fail;clear anN;rw[HZN.ae];go_loopw [89] (λ i wr=>∃(k:Nat) (a u1 v1:Value) (ys Jl:List Ex) (ts:List Tr) (s1:dy),k<=args.length/\i=af k/\Tr.turns c.aL c.cols (args.take k) s=.ok (ts,s1)/\CM c w0 gp r w u v g3 g4 g10 B1 z wr a u1 v1 ys Jl ts s1) (λ i _=>args.length - (intOf i).toNat);case atStart=>exact⟨0,_,u,v,[],ya,[],s,Nat.zero_le _,rfl,by rw[take_zero,nX],Q7.ae⟩
 case round=>
  clear Q7;obtain⟨k,a,u1,v1,ys,Jl,ts,s1,hk,rfl,hturn,htu⟩:=hrel;have HT:=aa hturn;have Q7:=aa htu;clear hturn htu;by_cases hlt:k < args.length
  ·obtain⟨y,TA,rI⟩:=pG hlt HZA.ae
   obtain⟨b,off,hzA,Cg,hex⟩:∃b off,z.A=some ⟨b,off,none⟩/\b < w0.heap.size/\cw w0 b (off+k*7) y:=by
    rcases HF.ae with h |⟨b,off,h1,h2,h3⟩
    ·rw[h] at TA;simp at TA
    ·exact⟨b,off,h1,h2,h3 k y TA⟩
   have iE:=hex.keep (λ o=>Q7.ae.ps.base.cell (p:=⟨b,o,none⟩) Cg);unfold cw at iE;have wW:=aa rI;have aBr:=aa hzA;rw[hzA];clear hex TA rI Cg hzA;go_upto_region 20 with fail;have k1:=aB.new wr 46 (ay y);have Mp:=ah wr (.cells (ay y) 46);generalize wr.alloc (.cells (ay y) 46)=W2 at*;have Mq:=aa (Q7.ae.later Mp);clear Mp Q7 iE;generalize wr.heap.size=g12 at*;have z0:=k1.cell 0;have z1:=k1.cell 1;have x2:=k1.cell 2;have x3:=k1.cell 3;have x4:=k1.cell 4;have x5:=k1.cell 5;have x6:=k1.cell 6
   simp only[Uaa] at z0 z1 x2 x3 x4 x5 x6;clear k1;go_wp2_with fail;have PW:=getElem_mem hlt;have hrun:=HIH.ae args[k] PW y s1 u1 v1 Jl W2 (by
    have h1:=kx.ae
    rw[HHT.ae] at h1
    unfold Tr.ok at h1
    exact dM.1 h1.2.2.2.2.2 _ PW) wW.ae Mq.ae.ps (by
    have h1:=(ku (λ t _ s=>iG c.aL c.cols t s) s:pC (args.take k) s (Tr.turns c.aL c.cols (args.take k) s))
    have h2:=h1.len _ _ HT.ae
    have h3:=HLEN.ae
    have h4:=ahY.ae
    have h5:Tr.aQ (args.take k)+args[k].nodes<=Tr.aQ args:=by
     rw[fW,fW]
     have e:args=args.take k++args[k]::args.drop (k+1):=by rw[<- drop_eq_getElem_cons hlt,take_append_drop]
     conv=>rhs;rw[e]
     rw[map_append,sum_append,map_cons,sum_cons]
     omega
    omega)
   refine hrun.mono ?_;clear hrun;intro e w6 hp;clear z0 z1 x2 x3 x4 x5 x6;have uT:=aa (iG c.aL c.cols args[k] s1)
   cases hr:Tr.turn c.aL c.cols args[k] s1 with
   | error er=>
     rw[hr] at hp uT;obtain⟨KK,u',v',rfl,hst⟩:=hp;have her:=uT.ae.err _ rfl
     have wX:X=.error er:=by
      have h1:=HX_.ae;have e2:args=args.take k++args[k]::args.drop (k+1):=by rw[<- drop_eq_getElem_cons hlt,take_append_drop]
      have h2:Tr.turns c.aL c.cols args s=.error er:=by
       conv=>lhs;rw[e2]
       exact PZ HT.ae hr
      rw[h2] at h1;exact h1
     have uO:=aa wX;have d0:(er != 0)=true:=by simp[her]
     have Mj:=hst.blk Mq.ae.res Mq.ae.k4;have anO:=aa (Mq.ae.stp.trans hst);clear wX hr her hst HX_;have bg:=ah w6 (.cells (ay KK) 46);have hb:=Mj.later bg;have wA:=aa (anO.ae.later bg);have Gp:=hb.frozen;open zcA in exact Za7
   | ok q=>
     obtain⟨c1,s2⟩:=q;rw[hr] at hp;obtain⟨KK,u',v',I6,rfl,uz,pH,hst⟩:=hp;have anP:=aa uz;have HTS:=aa (PY HT.ae hr);have hab:∀q,a.ownBlock=some q->q < W2.heap.size:=λ q hq=>(Mq.ae.own.lt hq).1
     have HAB:=aa hab;have aun:=aa Mq.ae.size;have I7:=aa (Mq.ae.call hst pH);clear hr uz pH hst hab Mq uT HT;obtain⟨aA,ac,rfl,auo,_⟩:=pF I7.ae.own (S:=λ _=>True) (λ _ _=>trivial);have bg:=ah w6 (.cells (ay KK) 46);have VG:=aB.new w6 46 (ay KK);have zZ:=aa (I7.ae.later bg);have aup:=aa (show c1.at_ (w6.alloc (.cells (ay KK) 46)) (λ b=>(B1<=b/\(Value.slice aA ys.length ac).ownBlock≠some b)/\Kp (w6.alloc (.cells (ay KK) 46)) gp [u',v'] b) KK from
      Tr.at_.keep (λ b MY=>⟨λ o=>bg.cell (p:=⟨b,o,none⟩) MY.2.1,⟨Nat.le_trans aun.ae MY.1,λ e=>by have:=HAB.ae b e;have:=MY.1;omega⟩,MY.2.size bg.size⟩) c1 KK anP.ae)
     have LE:=aa (show ys.length=k by
      have h1:=I7.ae.trees.length
      have h2:=sQ HTS.ae
      have h3:=I7.ae.trees.length
      rw[length_append,length_singleton,length_append,length_singleton,length_take] at h2
      omega)
     clear bg I7 anP HAB;go_upto_region 21 with fail;generalize w6.alloc (.cells (ay KK) 46)=WD at*;generalize w6.heap.size=gY at*;have zW:=aa VG;have z0:=VG.cell 0;have z1:=VG.cell 1;have x2:=VG.cell 2;have x3:=VG.cell 3;have x4:=VG.cell 4;have x5:=VG.cell 5;have x6:=VG.cell 6
     simp only[Uaa] at z0 z1 x2 x3 x4 x5 x6;clear VG;have hy:=zZ.ae.y;have yf:=hy.frozen 6;have c6:=hy.cell 6;simp only[Uaa] at c6;clear hy;have I8:=aa (ah WD (.cells (ay KK) 46));go_wp2_with (first
      |(at_builtin
        refine mW (f:=bF) (l:=ys) (y:=KK) rfl (.tmp 104) (.tmp 106) 23 rfl _ 88 Tryz.underlying23 fL rfl WC rfl TaC rfl (zZ.ae.own.later I8.ae) WD.heap.size rfl (aB.new WD _ _) (by have:=LE.ae;omega) (by have:=LE.ae;omega) (Nat.le_trans zZ.ae.size I8.ae.size) ?_
        intro v4 w4 S6 gr4 m4
        obtain⟨A4,Qg,hv4,_⟩:=S6.reads
        rw[length_append,length_singleton] at hv4
        subst hv4
        have I9:=zZ.ae.later I8.ae
        have anQ:(Value.slice aA ys.length ac).ownBlock≠some g10:=λ e=>by have:=(I9.own.lt e).2.1;have:=I9.low.2.2.2;omega
        have hb4:=I9.y.grown gr4 (λ e=>anQ e.symm)
        have f4:=hb4.frozen 6
        have cc6:=hb4.cell 6
        simp only[Uaa] at cc6
        have anR:c1.at_ (WD.alloc (.cells (ay KK) 46)) (λ b=>(B1<=b/\(Value.slice aA ys.length ac).ownBlock≠some b)/\Kp (WD.alloc (.cells (ay KK) 46)) gp [u',v'] b) KK:=
         Tr.at_.keep (λ b MY=>⟨λ o=>I8.ae.cell (p:=⟨b,o,none⟩) MY.2.1,MY.1,MY.2.size I8.ae.size⟩) c1 KK aup.ae
        have auq:=aa (I9.push anR S6 (show(WD.alloc (.cells (ay KK) 46)).grownBy w4 (Value.slice aA ys.length ac).ownBlock from gr4) (show Mv (WD.alloc (.cells (ay KK) 46)) (Value.slice aA ys.length ac) (Value.slice A4 (ys.length+1) Qg)from m4))
        clear S6 gr4 m4 hb4 anR I9 anQ))
     go_roundw;case rel=>exact⟨k+1,_,u',v',ys++ [KK],I6,ts++ [c1],s2,hlt,by go_num,by rw[take_add_one,getElem?_eq_getElem hlt];exact HTS.ae,auq.ae⟩
     case measure=>exact Za0
  ·have fw:k=args.length:=by omega
   subst fw;rw[take_length] at HT;have PJ:=HX_.ae;rw[HT.ae] at PJ;dsimp only at PJ;have xJ:=aa PJ;have qC:=aa (sQ HT.ae);have LE:=aa (Q7.ae.trees.length);clear PJ hlt HX_;have c7:=Q7.ae.x.cell 0;simp only[Uaa] at c7;obtain⟨aA,ac,rfl,auo,hres⟩:=pF Q7.ae.own (S:=λ b=>B1<=b/\Kp wr gp [u1,v1] b) (λ q hq=>⟨(Q7.ae.own.lt hq).2.1,Q7.ae.ka q hq⟩);have jI:=aa hres;have afA:=aa (show Tr.aO wr (λ b=>B1<=b/\Kp wr gp [u1,v1] b) ts ys from Tr.xW (λ b MY=>⟨λ _=>rfl,MY.1.1,MY.2⟩) Q7.ae.trees);have Jk:=Q7.ae.y;have c0:=Jk.cell 0;have c1:=Jk.cell 1;have c2:=Jk.cell 2;have y3:=Jk.cell 3;have c4:=Jk.cell 4;have c5:=Jk.cell 5;have c6:=Jk.cell 6;simp only[Uaa] at c0 c1 c2 y3 c4 c5 c6;clear hres Jk;by_cases oG:op=2
   ·have d0:(z.op==2)=true:=by rw[HZE.ae.1];simp[oG]
    have Hq:=aa oG;clear oG;go_wp2_with fail;clear c0 c1 c2 y3 c4 c5 c6 c7 d0;have hz2:z.op=2:=HZE.ae.1.trans Hq.ae;rw[hz2];have gZ:=Q7.ae.ps.blk;unfold PC.cells at gZ;have Kx:=gZ.cell 8;simp only[Uaa] at Kx;have lN:=kx.ae;rw[HHT.ae] at lN;unfold Tr.ok at lN;refine(Qh gp z.v z.name z.width ys (.slice aA ys.length ac) B1 c.cols c.cA c.cc wr (by
     unfold Tr.ok
     have h1:=HZE.ae
     have h2:=HE4.ae
     refine⟨by rw[h1.2.1];exact lN.1,by rw[length_replicate];have:=LE.ae;have:=qC.ae;omega,by decide,by rw[h2];exact lN.2.2.2.1,by rw[h1.2.1];exact lN.2.2.2.2.1,Ta _⟩) (by have:=LE.ae;have:=qC.ae;omega) Q7.ae.own gZ.lt Kx (ia.ae.cols.later Q7.ae.ps.base) (by exact ia.ae.cl) (λ e=>(ew.1 (Q7.ae.ka gp e)).2.1 rfl) (λ hc0 a ha e=>by
     rcases ia.ae.cols with h |⟨b,off,h1,h2,h3⟩
     ·exact hc0 h
     ·rw[h1] at ha
      injection ha with ha
      have h4:=(Q7.ae.own.lt e).2.1
      have h5:=Q7.ae.low
      have h6:=Q7.ae.base
      rw[<- ha] at h4
      have h7:B1<=b:=h4
      omega) Q7.ae.size).mono ?_
    rintro e w7 ⟨rfl,Nw⟩;have wA:=aa (Q7.ae.stp.below Nw (by have:=Q7.ae.low;omega));have hb:=Q7.ae.res.below Nw (by have:=Q7.ae.low;omega);have Gp:=hb.frozen;open zcB in exact Za7
   ·have d0:(z.op==2)=false:=by rw[HZE.ae.1];simp[oG]
    have Hq:=aa oG;clear oG c0 c1 c2 y3 c4 c5 c6;go_upto_region 27 with fail
    clear c7 d0;obtain⟨KK,hy⟩:∃KK:Ex,KK=⟨z.op,z.v,z.name,z.width,aA,ys.length,ac⟩:=⟨_,rfl⟩;have VJ:=aa (show aB wr g10 46 (ay KK) by rw[hy];exact Q7.ae.y);obtain⟨VA,vc,NM,_⟩:=Q7.ae.ps.dJ.reads;subst NM;have gZ:=Q7.ae.ps.blk;unfold PC.cells at gZ;have Nx:=aa (show wr.cell? ⟨gp,10,none⟩=some (.slice VA s1.aL.length vc)from by
     have:=gZ.cell 10
     simpa using this)
    have Qi:=aa gZ.lt;have ahZ:(Tr.mk op xv name width ts).at_ wr (λ b=>B1<=b/\Kp wr gp [u1,.slice VA s1.aL.length vc] b) KK:=by have h2:=HZE.ae;have h3:=HE4.ae;unfold Tr.at_;rw[hy];exact⟨h2.1,h2.2.1,h2.2.2,h3,LE.ae,ys,jI.ae,afA.ae⟩
    have anS:=aa ahZ;have Nz:(Tr.mk op xv name width ts).ok:=by have h1:=kx.ae;rw[HHT.ae] at h1;unfold Tr.ok at h1 ⊢;exact⟨h1.1,by rw[qC.ae];exact h1.2.1,h1.2.2.1,h1.2.2.2.1,h1.2.2.2.2.1,((ku (λ t _ s=>iG c.aL c.cols t s) s:pC args s (Tr.turns c.aL c.cols args s)).ok _ _ HT.ae) h1.2.2.2.2.2⟩
    have zT:s1.aL.length<=140737488355328:=by have h1:=((ku (λ t _ s=>iG c.aL c.cols t s) s:pC args s (Tr.turns c.aL c.cols args s)).len _ _ HT.ae);have h2:=HLEN.ae;have h3:=ahY.ae;omega
    have wU:=aa (Tr.oM (cols:=s1.aL) (CA:=VA) (cc:=vc) zT _ KK wr Nz (E7 ahZ) (I4 Q7.ae.ps.dJ));have hXN:=xJ.ae;rw[if_neg Hq.ae] at hXN;generalize LT:(Tr.mk op xv name width ts).type s1.aL=R at*;obtain⟨ty,er⟩:=R;dsimp only at hXN wU;have uO:=aa hXN;clear ahZ Nz zT hXN LT hy gZ xJ Hq;open zeo in exact Zcl):p:=h
theorem zfS.Kbr(h:p:=by rw[CF,show t.op=op from ahW,ha] at pn;have HIS:=aa pn;have UY:=aa CF;clear c8 Kx c10 hb1 hf pn CF Gn qu;go_wp2_with fail;have Vj:=aa kB;have Ly:=aa Lw;have hop:=UY.ae;rw[hop,ahW];refine(HIS.ae w1).mono ?_;rintro e w2 ⟨rfl,hb2⟩;rw[<- ahW,<- hop];have uv:=aa (CE.ae.later hb2);have rC:=Vj.ae.later hb2;have XB:=aa (Ly.ae.later hb2);have fG:=aa (ai.then zJ.ae (ai.then eB.ae hb2));clear hxo kB Lw hb2 hop Vj Ly eB CE;open zdQ in exact ZbX):p:=h
theorem za6.Kac(h:p:=by open zfS in exact ZdS):p:=h
theorem Vz (c:PC)(w0:World)(gp:Nat)(r:Rest)(op:Int)(xv:Val)(name:ByteArray)(width:Int)(args:List Tr)(z:Ex)(s:dy)(u v:Value)(ya:List Ex)(w:World)(hf:c.aL.findIdx? (λ g=>g.same (.mk op xv name width args))=none)(ha:isAgg op=false)(ih:∀a∈args,G5 c w0 gp r a)(aZ:c.Ok w0)(fX:(Tr.mk op xv name width args).ok)(hat:(Tr.mk op xv name width args).at_ w0 (Old w0) z)(nU:eJ c w0 gp r w u v ya s)(hlen:s.aL.length+s.aJ.length+2*(Tr.mk op xv name width args).nodes<=1000000):
  ar 99 #[aw gp,.agg (ay z)] w (rG c w0 gp r u v w ((Tr.mk op xv name width args).turn c.aL c.cols s)):=by
 obtain⟨t,ht⟩:∃t,t=Tr.mk op xv name width args:=⟨_,rfl⟩;have ahW:t.op=op:=by rw[ht];rfl
 have HIH:=aa ih;have HLEN:=aa hlen;have HHT:=aa ht;obtain⟨X,hX⟩:∃X,X=t.turn c.aL c.cols s:=⟨_,rfl⟩;have hXn:=hX;rw[ht,sR,hf] at hXn;dsimp only at hXn;rw[if_neg (by rw[ha];decide)] at hXn;have HX_:=aa hXn;have Nm:=aa (iG c.aL c.cols t s);rw[<- hX] at Nm;rw[<- ht] at hf fX hat ⊢;rw[<- hX];clear ht hX hXn ih hlen;open za6 in exact Zaq
theorem acK (c:PC)(w0:World)(gp:Nat)(r:Rest)(aZ:c.Ok w0):∀t,G5 c w0 gp r t:=by
 refine Tr.ind ?_;intro op xv name width args ih z s u v ya w fX hat nU hlen
 cases hf:c.aL.findIdx? (λ g=>g.same (.mk op xv name width args))with
 | some k=>have h:=Qa c w0 gp r _ z s u v ya w k hf aZ fX hat nU;rw[sR,hf];exact h
 | none=>
   have hn:1<=(Tr.mk op xv name width args).nodes:=by rw[Tr.nodes];omega
   cases ha:isAgg op with
   | false=>exact Vz c w0 gp r op xv name width args z s u v ya w hf ha ih aZ fX hat nU hlen
   | true=>
     obtain⟨q,hq⟩:∃q,q=fV c.cols op args:=⟨_,rfl⟩;obtain⟨ty,er⟩:=q;rw[sR,hf];dsimp only;rw[if_pos ha,<- hq];dsimp only;by_cases her:er=0
     ·subst her;rw[if_neg Taa];exact Ml c w0 gp r _ z s u v ya w hf ha ty hq.symm WC aZ fX hat nU
     ·rw[if_pos her];exact Ji c w0 gp r _ z s u v ya w hf ha ty er hq.symm her aZ fX hat nU
def ownPost (c:PC)(w0:World)(gp:Nat)(r:Rest)(u v:Value)(w:World)(x:Except Int (Tr×Int×dy))(e:Ending)(w':World):Prop:=
 match x with
 | .error er=>∃(y:Ex) (ty:Int) (u' v':Value),e=.returned (.tuple #[.agg (ay y),ag ty,af er])/\gL gp w u v w' u' v'
 | .ok (t,ty,s)=>∃y u' v' ya,e=.returned (.tuple #[.agg (ay y),ag ty,af 0])/\t.at_ w' (λ b=>(b < w0.heap.size\/w.heap.size<=b)/\Kp w' gp [u',v'] b) y/\eJ c w0 gp r w' u' v' ya s/\gL gp w u v w' u' v'
variable{w0:World}{ya:List Ex}
theorem eJ.J0{c:PC}   {r:Rest}   (h:eJ c w0 gp r w u v ya s)  (hat:t.at_ w0 (Old w0) z):t.at_ w (λ b=>b < w0.heap.size/\Kp w gp [u,v] b) z:=
 Tr.at_.keep (λ b hb=>⟨λ o=>h.base.cell (p:=⟨b,o,none⟩) hb,hb,ew.2 ⟨Nat.lt_of_lt_of_le hb h.base.size,λ e=>by have:=h.low;have:b < w0.heap.size:=hb;omega,λ e=>by have:=h.kp9 b e;have:b < w0.heap.size:=hb;omega,λ e=>by have:=h.aua b e;have:b < w0.heap.size:=hb;omega⟩⟩) t z hat
theorem zbQ.Kak(h:p:=by
 refine bodyPost_ret (v:=.tuple #[.agg (ay z),ag ty,af er]) Tau rfl ?_;by_cases her:er=0
 ·subst her;have Ms:=uO.ae;rw[if_neg Taa] at Ms;rw[Ms];refine⟨z,u,v,ya,rfl,?_,JU.ae.aside kG Mt.ae Tbe,((gL.refl gp w u v).later anT.ae).own kG mz.ae⟩;exact Tr.at_.keep (λ b Ly=>⟨λ o=>bH (kG.block b Ly.2.1 (λ e=>by injection e with e;have:=Ly.1;have:=pD.ae.base.size;have:=mz.ae;omega)) o,.inl Ly.1,Ly.2.size kG.size⟩) t z (JU.ae.J0 CD.ae)
 ·have Ms:=uO.ae;rw[if_pos her] at Ms;rw[Ms];exact⟨z,ty,_,_,rfl,((gL.refl gp w u v).later anT.ae).own kG mz.ae⟩):p:=h
theorem zcD.Kau(h:p:=by
 have Gp:=hb.frozen;clear k1 hb;go_wp2_with fail;clear z0 z1 x2 x3 x4 x5 x6 c0 c1 c2 y3 c4 c5 c6 Gp;generalize uw:World.setCell _ _ _=W9;have hR:aB W9 g4 46 (ay z):=by rw[<- uw];simpa using(((((((Q7.ae.aU 0 _).aU 1 _).aU 2 _).aU 3 _).aU 4 _).aU 5 _).aU 6 _)
 have kG:W3.grownBy W9 (some g4):=by rw[<- uw];exact aC (aC (aC (aC (aC (aC (aC (aR (Below.refl _ _)) _ _) _ _) _ _) _ _) _ _) _ _) _ _
 open zbQ in exact ZaB):p:=h
theorem zbm.Kaf(h:p:=by have hb:=Q7.ae;open zcD in exact Za7):p:=h
theorem zfU.Kbs(h:p:=by refine bodyPost_ret (v:=.tuple #[.agg (ay KK),ag 0,af er]) Tau rfl ?_;rw[acL.ae];exact⟨KK,0,_,_,rfl,HG.ae.own kG mz.ae⟩):p:=h
theorem zcE.Kau(h:p:=by
 have Gp:=hb.frozen;clear k1 hb VG;go_wp2_with fail;clear z0 z1 x2 x3 x4 x5 x6 c0 c1 c2 y3 c4 c5 c6 Gp hne;generalize hWX:World.setCell _ _ _=WX;have hR:aB WX g4 46 (ay KK):=by rw[<- hWX];simpa using(((((((Q7.ae.aU 0 _).aU 1 _).aU 2 _).aU 3 _).aU 4 _).aU 5 _).aU 6 _)
 have kG:W9.grownBy WX (some g4):=by rw[<- hWX];exact aC (aC (aC (aC (aC (aC (aC (aR (Below.refl _ _)) _ _) _ _) _ _) _ _) _ _) _ _) _ _
 open zfU in exact ZdV):p:=h
theorem zfV.Kbs(h:p:=by
 refine bodyPost_ret (v:=.tuple #[.agg (ay KK),ag ty,af er]) Tau rfl ?_;by_cases her:er=0
 ·subst her;have Ms:=acL.ae;rw[if_neg Taa] at Ms;rw[Ms];refine⟨KK,u',_,I6,rfl,?_,Qt.ae.aside kG HK8.ae Tbe,uR.ae.own kG mz.ae⟩;exact Tr.at_.keep (λ b Ly=>⟨λ o=>bH (kG.block b Ly.2.1 (λ e=>by injection e with e;have:=Ly.1;have:=HWS.ae;omega)) o,.inr (by have:=Ly.1;have:=HWS.ae;omega),Ly.2.size kG.size⟩) t1 KK aut.ae
 ·have Ms:=acL.ae;rw[if_pos her] at Ms;rw[Ms];exact⟨KK,ty,_,_,rfl,uR.ae.own kG mz.ae⟩):p:=h
theorem zcF.Kau(h:p:=by
 have Gp:=hb.frozen;clear k1 hb;go_wp2_with fail;clear z0 z1 x2 x3 x4 x5 x6 c0 c1 c2 y3 c4 c5 c6 Gp hne;generalize hWX:World.setCell _ _ _=WX;have hR:aB WX g4 46 (ay KK):=by rw[<- hWX];simpa using(((((((zZ.ae.aU 0 _).aU 1 _).aU 2 _).aU 3 _).aU 4 _).aU 5 _).aU 6 _)
 have kG:W3.grownBy WX (some g4):=by rw[<- hWX];exact aC (aC (aC (aC (aC (aC (aC (aR (Below.refl _ _)) _ _) _ _) _ _) _ _) _ _) _ _) _ _
 open zfV in exact ZdV):p:=h
theorem zen.KaT(h:p:=by have Qt:=aa (JU.ae.later hL);have uR:=aa (HG.ae.later hL);have aut:=aa (((gL.refl gp W9 u' (.slice VA s1.aL.length vc)).later hL).tree HYA.ae);have HK8:=aa (Mt.ae.size hL.size);clear hL VJ Q7 JU HG HYA Mt Nx wU;have hne:=nE.ae;have k1:=SU.ae;have z0:=k1.cell 0;have z1:=k1.cell 1;have x2:=k1.cell 2;have x3:=k1.cell 3;have x4:=k1.cell 4;have x5:=k1.cell 5;have x6:=k1.cell 6;simp only[Uaa] at z0 z1 x2 x3 x4 x5 x6;have hb:=zZ.ae;open zcF in exact Za7):p:=h
theorem zbn.Kaf(h:p:=by
 clear k1;go_wp2_with fail;clear z0 z1 x2 x3 x4 x5 x6 c10;refine(acK c w0 gp r ia.ae t z s u v ya W kx.ae CD.ae sP.ae HLEN.ae).mono ?_;intro e w6 hp;have uT:=aa (iG c.aL c.cols t s)
 cases hr:Tr.turn c.aL c.cols t s with
 | error er=>
   have jU:=uO.ae;rw[hr] at hp uT jU;obtain⟨KK,u',v',rfl,hst⟩:=hp;have her:=uT.ae.err _ rfl;have acL:=aa (show X=.error er from jU);have t1:(er != 0)=true:=by simp[her]
   have bg:=ah w6 (.cells (ay KK) 46);have VG:=aB.new w6 46 (ay KK);have Q7:=aa ((hst.blk qu.ae CH.ae).later bg);have HG:=aa ((((gL.refl gp w u v).later zJ.ae).trans hst).later bg);have nE:=aa (show g4≠w6.heap.size by have:=qu.ae.lt;have:=hst.size;omega);clear jU hr her hst uO bg;go_upto_region 5 with fail;generalize w6.alloc (.cells (ay KK) 46)=W9 at*;generalize w6.heap.size=g9 at*;have hne:=nE.ae;have k1:=VG;have z0:=k1.cell 0;have z1:=k1.cell 1;have x2:=k1.cell 2;have x3:=k1.cell 3;have x4:=k1.cell 4;have x5:=k1.cell 5;have x6:=k1.cell 6;simp only[Uaa] at z0 z1 x2 x3 x4 x5 x6;have hb:=Q7.ae;open zcE in exact Za7
 | ok q=>
   obtain⟨t1,s1⟩:=q;have jU:=uO.ae;rw[hr] at hp uT jU;obtain⟨KK,u',v',I6,rfl,uz,pH,hst⟩:=hp;have bg:=ah w6 (.cells (ay KK) 46);have VG:=aB.new w6 46 (ay KK);have Q7:=aa ((hst.blk qu.ae CH.ae).later bg);have Mt:=aa ((hst.kp CH.ae).size bg.size);have HG:=aa ((((gL.refl gp w u v).later zJ.ae).trans hst).later bg);have JU:=aa (pH.later bg);have HYA:=aa (((gL.refl gp w6 u' v').later bg).tree uz);have nE:=aa (show g4≠w6.heap.size by have:=qu.ae.lt;have:=hst.size;omega);have HWS:=aa (show g4 < W.heap.size/\w.heap.size<=W.heap.size from⟨qu.ae.lt,zJ.ae.size⟩);clear hr hst pH uz bg;go_upto_region 5 with fail
   generalize w6.alloc (.cells (ay KK) 46)=W9 at*;generalize w6.heap.size=g9 at*;have VJ:=aa VG;clear VG;obtain⟨VA,vc,NM,_⟩:=JU.ae.dJ.reads;subst NM;have gZ:=JU.ae.blk;unfold PC.cells at gZ;have Nx:=aa (show W9.cell? ⟨gp,10,none⟩=some (.slice VA s1.aL.length vc)from by
    have:=gZ.cell 10
    simpa using this)
   have Qi:=aa gZ.lt;have zT:s1.aL.length<=140737488355328:=by have h1:=uT.ae.len _ _ rfl;have h2:=HLEN.ae;omega
   have wU:=aa (Tr.oM (cols:=s1.aL) (CA:=VA) (cc:=vc) zT t1 KK W9 (uT.ae.ok _ _ rfl kx.ae) (E7 HYA.ae) (I4 JU.ae.dJ));generalize Lw:t1.type s1.aL=R at*;obtain⟨ty,er⟩:=R;dsimp only at jU wU;have acL:=aa jU;clear Lw jU gZ zT uO;go_wp2_with fail;open zen in exact Zcl):p:=h
theorem zev.KaW(h:p:=by
 have hk4:=pD.ae.fresh (w2:=W) mz.ae qu.ae.lt;have CH:=aa hk4;have uA:=aa (pD.ae.fresh (w2:=W) Jh.ae Gn.ae.lt);clear hk4
 cases hg:c.aK with
 | false=>
   rw[hg] at c10;have jU:=HX_.ae;unfold oV at jU;rw[hg,if_pos rfl] at jU;have Nx:=aa c8;have Qi:=aa sP.ae.blk.lt;have wU:=aa (Tr.oM (cols:=c.cols) (CA:=c.cA) (cc:=c.cc) (by have:=ia.ae.cl;omega) t z W kx.ae (CD.ae.later sP.ae.base) (ia.ae.cols.later sP.ae.base));generalize Lw:t.type c.cols=R at*;obtain⟨ty,er⟩:=R;dsimp only at jU wU;have uO:=aa jU;clear Lw jU c8 Kx hg;go_wp2_with fail;clear c10;refine bA 11 (Gt gp 8 c.cA c.cols.length c.cc ty er z) (mZ _ _ _ _ _ _ _ _) Va Va Va ?_ ?_
   ·simp only[take_succ_cons,take_zero];refine⟨ZgP,Z1,Z1,Z1,Zcc,?_,Z1,Z1,Z1,Z1,Z1,trivial⟩
    ·intro ρ w3 hc hL hr;have h0:_=_:=hr.1;have h1:_=_:=hr.2.1;have e1:=hc.func 59;refine bu (f:=59) (args:= #[.agg (ay z),.slice c.cA c.cols.length c.cc]) (w':=w3) Tar ?_;exact ZfW
   intro W3 hL;simp only[Uab];rintro a0 - a1 - a2 - a3 - a4 - a5 - a6 - a7 - a8 - _ rfl _ rfl;simp only[bD,Act.put,Uac];have Av:=aa (Gn.ae.later hL);have Q7:=aa (qu.ae.later hL);have JU:=aa (sP.ae.later hL);have anT:=aa (ai.then zJ.ae hL);have Mt:=aa (CH.ae.size hL.size);clear hL Gn qu sP zJ Nx wU CH uA;have k1:=Av.ae;open zbm in exact Zav
 | true=>rw[hg] at c10;have jU:=HX_.ae;unfold oV at jU;rw[hg,if_neg Taa] at jU;have uO:=aa jU;clear jU c8 Kx hg HX_;have k1:=Gn.ae;open zbn in exact Zav):p:=h
theorem zhN.Kca(h:p:=by go_enter Tryz.func61,Tryz.ntmps61;open zev in exact Zcq):p:=h
theorem zff.Kbb(h:p:=by have c8:=gZ.cell 8;have c10:=gZ.cell 11;have Kx:=gZ.cell 10;open zhN in exact Zf7):p:=h
theorem CN (c:PC)(w0:World)(gp:Nat)(r:Rest)(t:Tr)(z:Ex)(s:dy)(u v:Value)(ya:List Ex)(w:World)(aZ:c.Ok w0)(fX:t.ok)(hat:t.at_ w0 (Old w0) z)(nU:eJ c w0 gp r w u v ya s)(hlen:s.aL.length+s.aJ.length+2*t.nodes<=1000000):
  ar 61 #[aw gp,.agg (ay z)] w (ownPost c w0 gp r u v w (oV c.aK c.aL c.cols t s)):=by have HLEN:=aa hlen;clear hlen;obtain⟨X,hX⟩:∃X,X=oV c.aK c.aL c.cols t s:=⟨_,rfl⟩;rw[<- hX];have HX_:=aa hX;clear hX;open zff in exact ZcZ
variable{ρ:Operand->Value}{T:Value->World->Prop}
theorem zeu.KaV(h:p:=by
 unfold xa execOp;simp only[ho,hp,hx,Instr.storeAt,Instr.sureAddr,Sem.run_bind,Sem.run_pure,Result.andThen_ok,hrun];refine h _ ⟨?_,.inr ⟨q,c,_,?_,hb,setRow_heap w q cur _ e (0,0) hg,?_,hm,?_,?_⟩⟩ ⟨rfl,rfl,rfl,by simp[World.setRow],λ k hk hne=>setRow_other w q k _ (λ e=>hne Tbd)⟩
 ·rw[Gq hf]
 ·rw[e2,length_set]
 ·rw[length_set];exact hn
 ·rw[<- hs];simp[hf];omega
 ·exact ZbG):p:=h
theorem EB{size base:Nat}   {y:α}  {o:Oper}  (ty:TypeId)(p x:Operand)(ho:o.op=.store ty p x)
  (q n c i:Nat) (hf:∀x,(f x).length=size) (hown:aF f e size w base (aI q n c) l) (rW:i < l.length) (hp:ρ p=ba q (i*size)) (hx:ρ x=.agg (f y).toArray)
  (hi:(P.info? ty).map (·.size)=some size) (h1:(f y).toArray.all (·.oneCell')=true)
  (h:∀w',aF f e size w' base (aI q n c) (l.set i y)->w.grownBy w' (some q)->T undef w'):xa P o ρ w T:=by
 rcases hown.2 with ⟨hv,_⟩|⟨g,cap,cur,hv,hb,hg,hn,hm,hs,ht⟩
 ·cases hv
 ·open zeu in exact Zcp
theorem CO{size base:Nat}   {z y:α}  {o:Oper}  (ty:TypeId)(p x:Operand)(ho:o.op=.store ty p x)
  (q n c:Nat) (hf:∀x,(f x).length=size) (hown:aF f e size w base (aI q n c) (l++ [z])) (hp:ρ p=ba q (l.length*size)) (hx:ρ x=.agg (f y).toArray)
  (hi:(P.info? ty).map (·.size)=some size) (h1:(f y).toArray.all (·.oneCell')=true)
  (h:∀w',aF f e size w' base (aI q n c) (l++ [y])->w.grownBy w' (some q)->T undef w'):xa P o ρ w T:=by
 refine EB ty p x ho q n c l.length hf hown Tac hp hx hi h1 λ w' h1 h2=>h w' ?_ h2
 exact ZgN
variable{V V':Nat->World->Value->Prop}{K:Act->World->Prop}
theorem bD.weaken:∀ {l:List Oper} {k:Nat} {a:Act} {w:World},(∀i w v,V' i w v->V i w v)->bD V K l k a w->bD V' K l k a w:=by
 intro l
 induction l with
 | nil=>intro k a w _ h;exact h
 | cons o l ih=>
   intro k a w hv h;unfold bD at h ⊢;revert h
   cases o.dst with
   | none=>intro h;exact ih hv h
   | some d=>intro h;exact λ x hx=>ih hv (h x (hv _ _ _ hx))
structure LaA (W:World) (z:Option Value) (w:World):Prop where
 below:aj W w
 zero:∀x,z=some x->∃g0,x=aI g0 1 1/\aB w g0 46 (bF wu).toArray
structure LaB (gp k B:Nat) (W:World) (cs:Array Value) (r:Value) (ys:List Ex) (y:Ex) (a:Value) (s p:Bool) (w:World):Prop where
 row:∃q c,a=aI q (ys.length+1) c/\q≠gp
 own:aF bF 46 7 w B a (ys++ [if s=true then y else wu])
 blk:aB w gp 81 (if p=true then cs.setIfInBounds k a else cs)
 far:∀b,b < W.heap.size->b≠gp->r.ownBlock≠some b->w.heap[b]?=W.heap[b]?
 os:w.os=W.os
 tape:w.tape=W.tape
 output:w.output=W.output
 size:W.heap.size<=w.heap.size
 mv:Mv W r a
variable{k:Nat}{W:World}{cs:Array Value}{r:Value}
theorem LaB.later{a:Value}  {y:Ex} {s p:Bool}(h:LaB gp k B W cs r ys y a s p w)(hb:aj w w'):LaB gp k B W cs r ys y a s p w':=
 ⟨h.row,h.own.later hb,h.blk.later hb,λ b h1 h2 h3=>(hb.block b (Nat.lt_of_lt_of_le h1 h.size)).trans (h.far b h1 h2 h3),hb.os.trans h.os,hb.tape.trans h.tape,hb.output.trans h.output,Nat.le_trans h.size hb.size,h.mv⟩
def anW (o0 o1 o2 o3 o4 o5 o6 o7 o8 o9 qz wY uU:Oper)(s0 s1 d0 d1 d2 d3 d4 d5 d6 d7 d8 d10 d11:Tmp):Bool:=
 (tmpsOf o0== [s0])&&(cW [o0,o1,o2,o3,o4,o5,o6,o7,o8,o9,qz,wY,uU] o0 s0==none)&&(tmpsOf o1== [d0])&&(cW [o0,o1,o2,o3,o4,o5,o6,o7,o8,o9,qz,wY,uU] o1 d0==some 0)&&(tmpsOf o2== [d1])&&(cW [o0,o1,o2,o3,o4,o5,o6,o7,o8,o9,qz,wY,uU] o2 d1==some 1)&&(tmpsOf o3== [d2])&&(cW [o0,o1,o2,o3,o4,o5,o6,o7,o8,o9,qz,wY,uU] o3 d2==some 2)&&(tmpsOf o4== [s1])&&(cW [o0,o1,o2,o3,o4,o5,o6,o7,o8,o9,qz,wY,uU] o4 s1==none)&&(tmpsOf o5== [d3])&&(cW [o0,o1,o2,o3,o4,o5,o6,o7,o8,o9,qz,wY,uU] o5 d3==some 3)&&(tmpsOf o6== [])&&(tmpsOf o7== [d3,d6])&&(cW [o0,o1,o2,o3,o4,o5,o6,o7,o8,o9,qz,wY,uU] o7 d3==some 3)&&(cW [o0,o1,o2,o3,o4,o5,o6,o7,o8,o9,qz,wY,uU] o7 d6==some 6)&&(tmpsOf o8== [d7,d5])&&(cW [o0,o1,o2,o3,o4,o5,o6,o7,o8,o9,qz,wY,uU] o8 d7==some 7)&&(cW [o0,o1,o2,o3,o4,o5,o6,o7,o8,o9,qz,wY,uU] o8 d5==some 5)&&(tmpsOf o9== [d8,d4])&&(cW [o0,o1,o2,o3,o4,o5,o6,o7,o8,o9,qz,wY,uU] o9 d8==some 8)&&(cW [o0,o1,o2,o3,o4,o5,o6,o7,o8,o9,qz,wY,uU] o9 d4==some 4)&&(tmpsOf qz== [d0])&&(cW [o0,o1,o2,o3,o4,o5,o6,o7,o8,o9,qz,wY,uU] qz d0==some 0)&&(tmpsOf wY== [d10])&&(cW [o0,o1,o2,o3,o4,o5,o6,o7,o8,o9,qz,wY,uU] wY d10==some 10)&&(tmpsOf uU== [d11,d7])&&(cW [o0,o1,o2,o3,o4,o5,o6,o7,o8,o9,qz,wY,uU] uU d11==some 11)&&(cW [o0,o1,o2,o3,o4,o5,o6,o7,o8,o9,qz,wY,uU] uU d7==some 7)&& o0.guard.isNone && o1.guard.isNone && o2.guard.isNone && o3.guard.isNone && o4.guard.isNone && o5.guard.isNone && o6.guard.isNone && o7.guard.isNone && o8.guard.isNone && o9.guard.isNone && qz.guard.isNone && wY.guard.isNone && uU.guard.isNone && ir o7 3 && ir o7 6 && ir o8 7 && ir o9 7 && ir uU 7
def zY (gp k B:Nat)(W:World)(cs:Array Value)(r:Value)(ys:List Ex)(y:Ex)(σ:Nat->Option Value)(w:World):Prop:=
 match σ 7 with
 | none=>σ 8=none/\σ 9=none/\σ 12=none/\(∀x,σ 3=some x->x=r)/\LaA W (σ 6) w
 | some a=>(σ 3).isSome=true/\(σ 6).isSome=true/\(∀x,σ 3=some x->x=r)/\LaB gp k B W cs r ys y a (σ 9).isSome (σ 12).isSome w/\∀x,σ 8=some x->∃G cap,a=.slice (some ⟨G,0,none⟩) (ys.length+1) cap/\x=.pointer (some ⟨G,ys.length*7,none⟩)
theorem J1{y:Ex}(σ:Nat->Option Value)(w:World)(h:zY gp k B W cs r ys y σ w):zY gp k B W cs r ys y σ w.drew:=by
 have hb:aj w w.drew:=(Below.refl _ _).drew;unfold zY at*
 cases ha:σ 7 with
 | none=>rw[ha] at h;obtain⟨h1,h2,h3,h4,h5⟩:=h;exact⟨h1,h2,h3,h4,⟨Below.trans h5.below (hb.mono h5.below.size),λ x hx=>by obtain⟨g0,k1,k2⟩:=h5.zero x hx;exact⟨g0,k1,k2.later hb⟩⟩⟩
 | some a=>rw[ha] at h;obtain⟨h1,h2,h3,h4,h5⟩:=h;exact⟨h1,h2,h3,h4.later hb,h5⟩
section
variable {gp k B gx:Nat} {W:World} {cs:Array Value} {r:Value} {ys:List Ex} {y:Ex} {Q:Exit->Act->World->Prop} {a0:Act} {id:Nat} {o0 o1 o2 o3 o4 o5 o6 o7 o8 o9 qz wY uU:Oper} {s0 s1 d0 d1 d2 d3 d4 d5 d6 d7 d8 d10 d11:Tmp}
theorem zhK.Kb9(h:p:=by rw[ha] at r0;injection r0 with r0;refine aq (h8 ρ w q c (r0.symm.trans e1) r1) ?_;show zY gp k B W cs r ys y _ _;unfold zY;simp only[jF,ha,pR,Nat.reduceEqDiff,if_true,if_false];exact⟨k1,k2,k3,za,λ x e=>by injection e with e;exact⟨q,c,e1,e.symm⟩⟩):p:=h
theorem zhL.Kb9(h:p:=by
 obtain⟨G2,agB,e7,e8⟩:=k5 _ r0;rw[pR] at za;have ho:=za.own;rw[e7] at ho e1;injection e1 with e1 _ e3;injection e1 with e1;injection e1 with e1 _ _;subst e1 e3;refine CO 46 (.tmp d8) (.tmp d4) h9 G2 (ys.length+1) agB (f:=bF) (y:=y) (l:=ys) (λ _=>rfl) ho e8 r1 Va TaC ?_;intro w' AP Rs;show zY gp k B W cs r ys y _ _;unfold zY;simp only[jF,ha,Nat.reduceEqDiff,if_true,if_false,Option.isSome_some];refine⟨k1,k2,k3,⟨⟨G2,agB,e7,e2⟩,by rw[e7];exact AP,za.blk.grown Rs (λ e=>by injection e with e;exact e2 e.symm),λ b h1 h2 h3=>?_,Rs.os.trans za.os,Rs.tape.trans za.tape,Rs.output.trans za.output,Nat.le_trans za.size Rs.size,za.mv⟩,k5⟩;refine(Rs.block b (Nat.lt_of_lt_of_le h1 za.size) λ e=>?_).trans (za.far b h1 h2 h3);injection e with e;rcases za.mv with h | h
 ·rw[e7] at h;exact h3 (by rw[<- h,e];rfl)
 ·have:=h G2 (by rw[e7];rfl);omega):p:=h
theorem zhM.Kb9(h:p:=by rw[ha] at r1;injection r1 with r1;rw[pR] at za;have jR:aB w gp 81 cs:=za.blk;have hrun:=h12 ρ w (some ⟨q,0,none⟩) (ys.length+1) c r0 (r1.symm.trans e1) (by rw[jR.cell];exact hcs) (jR.frozen _);unfold xa;rw[hrun];show zY gp k B W cs r ys y _ _;unfold zY;simp only[jF,ha,Nat.reduceEqDiff,if_true,if_false,Option.isSome_some];have aod:=za.own;refine⟨k1,k2,k3,⟨⟨q,c,e1,e2⟩,aod.keep λ g hg2=>Below.heap_setCell w ⟨gp,k,none⟩ _ g λ e=>?_,by have:=jR.aU k a;rw[e1] at this ⊢;exact this,λ b h1 h2 h3=>(Below.heap_setCell w ⟨gp,k,none⟩ _ b h2).trans (za.far b h1 h2 h3),za.os,za.tape,za.output,by rw[World.size_setCell];exact za.size,za.mv⟩,k5⟩;rw[e1] at hg2;injection hg2 with hg2;exact e2 (hg2.trans e)):p:=h
theorem Gv (hm:Tryz.prog.follows .mixedOrders=true)(aZ:dN [o0,o1,o2,o3,o4,o5,o6,o7,o8,o9,qz,wY,uU] a0.tmps.size [o0,o1,o2,o3,o4,o5,o6,o7,o8,o9,qz,wY,uU] 0=true)(BW:anW o0 o1 o2 o3 o4 o5 o6 o7 o8 o9 qz wY uU s0 s1 d0 d1 d2 d3 d4 d5 d6 d7 d8 d10 d11=true)
  (es0:a0.eval (.tmp s0)=.pointer (some ⟨gp,0,none⟩)) (es1:a0.eval (.tmp s1)=.pointer (some ⟨gx,0,none⟩))
  (h0:∀ρ w,ρ (.tmp s0)=.pointer (some ⟨gp,0,none⟩)->(execOp ρ o0).run Tryz.prog w=.ok (.value (.pointer (some ⟨gp,0,none⟩))) w)
  (h1:∀ρ w,ρ (.tmp d0)=.pointer (some ⟨gp,0,none⟩)->(execOp ρ o1).run Tryz.prog w=.ok (.value (.pointer (some ⟨gp,0,none⟩))) w)
  (h2:∀ρ w,ρ (.tmp d1)=.pointer (some ⟨gp,0,none⟩)->(execOp ρ o2).run Tryz.prog w=.ok (.value (.pointer (some ⟨gp,k,none⟩))) w)
  (h3:∀ρ w,ρ (.tmp d2)=.pointer (some ⟨gp,k,none⟩)->w.cell? ⟨gp,k,none⟩=some r->(execOp ρ o3).run Tryz.prog w=.ok (.value (r)) w)
  (h4:∀ρ w,ρ (.tmp s1)=.pointer (some ⟨gx,0,none⟩)->aB w gx 46 (bF y).toArray->(execOp ρ o4).run Tryz.prog w=.ok (.value (.agg (bF y).toArray)) w)
  (h5:∀ρ w,ρ (.tmp d3)=r->(execOp ρ o5).run Tryz.prog w=.ok (.value (.int .i64 (ys.length:Int))) w)
  (h6:∀ρ w,oz ρ->(execOp ρ o6).run Tryz.prog w=.ok (.value (.slice (some ⟨w.heap.size,0,none⟩) 1 1)) (w.alloc (.cells (bF wu).toArray 46)))
  (h7:∀ρ w x v' w',ρ (.tmp d3)=r->ρ (.tmp d6)=x->(Builtin.append_ #[23,23] 23 #[r,x]).run Tryz.prog w=.ok v' w'->(execOp ρ o7).run Tryz.prog w=.ok (.value v') w')
  (h8:∀ρ w G cap,ρ (.tmp d7)=.slice (some ⟨G,0,none⟩) (ys.length+1) cap->ρ (.tmp d5)=.int .i64 (ys.length:Int)->(execOp ρ o8).run Tryz.prog w=.ok (.value (.pointer (some ⟨G,ys.length*7,none⟩))) w)
  (h9:o9.op=.store 46 (.tmp d8) (.tmp d4))
  (h10:∀ρ w,ρ (.tmp d0)=.pointer (some ⟨gp,0,none⟩)->(execOp ρ qz).run Tryz.prog w=.ok (.value (.pointer (some ⟨gp,0,none⟩))) w)
  (h11:∀ρ w,ρ (.tmp d10)=.pointer (some ⟨gp,0,none⟩)->(execOp ρ wY).run Tryz.prog w=.ok (.value (.pointer (some ⟨gp,k,none⟩))) w)
  (h12:∀ρ w A m c,ρ (.tmp d11)=.pointer (some ⟨gp,k,none⟩)->ρ (.tmp d7)=.slice A m c->w.cell? ⟨gp,k,none⟩=some r->w.frozen? ⟨gp,k,none⟩=false->(execOp ρ uU).run Tryz.prog w=.ok .skip (w.setCell ⟨gp,k,none⟩ (.slice A m c)))
  (hcs:cs[k]?=some r) (hB:B<=W.heap.size) (hblk:aB W gp 81 cs) (hown:aF bF 46 7 W B r ys) (hlen:ys.length<=1000000)
  (hgx:aB W gx 46 (bF y).toArray) (hxg:gx≠gp) (hxr:r.ownBlock≠some gx)
  (lZ:∀a w,LaB gp k B W cs r ys y a true true w->bD (λ _ _ _=>True) (λ a w=>wpList Tryz.prog [o0,o1,o2,o3,o4,o5,o6,o7,o8,o9,qz,wY,uU].toArray Q [] a w) [o0,o1,o2,o3,o4,o5,o6,o7,o8,o9,qz,wY,uU] 0 a0 w):
  (Code.region id [o0,o1,o2,o3,o4,o5,o6,o7,o8,o9,qz,wY,uU].toArray true).wp Tryz.prog Q a0 W:=by
 simp only[anW,Bool.and_eq_true,beq_iff_eq,Option.isNone_iff_eq_none] at BW;obtain⟨⟨⟨⟨⟨⟨⟨⟨⟨⟨⟨⟨⟨⟨⟨⟨⟨⟨⟨⟨⟨⟨⟨⟨⟨⟨⟨⟨⟨⟨⟨⟨⟨⟨⟨⟨⟨⟨⟨⟨⟨⟨⟨⟨⟨⟨t0,auv⟩,t1⟩,auw⟩,t2⟩,auy⟩,t3⟩,auz⟩,t4⟩,auA⟩,t5⟩,auB⟩,t6⟩,t7⟩,auC⟩,auD⟩,t8⟩,auE⟩,auF⟩,t9⟩,auG⟩,auH⟩,t10⟩,anY⟩,t11⟩,anZ⟩,t12⟩,aoa⟩,aob⟩,g0⟩,g1⟩,g2⟩,g3⟩,g4⟩,g5⟩,g6⟩,g7⟩,g8⟩,g9⟩,g10⟩,g11⟩,g12⟩,auI⟩,aBx⟩,auJ⟩,auK⟩,aoc⟩:=BW;refine qU [] [o0,o1,o2,o3,o4,o5,o6,o7,o8,o9,qz,wY,uU] Tac (λ i=>if i=0 then .pointer (some ⟨gp,0,none⟩)else if i=1 then .pointer (some ⟨gp,0,none⟩)else if i=2 then .pointer (some ⟨gp,k,none⟩)else if i=4 then(.agg (bF y).toArray)else if i=5 then .int .i64 (ys.length:Int)else if i=10 then .pointer (some ⟨gp,0,none⟩)else if i=11 then .pointer (some ⟨gp,k,none⟩)else undef) [3,6,7,8,9,12] (zY gp k B W cs r ys y) J1 ⟨rfl,rfl,rfl,(λ x e=>by cases e),⟨Below.refl _ _,λ x e=>by cases e⟩⟩ hm aZ rfl rfl ?_ ?_
 ·refine⟨?_,?_,?_,?_,?_,?_,?_,?_,?_,?_,?_,?_,?_,trivial⟩
  ·intro ρ w σ hc hG hr he hno;rw[t0] at hr;have r0:=hr.1;simp only[auv] at r0;refine⟨g0,?_⟩;exact h0 ρ w (r0.trans es0)
  ·intro ρ w σ hc hG hr he hno;rw[t1] at hr;have r0:=hr.1;simp only[auw] at r0;unfold np at r0;rw[if_neg Taa] at r0;refine⟨g1,?_⟩;exact h1 ρ w r0
  ·intro ρ w σ hc hG hr he hno;rw[t2] at hr;have r0:=hr.1;simp only[auy] at r0;unfold np at r0;rw[if_neg Taa] at r0;refine⟨g2,?_⟩;exact h2 ρ w r0
  ·intro ρ w σ hc hG hr he hno;rw[t3] at hr;have r0:=hr.1;simp only[auz] at r0;unfold np at r0;rw[if_neg Taa] at r0;refine⟨g3,?_⟩;rw[if_pos Taa];have pR:=hno Taa;unfold zY at hG
   have ha:σ 7=none:=by
    cases ha:σ 7 with
    | none=>rfl
    | some a=>rw[ha] at hG;have:=hG.1;rw[pR] at this;cases this
   rw[ha] at hG;obtain⟨k1,k2,k3,k4,hA⟩:=hG;refine aq (h3 ρ w r0 ?_) ?_
   ·rw[(hblk.later hA.below).cell];exact hcs
   show zY gp k B W cs r ys y _ _;unfold zY;simp only[jF,ha,k1,k2,k3,Nat.reduceEqDiff,if_true,if_false];exact⟨trivial,trivial,trivial,λ x e=>by injection e with e;exact e.symm,hA⟩
  ·intro ρ w σ hc hG hr he hno;rw[t4] at hr;have r0:=hr.1;simp only[auA] at r0;refine⟨g4,?_⟩;refine h4 ρ w (r0.trans es1) ?_;unfold zY at hG
   cases ha:σ 7 with
   | none=>rw[ha] at hG;exact hgx.later hG.2.2.2.2.below
   | some a=>rw[ha] at hG;exact(hG.2.2.2.1.far gx hgx.lt hxg hxr).trans hgx
  ·intro ρ w σ hc hG hr he hno;rw[t5] at hr;have r0:=hr.1;simp only[auB] at r0;unfold np at r0;rw[if_pos Taa] at r0;refine⟨g5,?_⟩;refine h5 ρ w ?_;unfold zY at hG
   cases ha:σ 7 with
   | none=>rw[ha] at hG;exact hG.2.2.2.1 _ r0
   | some a=>rw[ha] at hG;exact hG.2.2.1 _ r0
  ·intro ρ w σ hc hG hr he hno;rw[t6] at hr;refine⟨g6,?_⟩;rw[if_pos Taa];have pR:=hno Taa;unfold zY at hG
   have ha:σ 7=none:=by
    cases ha:σ 7 with
    | none=>rfl
    | some a=>rw[ha] at hG;have:=hG.2.1;rw[pR] at this;cases this
   rw[ha] at hG;obtain⟨k1,k2,k3,k4,hA⟩:=hG;refine aq (h6 ρ w hc) ?_;show zY gp k B W cs r ys y _ _;unfold zY;simp only[jF,ha,k1,k2,k3,Nat.reduceEqDiff,if_true,if_false];exact⟨trivial,trivial,trivial,k4,⟨hA.below.alloc hA.below.size _,λ x e=>by injection e with e;exact⟨w.heap.size,e.symm,aB.new w _ _⟩⟩⟩
  ·intro ρ w σ hc hG hr he hno;rw[t7] at hr;have r0:=hr.1;simp only[auC] at r0;unfold np at r0;rw[if_pos Taa] at r0;have r1:=hr.2.1;simp only[auD] at r1;unfold np at r1;rw[if_pos Taa] at r1;refine⟨g7,?_⟩;rw[if_pos Taa];have pR:=hno Taa;unfold zY at hG;rw[pR] at hG;obtain⟨k1,k2,k3,k4,hA⟩:=hG;have auL:=he 3 (cK.1 auI) Taa;obtain⟨lv,hlv⟩:=Option.isSome_iff_exists.1 auL;obtain⟨z0,hz1,hz2⟩:=hA.zero _ r1;obtain⟨v',w',hrun,ho,yy,En⟩:=eN (P:=Tryz.prog) (w:=w) 23 23 _ 88 Tryz.underlying23 fL rfl WC (λ _=>rfl) (y:=wu) (by simp[bF,wu,Value.oneCell']) (hown.later hA.below) z0 hz2 WC WC (Nat.le_trans hB hA.below.size);rw[<- hz1] at hrun;refine aq (h7 ρ w _ v' w' (k4 _ r0) rfl hrun) ?_;show zY gp k B W cs r ys y _ _;unfold zY;simp only[jF,hlv,k1,k2,k3,r1,Nat.reduceEqDiff,if_true,if_false,Option.isSome_some,Option.isSome_none];have nG:=hblk.later hA.below;have hb2:=dB nG (hown.later hA.below) Taa yy.grown;obtain⟨q,c,hq,_,_⟩:=ho.block Tac;refine⟨trivial,trivial,λ x e=>k4 x (hlv.trans e),⟨⟨q,c,by rw[hq,length_append];rfl,λ e=>ho.other hb2 Taa (by rw[hq,e];rfl)⟩,ho,hb2,λ b h1 h2 h3=>(yy.grown.block b (Nat.lt_of_lt_of_le h1 hA.below.size) (Ne.symm h3)).trans (hA.below.block b h1),yy.grown.os.trans hA.below.os,yy.grown.tape.trans hA.below.tape,yy.grown.output.trans hA.below.output,Nat.le_trans hA.below.size yy.grown.size,En.later hA.below.size⟩,λ x e=>by cases e⟩
  ·intro ρ w σ hc hG hr he hno;rw[t8] at hr;have r0:=hr.1;simp only[auE] at r0;unfold np at r0;rw[if_pos Taa] at r0;have r1:=hr.2.1;simp only[auF] at r1;unfold np at r1;rw[if_neg Taa] at r1;refine⟨g8,?_⟩;rw[if_pos Taa];have pR:=hno Taa;unfold zY at hG;have ha:=he 7 (cK.1 auJ) Taa;open zhK in exact ZfV
  ·intro ρ w σ hc hG hr he hno;rw[t9] at hr;have r0:=hr.1;simp only[auG] at r0;unfold np at r0;rw[if_pos Taa] at r0;have r1:=hr.2.1;simp only[auH] at r1;unfold np at r1;rw[if_neg Taa] at r1;refine⟨g9,?_⟩;rw[if_pos Taa];have pR:=hno Taa;unfold zY at hG;have ha:=he 7 (cK.1 auK) Taa;open zhL in exact ZfV
  ·intro ρ w σ hc hG hr he hno;rw[t10] at hr;have r0:=hr.1;simp only[anY] at r0;unfold np at r0;rw[if_neg Taa] at r0;refine⟨g10,?_⟩;exact h10 ρ w r0
  ·intro ρ w σ hc hG hr he hno;rw[t11] at hr;have r0:=hr.1;simp only[anZ] at r0;unfold np at r0;rw[if_neg Taa] at r0;refine⟨g11,?_⟩;exact h11 ρ w r0
  ·intro ρ w σ hc hG hr he hno;rw[t12] at hr;have r0:=hr.1;simp only[aoa] at r0;unfold np at r0;rw[if_neg Taa] at r0;have r1:=hr.2.1;simp only[aob] at r1;unfold np at r1;rw[if_pos Taa] at r1;refine⟨g12,?_⟩;rw[if_pos Taa];have pR:=hno Taa;unfold zY at hG;have ha:=he 7 (cK.1 aoc) Taa;open zhM in exact ZfV
 ·intro σ w hall hG;have ha:=hall 7 Taa;obtain⟨a,ha⟩:=Option.isSome_iff_exists.1 ha;have h9:=hall 9 Taa;have h12:=hall 12 Taa;unfold zY at hG;rw[ha,h9,h12] at hG;exact bD.weaken (λ _ _ _ _=>trivial) (lZ a w hG.2.2.2.1)
end
open Go.Shelf
attribute [local go_sem] Oper.semAt_some
theorem Qk{p:Addr}(h:w'.heap[p.block]?=w.heap[p.block]?):w'.cell? p=w.cell? p:=by unfold World.cell?;rw[h]
structure Fr (w w':World):Prop where
 size:w.heap.size<=w'.heap.size
 cell:∀p v,w.cell? p=some v->w'.cell? p=some v
theorem Fr.refl (w:World):Fr w w:=⟨Nat.le_refl _,λ _ _ h=>h⟩
theorem Fr.trans{a b c:World}(h:Fr a b)(k:Fr b c):Fr a c:=⟨Nat.le_trans h.size k.size,λ p v hv=>k.cell p v (h.cell p v hv)⟩
theorem Ql{p:Addr} (h:w.cell? p=some v):p.block < w.heap.size:=by
 rcases Nat.lt_or_ge p.block w.heap.size with h1 | h1
 ·exact h1
 ·unfold World.cell? at h;rw[Array.getElem?_eq_none h1] at h;simp at h
theorem Fr.below(h:aj w w'):Fr w w':=⟨h.size,λ p v hv=>(h.cell (Ql hv)).trans hv⟩
theorem Fr.putObj (w:World)(l:Nat)(ob ob':Obj)(h:w.heap[l]?=some ob)(hc:ob.isCells=false):Fr w (w.putObj l ob'):=
 ⟨by simp,λ p v hv=>by
   obtain⟨o2,ho,hc2⟩:=cells_of_cell hv
   have hne:p.block≠l:=λ e=>by rw[e,h] at ho;injection ho with ho;rw[ho,hc2] at hc;cases hc
   exact(Qk (World.putObj_heap_other hne)).trans hv⟩
variable{off:Nat}
theorem cw.fr{x:Ex}(h:cw w b off x)(hf:Fr w w'):cw w' b off x:=by unfold cw at*;exact⟨hf.cell _ _ h.1,hf.cell _ _ h.2.1,hf.cell _ _ h.2.2.1,hf.cell _ _ h.2.2.2.1,hf.cell _ _ h.2.2.2.2.1,hf.cell _ _ h.2.2.2.2.2.1,hf.cell _ _ h.2.2.2.2.2.2⟩
theorem RE.fr{l:List Ex}(h:RE w B A l)(hf:Fr w w'):RE w' B A l:=by
 rcases h with h |⟨b,off,h1,h2,h3⟩
 ·exact .inl h
 ·exact .inr ⟨b,off,h1,h2,λ i x hx=>(h3 i x hx).fr hf⟩
abbrev QE (w0:World):= { x:Ex×Tr // x.2.ok/\x.2.at_ w0 (Old w0) x.1 }
theorem Az:∀(ts:List Tr) (ys:List Ex),Tr.cL ts->Tr.aO w0 (Old w0) ts ys->∃L:List (QE w0),L.map (λ x=>x.1.1)=ys/\L.map (λ x=>x.1.2)=ts
 | [],ys,_,h=>by unfold Tr.aO at h;subst h;exact⟨[],rfl,rfl⟩
 | t::ts,ys,aZ,h=>by unfold Tr.aO at h;unfold Tr.cL at aZ;obtain⟨y,ys',rfl,h1,h2⟩:=h;obtain⟨L,e1,e2⟩:=Az ts ys' aZ.2 h2;exact⟨⟨(y,t),aZ.1,h1⟩::L,by rw[map_cons,e1],by rw[map_cons,e2]⟩
def Qm(x:QE w0):Array Value:= #[.agg (ay x.1.1)]
theorem nA(h:aj w w'):w.grownBy w' none:=⟨h.os,h.tape,h.output,h.size,λ k hk _=>h.block k hk⟩
theorem zik.Kcp(h:p:=by
 have HA_:=aa hA;clear hR hJ1 hLk fI hex h7 iX Kx hA;gi_wp2;refine HR.ae.mono ?_;rintro e W3 (⟨rfl,hJ3,hk3⟩|⟨rfl,CP⟩)
 ·rw[<- nt.ae] at hJ3;have HJ3:=aa hJ3;have HF3:=aa ((KK.ae.trans (Fr.below (ah wr (.cells #[ag y.op,ag y.v.k,af y.v.n,.string y.v.s,.string y.name,af y.width,.slice y.A y.n y.c,.string nm] 48)))).trans hk3);clear hJ3 hk3 HR HK;exact ZdH
 ·rw[<- nt.ae] at CP;have HJX:=aa CP;clear CP HR HK;gi_wp2;refine bodyPost_ret (results_none rfl _ _ _) rfl ?_;exact⟨⟨_,rfl⟩,.inr ⟨_,by rw[append_assoc];exact(take_prefix _ _).trans (prefix_append _ _),HJX.ae⟩⟩):p:=h
theorem zil.Kcp(h:p:=by
 clear hR hJ1 hLk fI hex Kx;gi_wp2;refine HR.ae.mono ?_;rintro e W3 (⟨rfl,hJ3,hk3⟩|⟨rfl,CP⟩)
 ·rw[<- nt.ae] at hJ3;have HJ3:=aa hJ3;have HF3:=aa ((KK.ae.trans (Fr.below (ah wr (.cells (ay y) 46)))).trans hk3);clear hJ3 hk3 HR HK iE hy;exact ZdH
 ·rw[<- nt.ae] at CP;have HJX:=aa CP;clear CP HR HK iE hy;gi_wp2;refine bodyPost_ret (results_none rfl _ _ _) rfl ?_;exact⟨⟨_,rfl⟩,.inr ⟨_,((prefix_append_right_inj Li).2 (take_prefix _ _)).trans (prefix_append _ _),HJX.ae⟩⟩):p:=h
theorem zim.Kcp(h:p:=by
 clear hR hJ1 hLk fI hex h7 iX Kx hA;gi_wp2;refine HR.ae.mono ?_;rintro e W3 (⟨rfl,hJ3,hk3⟩|⟨rfl,CP⟩)
 ·rw[<- nt.ae] at hJ3;have HJ3:=aa hJ3;have HF3:=aa ((KK.ae.trans (Fr.below (ah wr (.cells #[ag y.op,ag y.v.k,af y.v.n,.string y.v.s,.string y.name,af y.width,.slice y.A y.n y.c,.bool nm] 117)))).trans hk3);clear hJ3 hk3 HR HK iE h72 hy;exact ZdH
 ·rw[<- nt.ae] at CP;have HJX:=aa CP;clear CP HR HK iE h72 hy;gi_wp2;refine bodyPost_ret (results_none rfl _ _ _) rfl ?_;exact⟨⟨_,rfl⟩,.inr ⟨_,(prefix_append_right_inj (Li++Lc)).2 (take_prefix _ _),HJX.ae⟩⟩):p:=h
theorem zcV.Kax(h:p:=by
 have HP:=aa Gu;obtain⟨ft,hl2,tT⟩:=hlen;have HN:=aa (And.intro nw (And.intro ng nh));unfold eI at k1;have q0:=k1.cell 0;have x3:=k1.cell 3;have x4:=k1.cell 4;have x5:=k1.cell 5;have x6:=k1.cell 6;simp only[Uaa] at q0 x3 x4 x5 x6;rw[ni] at q0;rw[no] at x6;have HQ:=aa (And.intro q0 (And.intro x3 (And.intro x4 (And.intro x5 x6))));clear ih q1 hF q2 q3 q4 q5 Au Tn C3 hz Nj Gu ni no nw ng nh x3 x4 x5 x6 k1;refine callsIn_of_wp Tryz.func96 rfl trivial ?_ rfl;simp only[Tryz.ntmps96,size_toArray,length_cons,length_nil,Nat.reduceAdd,Nat.reduceSub,Array.replicate_succ,Array.replicate_zero,push_toArray,append_toArray,nil_append,cons_append];gi_wp2;clear q0;gi_loopw [12] (λ i wr=>∃k:Nat,k<=zi.length/\i=af k/\J (Li.take k) wr/\Fr W wr) (λ i _=>zi.length - (intOf i).toNat);case atStart=>exact⟨0,Nat.zero_le _,rfl,h0,Fr.refl _⟩
 case round=>
  clear h0;obtain⟨k,hk,rfl,hp,hb⟩:=hrel;have HK:=aa hp;have KK:=aa hb;clear hp hb;by_cases hlt:k < zi.length
  ·obtain⟨b,off,hA,Kx,hex,h7⟩:=HF.ae.at_ hlt;obtain⟨nm,iX⟩:=IH.ae _ (getElem_mem hlt);rw[iX] at h7;have iE:=hex.fr (HP.ae.trans KK.ae);have h72:=(HP.ae.trans KK.ae).cell _ _ h7;have fI:k < Li.length:=by have:=congrArg List.length oy.ae;simp only[length_map] at this;omega
   have hLk:(Li[k]'fI).1.1=zi[k].1:=by have h1:=congrArg (λ l=>l[k]?) oy.ae;simp only[getElem?_map,getElem?_eq_getElem hlt,getElem?_eq_getElem fI,Option.map_some] at h1;injection h1
   have nt:=aa (show Li.take (k+1)=Li.take k++ [Li[k]'fI] by rw[take_add_one,getElem?_eq_getElem fI];rfl);have zL:=aa (show(Li.take k).length <(Li++Lc++Lo).length by rw[length_take,length_append,length_append];omega);generalize Li[k]'fI=x at*;rw[hA];generalize zi[k].1=y at*;unfold cw at iE;have hJ1:=gX.ae _ _ (wr.alloc (.cells #[ag y.op,ag y.v.k,af y.v.n,.string y.v.s,.string y.name,af y.width,.slice y.A y.n y.c,.string nm] 48)) none HK.ae (World.grownBy_alloc wr _ none) (λ r e=>by cases e);open zik in exact Zhp
  ·have fw:k=zi.length:=by omega
   subst fw;have aoh:Li.take zi.length=Li:=take_of_length_le (by
    have:=congrArg List.length oy.ae
    simp only[length_map] at this
    omega)
   rw[aoh] at HK;have Lw:=KK.ae;have x3:=Lw.cell _ _ HQ.ae.2.1;have x4:=Lw.cell _ _ HQ.ae.2.2.1;have x5:=Lw.cell _ _ HQ.ae.2.2.2.1;have zP:=aa (Lw.cell _ _ HQ.ae.2.2.2.2);obtain⟨nw,ng,nh⟩:=HN.ae;rw[nw] at x3;rw[ng] at x4;rw[nh] at x5;clear Lw aoh hlt nw ng nh;have aoi:=aa (And.intro x3 (And.intro x4 x5));gi_wp2;have I1:=aa (ah wr (.cells #[.slice L.w.A yw.length L.w.c,.slice L.g.A yg.length L.g.c,.slice L.h.A yh.length L.h.c] 23));have Pz:=aa (aB.new wr 23 #[.slice L.w.A yw.length L.w.c,.slice L.g.A yg.length L.g.c,.slice L.h.A yh.length L.h.c])
   have hRL:RL (wr.alloc (.cells #[.slice L.w.A yw.length L.w.c,.slice L.g.A yg.length L.g.c,.slice L.h.A yh.length L.h.c] 23)) (wr.alloc (.cells #[.slice L.w.A yw.length L.w.c,.slice L.g.A yg.length L.g.c,.slice L.h.A yh.length L.h.c] 23)).heap.size (some ⟨wr.heap.size,0,none⟩) [⟨L.w.A,L.w.c,yw⟩,⟨L.g.A,L.g.c,yg⟩,⟨L.h.A,L.h.c,yh⟩]:=by
    refine⟨wr.heap.size,0,rfl,Pz.ae.lt,λ i x hx=>?_⟩;have hb:=(HP.ae.trans KK.ae).trans (Fr.below I1.ae)
    match i,hx with
    | 0,hx=>simp at hx;subst hx;exact⟨by rw[Pz.ae.cell];rfl,(Q3.ae.fr hb).more hb.size⟩
    | 1,hx=>simp at hx;subst hx;exact⟨by rw[Pz.ae.cell];rfl,(Q4.ae.fr hb).more hb.size⟩
    | 2,hx=>simp at hx;subst hx;exact⟨by rw[Pz.ae.cell];rfl,(Q5.ae.fr hb).more hb.size⟩
    | i+3,hx=>simp at hx
   refine⟨trivial,(callsIn_wide.2 (uq _ 3 _ _ Tac (by simpa [lr] using tT) hRL)).mono ?_⟩;rintro e w5 ⟨v,rfl,hO,Iq⟩;obtain⟨lc,hlc⟩:∃lc,lc=yw++(yg++yh):=⟨_,rfl⟩;have dT:aF bF 46 7 w5 (wr.alloc (.cells #[.slice L.w.A yw.length L.w.c,.slice L.g.A yg.length L.g.c,.slice L.h.A yh.length L.h.c] 23)).heap.size v lc:=by rw[hlc];simpa using hO
   obtain⟨CA,cc,rfl,_,hres⟩:=pF dT (S:=Old w5) (λ q k1=>(dT.lt k1).1);have HRE:=aa (show RE w5 w5.heap.size CA lc from hres);have uS:=aa (ai.then I1.ae Iq);have Ld:=aa (gX.ae _ _ _ none HK.ae (nA uS.ae) (λ r e=>by cases e));have HF5:=aa (KK.ae.trans (Fr.below uS.ae));have HQ7:=aa ((Fr.below uS.ae).cell _ _ zP.ae);have aid:=aa (show Lc.map (λ x=>x.1.1)=lc by rw[Ag.ae,hlc,append_assoc]);have hl4:lc.length<=1000000:=by rw[hlc,<- append_assoc];exact tT
   clear hRL hO dT hres Iq hlc HK KK zP I1 Pz uS x3 x4 x5 aoi;gi_wp2;gi_loopw [31] (λ i wr2=>∃k:Nat,k<=lc.length/\i=af k/\J (Li++Lc.take k) wr2/\Fr w5 wr2) (λ i _=>lc.length - (intOf i).toNat);case atStart=>exact⟨0,Nat.zero_le _,rfl,by rw[take_zero,append_nil];exact Ld.ae,Fr.refl _⟩
   case round=>
    clear Ld;obtain⟨k,hk,rfl,hp,hb⟩:=hrel;have HK:=aa hp;have KK:=aa hb;clear hp hb;by_cases hlt:k < lc.length
    ·obtain⟨b,off,hA,Kx,hex⟩:=HRE.ae.at_ hlt;have iE:=hex.fr KK.ae;have fI:k < Lc.length:=by have:=congrArg List.length aid.ae;simp only[length_map] at this;omega
     have hLk:(Lc[k]'fI).1.1=lc[k]:=by have h1:=congrArg (λ l=>l[k]?) aid.ae;simp only[getElem?_map,getElem?_eq_getElem hlt,getElem?_eq_getElem fI,Option.map_some] at h1;injection h1
     have nt:=aa (show Li++Lc.take (k+1)=(Li++Lc.take k)++ [Lc[k]'fI] by rw[take_add_one,getElem?_eq_getElem fI,append_assoc];rfl);have zL:=aa (show(Li++Lc.take k).length <(Li++Lc++Lo).length by rw[length_append,length_take,length_append,length_append];omega);generalize Lc[k]'fI=x at*;subst hA;generalize lc[k]=y at*;unfold cw at iE;have hJ1:=gX.ae _ _ (wr.alloc (.cells (ay y) 46)) none HK.ae (World.grownBy_alloc wr _ none) (λ r e=>by cases e);open zil in exact Zhp
    ·have fw:k=lc.length:=by omega
     subst fw;have aoj:Lc.take lc.length=Lc:=take_of_length_le (by
      have:=congrArg List.length aid.ae
      simp only[length_map] at this
      omega)
     rw[aoj] at HK;have x6:=KK.ae.cell _ _ HQ7.ae;have HF0:=aa (HP.ae.trans (HF5.ae.trans KK.ae));clear aoj hlt HF5 KK HQ7;gi_wp2;clear x6;gi_loopw [43] (λ i wr2=>∃k:Nat,k<=zo.length/\i=af k/\J (Li++Lc++Lo.take k) wr2/\Fr w0 wr2) (λ i _=>zo.length - (intOf i).toNat);case atStart=>exact⟨0,Nat.zero_le _,rfl,by rw[take_zero,append_nil];exact HK.ae,HF0.ae⟩
     case round=>
      clear HK HF0;obtain⟨k,hk,rfl,hp,hb⟩:=hrel;have HK:=aa hp;have KK:=aa hb;clear hp hb;by_cases hlt:k < zo.length
      ·obtain⟨b,off,hA,Kx,hex,h7⟩:=HFN.ae.at_ hlt;obtain⟨nm,iX⟩:=Q1.ae _ (getElem_mem hlt);rw[iX] at h7;have iE:=hex.fr KK.ae;have h72:=KK.ae.cell _ _ h7;have fI:k < Lo.length:=by have:=congrArg List.length F2.ae;simp only[length_map] at this;omega
       have hLk:(Lo[k]'fI).1.1=zo[k].1:=by have h1:=congrArg (λ l=>l[k]?) F2.ae;simp only[getElem?_map,getElem?_eq_getElem hlt,getElem?_eq_getElem fI,Option.map_some] at h1;injection h1
       have nt:=aa (show Li++Lc++Lo.take (k+1)=(Li++Lc++Lo.take k)++ [Lo[k]'fI] by rw[take_add_one,getElem?_eq_getElem fI,<- append_assoc];rfl);have zL:=aa (show(Li++Lc++Lo.take k).length <(Li++Lc++Lo).length by simp only[length_append,length_take];omega);generalize Lo[k]'fI=x at*;rw[hA];generalize zo[k].1=y at*;unfold cw at iE;have hJ1:=gX.ae _ _ (wr.alloc (.cells #[ag y.op,ag y.v.k,af y.v.n,.string y.v.s,.string y.name,af y.width,.slice y.A y.n y.c,.bool nm] 117)) none HK.ae (World.grownBy_alloc wr _ none) (λ r e=>by cases e);open zim in exact Zhp
      ·have fw:k=zo.length:=by omega
       subst fw;have aol:Lo.take zo.length=Lo:=take_of_length_le (by
        have:=congrArg List.length F2.ae
        simp only[length_map] at this
        omega)
       rw[aol] at HK;clear aol hlt KK;gi_wp2;go_end0;exact⟨⟨_,rfl⟩,.inl ⟨_,rfl,HK.ae⟩⟩):p:=h
theorem acM (w0:World)(n:Nat)(hn:1<=n)(l gq:Nat)(q:Qy)(L:QL)(zi zo:List (Ex×Value))(yw yg yh:List Ex)(Li Lc Lo:List (QE w0))
  (hF:RI w0 w0.heap.size L.i.A zi) (q2:RI w0 w0.heap.size L.o.A zo) (q3:RE w0 w0.heap.size L.w.A yw) (q4:RE w0 w0.heap.size L.g.A yg) (q5:RE w0 w0.heap.size L.h.A yh)
  (ni:L.i.n=zi.length) (no:L.o.n=zo.length) (nw:L.w.n=yw.length) (ng:L.g.n=yg.length) (nh:L.h.n=yh.length)
  (Au:Li.map (λ x=>x.1.1)=zi.map (·.1)) (Tn:Lo.map (λ x=>x.1.1)=zo.map (·.1)) (C3:Lc.map (λ x=>x.1.1)=yw++yg++yh) (ih:∀z∈zi,∃s,z.2=.string s) (q1:∀z∈zo,∃s,z.2=.bool s) (hlen:zi.length<=1000000/\zo.length<=1000000/\(yw++yg++yh).length<=1000000)
  (J Jx:List (QE w0)->World->Prop) (W:World) (hz:AbidesFrom W.heap.size J)
  (Nj:∀pre x W1,J pre W1->pre.length <(Li++Lc++Lo).length->YieldAt Fence.wide (n - 1) Tryz.prog l (Qm x) W1 λ e W'=>(e=.returned (.bool true)/\J (pre++ [x]) W'/\Fr W1 W')\/(e=.returned (.bool false)/\Jx (pre++ [x]) W'))
  (k1:aB W gq 27 (eI q L)) (Gu:Fr w0 W) (h0:J [] W):
  CallsIn Fence.wide n Tryz.prog 96 #[.func (.yield l) #[] #[],.pointer (some ⟨gq,0,none⟩)] W λ e W'=>(∃v,e=.returned v)/\((∃ys,ys=Li++Lc++Lo/\J ys W')\/(∃pre,pre <+: Li++Lc++Lo/\Jx pre W')):=by
 open zcV in exact Zbb
end Go.Proofs.YtndgjggokjickaaGreatDoor
